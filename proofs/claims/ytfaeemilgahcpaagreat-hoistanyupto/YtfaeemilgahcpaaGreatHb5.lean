/- PART 5 of 6 of a proof: see the last part. -/
import Derived.Test.YtfaeemilgahcpaaGreatHb4
set_option linter.unusedSimpArgs false
set_option linter.unusedVariables false
namespace Go.Proofs.YtfaeemilgahcpaaGreat
open Go
set_option maxRecDepth 8000 in
set_option maxHeartbeats 2000000 in
theorem sc_shHead (u : Un) (hW : r8Weight u ≤ 536870912) : SC Tryz.prog 37 [.pv u.enc] [] (fun _ => False) (iBool (shHead u)) [] := by
  refine SC.of Tryz.func37 rfl (lb rfl) fun F ρ w => ?_
  have hW2 : r8Weight u = u.arrays.length + u.flows.length + wtA u.arrays + wtF u.flows := rfl
  have hW3 : (u.arrays.length : Int) + u.flows.length ≤ 536870912 := by omega
  refine Tr.seq <| Tr.region rfl <| WL.cons rfl rfl rfl ((ok_box rfl rfl)) <| cV rfl (oA rfl) <| WL.nil <| Tr.seq <| Tr.region rfl <| WL.cons rfl rfl rfl (ok_makeMap (k := 109) rfl rfl rfl rfl rfl) <| cV rfl (oA rfl) <| WL.nil <| Tr.seq <| Tr.seq ?_
  refine Tr.region rfl <| cV rfl (oFe rfl tF25_0) <| cV rfl (oLe Tryz.underlying22 rfl rfl) ?_
  refine WL.lenOf (t := 11) rfl (fun hl1 => ?_)
  simp only [List.length_map] at hl1
  refine cV rfl (oSm Tryz.underlying22 rfl) <| cV rfl (oM rfl) <| WL.nil <| Tr.block <| Tr.sub (Sub.of (fr' := [(13, iInt 0), (12, iInt u.arrays.length), (11, .pv (arrs u.arrays)), (3, .mp 109), (1, .pv (.ept [arrs u.arrays, flws u.flows] 0))]) ⟨rfl, rfl, rfl, rfl, rfl, trivial⟩) ?_
  refine Tr.loop (fun fr σ m => ∃ (k : Nat) (es : List (Value × PV)), (k ≤ u.arrays.length) ∧ (u.arrays.all shArr = (u.arrays.drop k).all shArr) ∧ (countA [] u.arrays = countA es (u.arrays.drop k)) ∧ (Cnt es) ∧ fr = [(13, iInt k), (12, iInt u.arrays.length), (11, .pv (arrs u.arrays)), (3, .mp 109), (1, .pv (.ept [arrs u.arrays, flws u.flows] 0))] ∧ σ = look [(109, some (.map es))] ∧ m = u.arrays.length - k) (n := u.arrays.length - 0) ?_ ?_
  · exact ⟨0, [], Nat.zero_le _, rfl, rfl, Cnt.nil, rfl, rfl, rfl⟩
  rintro fr σ m ⟨k, es, hI0, hI1, hI2, hI3, rfl, rfl, rfl⟩
  refine Tr.seq <| Tr.region rfl <| cV rfl (oB rfl rfl rfl) <| WL.nil <| Tr.seq ?_
  refine Tr.cond rfl (fun hc14 => ?_) (fun hc14 => ?_)
  · have hlt : k < u.arrays.length := by simpa using hc14
    have hd := List.drop_eq_getElem_cons hlt
    have hm := List.getElem_mem hlt
    have hi := map_get (f := Ar.enc) (List.getElem?_eq_getElem hlt)
    generalize u.arrays[k] = x at hd hm hi
    refine Tr.skip <| Tr.seq <| Tr.block <| Tr.seq <| Tr.region rfl <| cV rfl (ok_index_seq rfl rfl rfl Tryz.underlying22 hi tS49 rfl (by rfl)) <| cV rfl (ok_load_ept_agg rfl rfl Tryz.underlying49 rfl tS49 (Nat.le_of_ble_eq_true rfl)) <| WL.cons rfl rfl rfl (ok_alloc (k := 105) rfl tZ49 rfl rfl rfl rfl) <| WL.cons0 rfl rfl (ok_store_box_agg rfl rfl rfl rfl rfl ((fun h => h)) tS49 (firmL_ok rfl) (lb rfl)) <| WL.nil <| Tr.seq <| Tr.freezeBox (t := 5) (k := 105) rfl rfl rfl ?_
    refine Tr.heap (σ' := look [(109, some (.map es))]) (fun k => by
      simp only [look]
      by_cases h : 105 = k
      · subst h; rfl
      · simp [beq_ne h]) ?_
    obtain ⟨n, hn⟩ := hI3.find (.string x.name)
    have hbump := bump_eq hn
    have hes := hI3.1
    refine Tr.region rfl <| cV rfl (oM rfl) <| cV rfl (oFe rfl tF49_0) <| cV rfl (oLe Tryz.underlying9 rfl rfl) <| cV rfl (ok_lookup rfl rfl rfl rfl Tryz.underlying92 Tryz.underlying9 rfl (by assumption) tZ3 trivial) <| WL.sub (Sub.of (fr' := [(20, iInt n), (19, iStr x.name), (17, .mp 109), (5, .pv (.ept [vStr x.name, vInt x.size] 0)), (13, iInt k), (12, iInt u.arrays.length), (11, .pv (arrs u.arrays)), (3, .mp 109), (1, .pv (.ept [arrs u.arrays, flws u.flows] 0))]) ⟨congrArg (fun p => some (IV.pv p)) hn, rfl, rfl, rfl, rfl, rfl, rfl, rfl, rfl, trivial⟩) <| cV rfl (oB rfl rfl rfl) <| WL.cons0 rfl rfl (ok_mapUpdate rfl rfl rfl rfl rfl ((fun h => h)) Tryz.underlying92 Tryz.underlying9 rfl (by assumption)) <| WL.nil <| Tr.seq <| Tr.region rfl <| cV rfl (oFe rfl tF49_0) ?_
    refine cV rfl (oLe Tryz.underlying9 rfl rfl) <| WL.cons rfl rfl rfl (ok_callq (sc_tkName _) ent55 rfl rfl (Subs.refl _ _) rfl) <| cV rfl (oN rfl) <| cV rfl (oM rfl) ?_
    refine WL.split (t := 26) rfl (fun hb26 => ?_) (fun hb26 => ?_)
    · refine nV rfl rfl <| nV rfl rfl <| nV rfl rfl <| cV rfl (oT rfl rfl) <| cV rfl (oM rfl) <| nV rfl rfl <| nV rfl rfl <| nV rfl rfl <| cV rfl (oT rfl rfl) <| WL.nil <| Tr.condT rfl <| Tr.seq ?_
      refine Tr.region rfl <| cV rfl (oA rfl) <| WL.nil <| Tr.ret ?_
      refine ret_ok rfl ?_ no_post
      have hx : shArr x = false := by
        clear hd hm hi hI1 hI2 hn
        simp_all [shArr]
      have hA : u.arrays.all shArr = false := by rw [hI1, hd]; simp only [List.all_cons, hx, Bool.false_and]
      simp only [shHead, hA, Bool.false_and]
    refine yV rfl rfl (oFe rfl tF49_1) <| yV rfl rfl (oLe Tryz.underlying3 rfl rfl) <| yV rfl rfl (oB rfl rfl rfl) <| cV rfl (oF rfl rfl) <| cV rfl (oM rfl) ?_
    refine WL.split (t := 31) rfl (fun hb31 => ?_) (fun hb31 => ?_)
    · refine nV rfl rfl <| nV rfl rfl <| nV rfl rfl <| cV rfl (oT rfl rfl) <| WL.nil <| Tr.condT rfl <| Tr.seq <| Tr.region rfl <| cV rfl (oA rfl) <| WL.nil <| Tr.ret ?_
      refine ret_ok rfl ?_ no_post
      have hx : shArr x = false := by
        clear hd hm hi hI1 hI2 hn
        simp_all [shArr]
      have hA : u.arrays.all shArr = false := by rw [hI1, hd]; simp only [List.all_cons, hx, Bool.false_and]
      simp only [shHead, hA, Bool.false_and]
    refine yV rfl rfl (oFe rfl tF49_1) <| yV rfl rfl (oLe Tryz.underlying3 rfl rfl) <| yV rfl rfl (oB rfl rfl rfl) <| cV rfl (oF rfl rfl) <| WL.nil ?_
    refine Tr.cond rfl (fun hc35 => ?_) (fun hc35 => ?_)
    · refine Tr.seq <| Tr.region rfl <| cV rfl (oA rfl) <| WL.nil <| Tr.ret ?_
      refine ret_ok rfl ?_ no_post
      have hx : shArr x = false := by
        clear hd hm hi hI1 hI2 hn
        simp_all [shArr]
      have hA : u.arrays.all shArr = false := by rw [hI1, hd]; simp only [List.all_cons, hx, Bool.false_and]
      simp only [shHead, hA, Bool.false_and]
    refine Tr.skip <| Tr.region rfl <| cV rfl (oB rfl rfl (i64_add rfl (by omega))) <| cV rfl (oM rfl) <| WL.nil ?_
    refine ⟨_, _, ?_, Sub.of (fr' := [(13, iInt (k + 1)), (12, iInt u.arrays.length), (11, .pv (arrs u.arrays)), (3, .mp 109), (1, .pv (.ept [arrs u.arrays, flws u.flows] 0))]) ⟨rfl, rfl, rfl, rfl, rfl, trivial⟩, (k + 1), (bump x.name es), ?_, ?_, ?_, ?_, rfl, (funext fun j => by
    simp only [look, ← hbump]
    by_cases h : 109 = j
    · subst h; rfl
    · simp [beq_ne h]), rfl⟩
    · omega
    · omega
    · rw [hI1, hd]
      have hx : shArr x = true := by
        clear hd hm hi hI1 hI2 hn
        simp_all [shArr]
      simp only [List.all_cons, hx, Bool.true_and]
    · rw [hI2, hd]; rfl
    exact hI3.bump _
  refine Tr.exit <| Tr.seq <| Tr.seq ?_
  have hA : u.arrays.all shArr = true := by
    rw [hI1, List.drop_eq_nil_of_le (by simpa using hc14)]; rfl
  have hcA : countA [] u.arrays = es := by
    rw [hI2, List.drop_eq_nil_of_le (by simpa using hc14)]; rfl
  generalize es = es0 at hcA hI3 ⊢
  refine Tr.region rfl <| cV rfl (oFe rfl tF25_1) <| cV rfl (oLe Tryz.underlying23 rfl rfl) ?_
  refine WL.lenOf (t := 38) rfl (fun hl2 => ?_)
  simp only [List.length_map] at hl2
  refine cV rfl (oSm Tryz.underlying23 rfl) <| cV rfl (oM rfl) <| WL.nil <| Tr.block <| Tr.sub (Sub.of (fr' := [(40, iInt 0), (39, iInt u.flows.length), (38, .pv (flws u.flows)), (3, .mp 109), (1, .pv (.ept [arrs u.arrays, flws u.flows] 0))]) ⟨rfl, rfl, rfl, rfl, rfl, trivial⟩) ?_
  refine Tr.loop (fun fr σ m => ∃ (k : Nat) (es : List (Value × PV)), (k ≤ u.flows.length) ∧ (u.flows.all shFlw = (u.flows.drop k).all shFlw) ∧ (countF es0 u.flows = countF es (u.flows.drop k)) ∧ (Cnt es) ∧ fr = [(40, iInt k), (39, iInt u.flows.length), (38, .pv (flws u.flows)), (3, .mp 109), (1, .pv (.ept [arrs u.arrays, flws u.flows] 0))] ∧ σ = look [(109, some (.map es))] ∧ m = u.flows.length - k) (n := u.flows.length - 0) ?_ ?_
  · exact ⟨0, es0, Nat.zero_le _, rfl, rfl, hI3, rfl, rfl, rfl⟩
  · rintro fr σ m ⟨k, es, hJ0, hJ1, hJ2, hJ3, rfl, rfl, rfl⟩
    refine Tr.seq <| Tr.region rfl <| cV rfl (oB rfl rfl rfl) <| WL.nil <| Tr.seq ?_
    refine Tr.cond rfl (fun hc41 => ?_) (fun hc41 => ?_)
    · have hlt : k < u.flows.length := by simpa using hc41
      have hd := List.drop_eq_getElem_cons hlt
      have hm := List.getElem_mem hlt
      have hi := map_get (f := Fl.enc) (List.getElem?_eq_getElem hlt)
      generalize u.flows[k] = x at hd hm hi
      refine Tr.skip <| Tr.seq <| Tr.block <| Tr.seq <| Tr.region rfl <| cV rfl (ok_index_seq rfl rfl rfl Tryz.underlying23 hi tS51 rfl (by rfl)) <| cV rfl (ok_load_ept_agg rfl rfl Tryz.underlying51 rfl tS51 (Nat.le_of_ble_eq_true rfl)) <| WL.cons rfl rfl rfl (ok_alloc (k := 107) rfl tZ51 rfl rfl rfl rfl) <| WL.cons0 rfl rfl (ok_store_box_agg rfl rfl rfl rfl rfl ((fun h => h)) tS51 (firmL_ok rfl) (lb rfl)) <| WL.nil <| Tr.seq <| Tr.freezeBox (t := 7) (k := 107) rfl rfl rfl ?_
      refine Tr.heap (σ' := look [(109, some (.map es))]) (fun k => by
        simp only [look]
        by_cases h : 107 = k
        · subst h; rfl
        · simp [beq_ne h]) ?_
      obtain ⟨n, hn⟩ := hJ3.find (.string x.name)
      have hbump := bump_eq hn
      have hes := hJ3.1
      refine Tr.region rfl <| cV rfl (oM rfl) <| cV rfl (oFe rfl tF51_0) <| cV rfl (oLe Tryz.underlying9 rfl rfl) <| cV rfl (ok_lookup rfl rfl rfl rfl Tryz.underlying92 Tryz.underlying9 rfl (by assumption) tZ3 trivial) <| WL.sub (Sub.of (fr' := [(47, iInt n), (46, iStr x.name), (44, .mp 109), (7, .pv (.ept [vStr x.name, vInt x.ty, vInt x.params, ints x.types, nodes x.body] 0)), (40, iInt k), (39, iInt u.flows.length), (38, .pv (flws u.flows)), (3, .mp 109), (1, .pv (.ept [arrs u.arrays, flws u.flows] 0))]) ⟨congrArg (fun p => some (IV.pv p)) hn, rfl, rfl, rfl, rfl, rfl, rfl, rfl, rfl, trivial⟩) <| cV rfl (oB rfl rfl rfl) <| WL.cons0 rfl rfl (ok_mapUpdate rfl rfl rfl rfl rfl ((fun h => h)) Tryz.underlying92 Tryz.underlying9 rfl (by assumption)) <| WL.nil <| Tr.seq <| Tr.region rfl <| cV rfl (oFe rfl tF51_0) ?_
      refine cV rfl (oLe Tryz.underlying9 rfl rfl) <| WL.cons rfl rfl rfl (ok_callq (sc_tkName _) ent55 rfl rfl (Subs.refl _ _) rfl) <| cV rfl (oN rfl) <| cV rfl (oM rfl) ?_
      refine WL.split (t := 53) rfl (fun hb53 => ?_) (fun hb53 => ?_)
      · refine nV rfl rfl <| nV rfl rfl <| nV rfl rfl <| nV rfl rfl <| cV rfl (oT rfl rfl) <| cV rfl (oM rfl) <| nV rfl rfl <| nV rfl rfl <| nV rfl rfl <| cV rfl (oT rfl rfl) <| cV rfl (oM rfl) <| nV rfl rfl ?_
        refine nV rfl rfl <| nV rfl rfl <| nV rfl rfl <| nV rfl rfl <| nV rfl rfl <| cV rfl (oT rfl rfl) <| WL.nil <| Tr.condT rfl <| Tr.seq <| Tr.region rfl <| cV rfl (oA rfl) <| WL.nil ?_
        refine Tr.ret ?_
        refine ret_ok rfl ?_ no_post
        have hx : shFlw x = false := by
          clear hd hm hi hJ1 hJ2 hn
          simp_all [shFlw]
        have hF : u.flows.all shFlw = false := by rw [hJ1, hd]; simp only [List.all_cons, hx, Bool.false_and]
        simp only [shHead, hF, Bool.false_and, Bool.and_false]
      refine yV rfl rfl (oFe rfl tF51_1) <| yV rfl rfl (oLe Tryz.underlying3 rfl rfl) <| WL.yes rfl rfl rfl rfl rfl rfl (ok_callq (sc_isTy _) ent56 rfl rfl (Subs.refl _ _) rfl) <| yV rfl rfl (oN rfl) <| cV rfl (oF rfl rfl) <| cV rfl (oM rfl) ?_
      refine WL.split (t := 59) rfl (fun hb59 => ?_) (fun hb59 => ?_)
      · refine nV rfl rfl <| nV rfl rfl <| nV rfl rfl <| cV rfl (oT rfl rfl) <| cV rfl (oM rfl) <| nV rfl rfl <| nV rfl rfl <| nV rfl rfl <| nV rfl rfl <| nV rfl rfl <| nV rfl rfl <| cV rfl (oT rfl rfl) ?_
        refine WL.nil <| Tr.condT rfl <| Tr.seq <| Tr.region rfl <| cV rfl (oA rfl) <| WL.nil <| Tr.ret ?_
        refine ret_ok rfl ?_ no_post
        have hx : shFlw x = false := by
          clear hd hm hi hJ1 hJ2 hn
          simp_all [shFlw]
        have hF : u.flows.all shFlw = false := by rw [hJ1, hd]; simp only [List.all_cons, hx, Bool.false_and]
        simp only [shHead, hF, Bool.false_and, Bool.and_false]
      refine yV rfl rfl (oFe rfl tF51_2) <| yV rfl rfl (oLe Tryz.underlying3 rfl rfl) <| yV rfl rfl (oB rfl rfl rfl) <| cV rfl (oF rfl rfl) <| cV rfl (oM rfl) ?_
      refine WL.split (t := 64) rfl (fun hb64 => ?_) (fun hb64 => ?_)
      · refine nV rfl rfl <| nV rfl rfl <| nV rfl rfl <| nV rfl rfl <| nV rfl rfl <| nV rfl rfl <| cV rfl (oT rfl rfl) <| WL.nil <| Tr.condT rfl <| Tr.seq <| Tr.region rfl <| cV rfl (oA rfl) ?_
        refine WL.nil <| Tr.ret ?_
        refine ret_ok rfl ?_ no_post
        have hx : shFlw x = false := by
          clear hd hm hi hJ1 hJ2 hn
          simp_all [shFlw]
        have hF : u.flows.all shFlw = false := by rw [hJ1, hd]; simp only [List.all_cons, hx, Bool.false_and]
        simp only [shHead, hF, Bool.false_and, Bool.and_false]
      refine yV rfl rfl (oFe rfl tF51_2) <| yV rfl rfl (oLe Tryz.underlying3 rfl rfl) <| yV rfl rfl (oFe rfl tF51_3) <| yV rfl rfl (oLe Tryz.underlying35 rfl rfl) <| yV rfl rfl (oSm Tryz.underlying35 rfl) <| yV rfl rfl (oB rfl rfl rfl) <| cV rfl (oF rfl rfl) <| WL.nil ?_
      refine Tr.cond rfl (fun hc71 => ?_) (fun hc71 => ?_)
      · refine Tr.seq <| Tr.region rfl <| cV rfl (oA rfl) <| WL.nil <| Tr.ret ?_
        refine ret_ok rfl ?_ no_post
        have hx : shFlw x = false := by
          clear hd hm hi hJ1 hJ2 hn
          simp_all [shFlw]
        have hF : u.flows.all shFlw = false := by rw [hJ1, hd]; simp only [List.all_cons, hx, Bool.false_and]
        simp only [shHead, hF, Bool.false_and, Bool.and_false]
      refine Tr.skip <| Tr.region rfl <| cV rfl (oB rfl rfl (i64_add rfl (by omega))) <| cV rfl (oM rfl) <| WL.nil ?_
      refine ⟨_, _, ?_, Sub.of (fr' := [(40, iInt (k + 1)), (39, iInt u.flows.length), (38, .pv (flws u.flows)), (3, .mp 109), (1, .pv (.ept [arrs u.arrays, flws u.flows] 0))]) ⟨rfl, rfl, rfl, rfl, rfl, trivial⟩, (k + 1), (bump x.name es), ?_, ?_, ?_, ?_, rfl, (funext fun j => by
  simp only [look, ← hbump]
  by_cases h : 109 = j
  · subst h; rfl
  · simp [beq_ne h]), rfl⟩
      · omega
      · omega
      · rw [hJ1, hd]
        have hx : shFlw x = true := by
          clear hd hm hi hJ1 hJ2 hn
          simp_all [shFlw]
        simp only [List.all_cons, hx, Bool.true_and]
      · rw [hJ2, hd]; rfl
      exact hJ3.bump _
    refine Tr.exit <| Tr.seq ?_
    have hF : u.flows.all shFlw = true := by
      rw [hJ1, List.drop_eq_nil_of_le (by simpa using hc41)]; rfl
    have hcF : countF (countA [] u.arrays) u.flows = es := by
      rw [hcA, hJ2, List.drop_eq_nil_of_le (by simpa using hc41)]; rfl
    clear hJ1 hJ2 hI1 hI2
    refine Tr.region rfl <| cV rfl (ok_load_ept_agg rfl rfl Tryz.underlying25 rfl tS25 (Nat.le_of_ble_eq_true rfl)) <| WL.cons rfl rfl rfl (ok_callq (sc_shPlace u mainName) ent57 rfl rfl (Subs.refl _ _) rfl) <| cV rfl (oA rfl) <| WL.nil <| Tr.seq <| Tr.region rfl <| cV rfl (oM rfl) <| cV rfl (ok_len_map rfl rfl rfl Tryz.underlying92 trivial) <| cV rfl (oFe rfl tF25_0) <| cV rfl (oLe Tryz.underlying22 rfl rfl) <| cV rfl (oSm Tryz.underlying22 rfl) ?_
    refine WL.lenOf (t := 78) rfl (fun hl1 => ?_)
    simp only [List.length_map] at hl1
    refine cV rfl (oFe rfl tF25_1) <| cV rfl (oLe Tryz.underlying23 rfl rfl) <| cV rfl (oSm Tryz.underlying23 rfl) ?_
    refine WL.lenOf (t := 81) rfl (fun hl2 => ?_)
    simp only [List.length_map] at hl2
    refine cV rfl (oB rfl rfl (i64_add rfl (by omega))) <| cV rfl (oB rfl rfl rfl) <| cV rfl (oM rfl) ?_
    refine WL.split (t := 85) rfl (fun hb85 => ?_) (fun hb85 => ?_)
    · refine yV rfl rfl (oM rfl) <| yV rfl rfl (oB rfl rfl rfl) <| cV rfl (oT rfl rfl) <| cV rfl (oM rfl) ?_
      refine WL.split (t := 89) rfl (fun hb89 => ?_) (fun hb89 => ?_)
      · have hk0 : r8Place mainName u.flows 0 ≥ 0 := by simp_all
        obtain ⟨g, hgk, _⟩ := r8Place_at hk0
        have hgi : (u.flows.map Fl.enc)[(r8Place mainName u.flows 0).toNat]? = some g.enc := map_get hgk
        have hgd : u.flows.getD (r8Place mainName u.flows 0).toNat flDef = g := by simp [List.getD, hgk]
        refine yV rfl rfl (oFe rfl tF25_1) <| yV rfl rfl (oLe Tryz.underlying23 rfl rfl) <| yV rfl rfl (oM rfl) <| yV rfl rfl (ok_index_seq rfl rfl rfl Tryz.underlying23 hgi tS51 rfl (by omega)) <| yV rfl rfl (oFe rfl tF51_1) <| yV rfl rfl (oLe Tryz.underlying3 rfl rfl) <| yV rfl rfl (oB rfl rfl rfl) <| cV rfl (oT rfl rfl) <| cV rfl (oM rfl) ?_
        refine WL.split (t := 98) rfl (fun hb98 => ?_) (fun hb98 => ?_)
        · refine yV rfl rfl (oFe rfl tF25_1) <| yV rfl rfl (oLe Tryz.underlying23 rfl rfl) <| yV rfl rfl (oM rfl) <| yV rfl rfl (ok_index_seq rfl rfl rfl Tryz.underlying23 hgi tS51 rfl (by omega)) <| yV rfl rfl (oFe rfl tF51_2) <| yV rfl rfl (oLe Tryz.underlying3 rfl rfl) <| yV rfl rfl (oB rfl rfl rfl) <| cV rfl (oT rfl rfl) <| cV rfl (oA rfl) <| WL.nil <| Tr.ret ?_
          refine ret_ok rfl ?_ no_post
          refine congrArg (fun b => iBool b) ?_
          simp only [shHead, hA, hF, hcF, r8main, Bool.true_and]
          simp_all
        refine nV rfl rfl <| nV rfl rfl <| nV rfl rfl <| nV rfl rfl <| nV rfl rfl <| nV rfl rfl <| nV rfl rfl <| cV rfl (oF rfl rfl) <| cV rfl (oA rfl) <| WL.nil <| Tr.ret ?_
        refine ret_ok rfl ?_ no_post
        refine congrArg (fun b => iBool b) ?_
        simp only [shHead, hA, hF, hcF, r8main, Bool.true_and]
        simp_all
      refine nV rfl rfl <| nV rfl rfl <| nV rfl rfl <| nV rfl rfl <| nV rfl rfl <| nV rfl rfl <| nV rfl rfl <| cV rfl (oF rfl rfl) <| cV rfl (oM rfl) <| nV rfl rfl <| nV rfl rfl <| nV rfl rfl ?_
      refine nV rfl rfl <| nV rfl rfl <| nV rfl rfl <| nV rfl rfl <| cV rfl (oF rfl rfl) <| cV rfl (oA rfl) <| WL.nil <| Tr.ret ?_
      refine ret_ok rfl ?_ no_post
      refine congrArg (fun b => iBool b) ?_
      simp only [shHead, hA, hF, hcF, r8main, Bool.true_and]
      (simp_all <;> omega)
    refine nV rfl rfl <| nV rfl rfl <| cV rfl (oF rfl rfl) <| cV rfl (oM rfl) <| nV rfl rfl <| nV rfl rfl <| nV rfl rfl <| nV rfl rfl <| nV rfl rfl <| nV rfl rfl <| nV rfl rfl <| cV rfl (oF rfl rfl) ?_
    refine cV rfl (oM rfl) <| nV rfl rfl <| nV rfl rfl <| nV rfl rfl <| nV rfl rfl <| nV rfl rfl <| nV rfl rfl <| nV rfl rfl <| cV rfl (oF rfl rfl) <| cV rfl (oA rfl) <| WL.nil <| Tr.ret ?_
    refine ret_ok rfl ?_ no_post
    refine congrArg (fun b => iBool b) ?_
    simp only [shHead, hA, hF, hcF, r8main, Bool.true_and]
    simp_all
set_option maxRecDepth 8000 in
set_option maxHeartbeats 2000000 in
theorem sc_shCheck (u : Un) (hW : r8Weight u ≤ 536870912) : SC Tryz.prog 22 [.pv u.enc] [] (fun _ => False) (.tup [iInt (shCheck u).1, iInt (shCheck u).2]) [] := by
  refine SC.of Tryz.func22 rfl (lb rfl) fun F ρ w => ?_
  refine Tr.seq <| Tr.region rfl <| WL.cons rfl rfl rfl ((ok_box rfl rfl)) <| cV rfl (oA rfl) <| cV rfl (oA rfl) <| WL.nil <| Tr.seq <| Tr.seq <| Tr.region rfl <| cV rfl (ok_load_ept_agg rfl rfl Tryz.underlying25 rfl tS25 (Nat.le_of_ble_eq_true rfl)) <| WL.cons rfl rfl rfl (ok_callq (sc_shHead u hW) ent37 rfl rfl (Subs.refl _ _) rfl) <| cV rfl (oN rfl) ?_
  refine WL.nil ?_
  refine Tr.cond rfl (fun hc8 => ?_) (fun hc8 => ?_)
  · refine Tr.seq <| Tr.region rfl <| cV rfl (oA rfl) <| cV rfl (oA rfl) <| WL.nil <| Tr.ret ?_
    refine ret_ok rfl ?_ no_post
    have hg : shHead u = false := by simpa using hc8
    simp [shCheck, hg]
  have hg : shHead u = true := by simpa using hc8
  refine Tr.skip <| Tr.seq <| Tr.seq <| Tr.region rfl <| cV rfl (oFe rfl tF25_1) <| cV rfl (oLe Tryz.underlying23 rfl rfl) ?_
  refine WL.lenOf (t := 10) rfl (fun hl1 => ?_)
  simp only [List.length_map] at hl1
  refine cV rfl (oSm Tryz.underlying23 rfl) <| cV rfl (oM rfl) <| WL.nil <| Tr.block <| Tr.sub (Sub.of (fr' := [(12, iInt 0), (11, iInt u.flows.length), (10, .pv (flws u.flows)), (1, .pv (.ept [arrs u.arrays, flws u.flows] 0))]) ⟨rfl, rfl, rfl, rfl, trivial⟩) ?_
  refine Tr.loop (fun fr σ m => ∃ (k : Nat), (k ≤ u.flows.length) ∧ (shflows u u.flows 0 = shflows u (u.flows.drop k) k) ∧ fr = [(12, iInt k), (11, iInt u.flows.length), (10, .pv (flws u.flows)), (1, .pv (.ept [arrs u.arrays, flws u.flows] 0))] ∧ σ = look [] ∧ m = u.flows.length - k) (n := u.flows.length - 0) ?_ ?_
  · exact ⟨0, Nat.zero_le _, rfl, rfl, rfl, rfl⟩
  rintro fr σ m ⟨k, hI0, hI1, rfl, rfl, rfl⟩
  refine Tr.seq <| Tr.region rfl <| cV rfl (oB rfl rfl rfl) <| WL.nil <| Tr.seq ?_
  refine Tr.cond rfl (fun hc13 => ?_) (fun hc13 => ?_)
  · have hlt : k < u.flows.length := by simpa using hc13
    have hd := List.drop_eq_getElem_cons hlt
    have hm := List.getElem_mem hlt
    have hi := map_get (f := Fl.enc) (List.getElem?_eq_getElem hlt)
    generalize u.flows[k] = x at hd hm hi
    refine Tr.skip <| Tr.seq <| Tr.block <| Tr.seq <| Tr.region rfl <| cV rfl (oM rfl) <| cV rfl (ok_index_seq rfl rfl rfl Tryz.underlying23 hi tS51 rfl (by rfl)) <| cV rfl (ok_load_ept_agg rfl rfl Tryz.underlying51 rfl tS51 (Nat.le_of_ble_eq_true rfl)) <| WL.cons rfl rfl rfl (ok_alloc (k := 105) rfl tZ51 rfl rfl rfl rfl) <| cV rfl (oA rfl) <| WL.cons0 rfl rfl (ok_store_box_agg rfl rfl rfl rfl rfl ((fun h => h)) tS51 (firmL_ok rfl) (lb rfl)) <| WL.nil ?_
    refine Tr.seq <| Tr.freezeBox (t := 5) (k := 105) rfl rfl rfl <| Tr.heap (σ' := look []) (fun k => by simp only [look]; cases Nat.beq 105 k <;> rfl) <| Tr.region rfl <| cV rfl (ok_load_ept_agg rfl rfl Tryz.underlying25 rfl tS25 (Nat.le_of_ble_eq_true rfl)) <| cV rfl (ok_load_ept_agg rfl rfl Tryz.underlying51 rfl tS51 (Nat.le_of_ble_eq_true rfl)) <| WL.cons rfl rfl rfl (ok_callq (sc_shFlow u x (shHead_params hg) (shHead_params hg x hm) (flow_le hW hm)) ent38 rfl rfl (Subs.refl _ _) rfl) <| cV rfl (oN rfl) <| WL.nil ?_
    refine Tr.cond rfl (fun hc20 => ?_) (fun hc20 => ?_)
    · refine Tr.seq <| Tr.region rfl <| cV rfl (oM rfl) <| cV rfl (oA rfl) <| cV rfl (oA rfl) <| WL.nil <| Tr.ret ?_
      refine ret_ok rfl ?_ no_post
      have hx : shFlow u x = false := by simpa using hc20
      simp only [shCheck, hg, if_true, hI1, hd, shflows, hx, Bool.false_eq_true, if_false]
    refine Tr.skip <| Tr.region rfl <| cV rfl (oB rfl rfl (i64_add rfl (by omega))) <| cV rfl (oM rfl) <| WL.nil ?_
    refine ⟨_, _, ?_, Sub.of (fr' := [(12, iInt (k + 1)), (11, iInt u.flows.length), (10, .pv (flws u.flows)), (1, .pv (.ept [arrs u.arrays, flws u.flows] 0))]) ⟨rfl, rfl, rfl, rfl, trivial⟩, (k + 1), ?_, ?_, rfl, rfl, rfl⟩
    · omega
    · omega
    rw [hI1, hd]
    have hx : shFlow u x = true := by simpa using hc20
    simp only [shflows, hx, if_true]
    rfl
  refine Tr.exit <| Tr.seq <| Tr.region rfl <| cV rfl (oA rfl) <| cV rfl (oA rfl) <| WL.nil <| Tr.ret ?_
  refine ret_ok rfl ?_ no_post
  have hge : u.flows.length ≤ k := by simpa using hc13
  simp only [shCheck, hg, if_true, hI1, List.drop_eq_nil_of_le hge, shflows]
structure Rl (n : Nat) (st : List Int) (set : List Bool) (seen : List Int) : Prop where
  l1 : st.length = n
  l2 : set.length = n
  s : ∀ v : Nat, v < n → set.getD v false = !(st.getD v 0 == 0)
  u : ∀ v : Nat, v < n → seen.contains (v : Int) = (st.getD v 0 == 1)
theorem getD_set {α : Type} {l : List α} {i j : Nat} {a d : α} : (l.set i a).getD j d = if i = j ∧ i < l.length then a else l.getD j d := by
  simp only [List.getD_eq_getElem?_getD, List.getElem?_set]
  by_cases h : i = j
  · subst h
    by_cases h2 : i < l.length
    · simp [h2]
    simp [h2]
  simp [h]
/-- May be used. -/
theorem use_rl {tys st : List Int} {set : List Bool} {seen : List Int} (h : Rl tys.length st set seen) (v w : Int) : r8use tys seen v w = (shUse tys st v w).1 := by
  unfold r8use shUse shVal
  by_cases h0 : 0 ≤ v
  · by_cases h1 : v < tys.length
    · have hv : v = (v.toNat : Int) := by omega
      have hu := h.u v.toNat (by omega)
      rw [← hv] at hu
      have e1 : decide (v < 0) = false := by simpa using h0
      have e2 : decide (v ≥ tys.length) = false := by simpa using h1
      have e3 : decide (0 ≤ v) = true := by simpa using h0
      have e4 : decide (v < tys.length) = true := by simpa using h1
      simp only [e1, e2, e3, e4, hu, Bool.false_or, Bool.true_and]
      clear hv e1 e2 e3 e4
      cases hw : (w == 0) <;> cases ht : (tys.getD v.toNat 0 == w) <;> cases hs : (st.getD v.toNat 0 == 1) <;> simp_all [bne]
    have e2 : decide (v ≥ tys.length) = true := by simp; omega
    have e4 : decide (v < tys.length) = false := by simp; omega
    simp [e2, e4]
  have e1 : decide (v < 0) = true := by simp; omega
  have e3 : decide (0 ≤ v) = false := by simp; omega
  simp [e1, e3]
theorem usesGo_rl {tys st : List Int} {set : List Bool} {seen : List Int} (h : Rl tys.length st set seen) : ∀ (a b : List Int), r8typesGo tys seen a b = (eqGo (shUse tys) st a b).1
  | [], _ => by simp [r8typesGo, eqGo]
  | _ :: _, [] => by simp [r8typesGo, eqGo]
  | x :: a, y :: b => by
    simp only [r8typesGo, eqGo, use_rl h x y]
    have h2 : (shUse tys st x y).2 = st := rfl
    cases hx : (shUse tys st x y).1 with
    | true => simp [h2, usesGo_rl h a b]
    | false => simp
theorem uses_rl {tys st : List Int} {set : List Bool} {seen : List Int} (h : Rl tys.length st set seen) (a b : List Int) : r8types tys seen a b = shUses tys st a b := by
  unfold r8types shUses eqf
  by_cases hl : (a.length : Int) = b.length
  · rw [if_pos hl]
    have : ((a.length : Int) == b.length) = true := by simpa using hl
    rw [this, Bool.true_and, usesGo_rl h]
  rw [if_neg hl]
  have : ((a.length : Int) == b.length) = false := by simpa using hl
  rw [this, Bool.false_and]
/-- Values are set. -/
theorem set1_rl {tys st : List Int} {set : List Bool} {seen : List Int} (h : Rl tys.length st set seen) (v w : Int) :
    r8bad tys set v w = !(shSet1 tys st v w).1 ∧ ((shSet1 tys st v w).1 = true → Rl tys.length (shSet1 tys st v w).2 (set.set v.toNat true) (seen ++ [v]) ∧ 0 ≤ v ∧ v < tys.length ∧ seen.contains v = false) := by
  unfold r8bad shSet1 shVal
  by_cases h0 : 0 ≤ v
  · by_cases h1 : v < tys.length
    · have hv : v = (v.toNat : Int) := by omega
      have hn : v.toNat < tys.length := by omega
      have hs := h.s v.toNat hn
      have hu := h.u v.toNat hn
      rw [← hv] at hu
      have e1 : decide (v < 0) = false := by simpa using h0
      have e2 : decide (v ≥ tys.length) = false := by simpa using h1
      have e3 : decide (0 ≤ v) = true := by simpa using h0
      have e4 : decide (v < tys.length) = true := by simpa using h1
      simp only [e1, e2, e3, e4, hs, Bool.false_or, Bool.true_and]
      refine ⟨by clear hv e1 e2 e3 e4; cases hw : (w == 0) <;> cases ht : (tys.getD v.toNat 0 == w) <;> cases hz : (st.getD v.toNat 0 == 0) <;> simp_all [bne], fun hc => ?_⟩
      split at hc
      · rename_i hif
        rw [if_pos hif]
        simp only [Bool.and_eq_true] at hif
        have hz : st.getD v.toNat 0 = 0 := by simpa using hif.2
        refine ⟨⟨by simpa using h.l1, by simpa using h.l2, fun j hj => ?_, fun j hj => ?_⟩, h0, h1, by rw [hu, hz]; rfl⟩
        · rw [getD_set, getD_set]
          by_cases e : v.toNat = j
          · subst e; simp [h.l1, h.l2, hn]
          simp only [e, false_and, if_false]; exact h.s j hj
        rw [getD_set]
        simp only [List.contains_append, List.contains_cons, List.contains_nil, Bool.or_false]
        by_cases e : v.toNat = j
        · subst e
          have : ((v.toNat : Int) == v) = true := by simpa using hv.symm
          rw [this, Bool.or_true, if_pos ⟨rfl, by rw [h.l1]; exact hn⟩]; rfl
        have : ((j : Int) == v) = false := by simp; omega
        simp only [e, false_and, if_false, this, Bool.or_false]
        exact h.u j hj
      cases hc
    have e2 : decide (v ≥ tys.length) = true := by simp; omega
    have e4 : decide (v < tys.length) = false := by simp; omega
    simp [e2, e4]
  have e1 : decide (v < 0) = true := by simp; omega
  have e3 : decide (0 ≤ v) = false := by simp; omega
  simp [e1, e3]
theorem setsGo_rl {tys : List Int} : ∀ (a b st : List Int) (set : List Bool) (seen : List Int), a.length = b.length → Rl tys.length st set seen →
    (r8setsGo tys set a b).1 = (eqGo (shSet1 tys) st a b).1 ∧ ((eqGo (shSet1 tys) st a b).1 = true → Rl tys.length (eqGo (shSet1 tys) st a b).2 (r8setsGo tys set a b).2 (seen ++ a) ∧ ∀ v ∈ a, 0 ≤ v ∧ v < tys.length ∧ seen.contains v = false)
  | [], _, st, set, seen, _, h => by simp [r8setsGo, eqGo]; exact h
  | _ :: _, [], _, _, _, hl, _ => by simp at hl
  | x :: a, y :: b, st, set, seen, hl, h => by
    obtain ⟨h1, h2⟩ := set1_rl h x y
    simp only [r8setsGo, eqGo, h1]
    cases hx : (shSet1 tys st x y).1 with
    | false => simp
    | true =>
      obtain ⟨h3, h4, h5, h6⟩ := h2 hx
      obtain ⟨ih1, ih2⟩ := setsGo_rl a b _ _ _ (by simpa using hl) h3
      simp only [Bool.not_true, Bool.false_eq_true, if_false, if_true]
      refine ⟨ih1, fun hc => ?_⟩
      obtain ⟨h7, h8⟩ := ih2 hc
      refine ⟨by simpa using h7, fun v hv => ?_⟩
      rcases List.mem_cons.1 hv with rfl | hv
      · exact ⟨h4, h5, h6⟩
      obtain ⟨g1, g2, g3⟩ := h8 v hv
      refine ⟨g1, g2, ?_⟩
      rw [List.contains_append, Bool.or_eq_false_iff] at g3
      exact g3.1
theorem sets_rl {tys st : List Int} {set : List Bool} {seen : List Int} (h : Rl tys.length st set seen) (a b : List Int) :
    (r8sets tys set a b).1 = (shSets tys st a b).1 ∧ ((shSets tys st a b).1 = true → Rl tys.length (shSets tys st a b).2 (r8sets tys set a b).2 (seen ++ a) ∧ ∀ v ∈ a, 0 ≤ v ∧ v < tys.length ∧ seen.contains v = false) := by
  unfold r8sets shSets eqf
  by_cases hl : (a.length : Int) = b.length
  · have e : ((a.length : Int) == b.length) = true := by simpa using hl
    rw [if_pos hl, if_pos e]
    exact setsGo_rl a b st set seen (by omega) h
  have e : ¬ ((a.length : Int) == b.length) = true := by simpa using hl
  rw [if_neg hl, if_neg e]
  simp
/-- Values are hidden. -/
theorem hide_rl {n : Nat} : ∀ (l st : List Int) (set : List Bool) (seen rest : List Int), (∀ v ∈ l, 0 ≤ v ∧ v < n ∧ rest.contains v = false) → (∀ v ∈ l, st.getD v.toNat 0 ≠ 0) → st.length = n → set.length = n →
    (∀ v : Nat, v < n → set.getD v false = !(st.getD v 0 == 0)) → (∀ v : Nat, v < n → l.contains (v : Int) = false → rest.contains (v : Int) = (st.getD v 0 == 1)) → Rl n (shHide st l) set rest
  | [], st, set, _, rest, _, _, h1, h2, h3, h4 => ⟨h1, h2, h3, fun v hv => h4 v hv rfl⟩
  | x :: l, st, set, seen, rest, hin, hnz, h1, h2, h3, h4 => by
    obtain ⟨hx0, hx1, hx2⟩ := hin x (.head _)
    have hxn : x.toNat < n := by omega
    show Rl n (shHide (st.set x.toNat 2) l) set rest
    have hg : ∀ j, (st.set x.toNat 2).getD j 0 = if x.toNat = j then 2 else st.getD j 0 := fun j => by
      rw [getD_set]; simp [h1, hxn]
    -- hidden values are no more among the seen
    have key : ∀ v : Nat, v < n → l.contains (v : Int) = false → rest.contains (v : Int) = ((st.set x.toNat 2).getD v 0 == 1) := by
      intro v hv hl
      rw [hg]
      by_cases e : x.toNat = v
      · have hv2 : (v : Int) = x := by omega
        rw [if_pos e, hv2, hx2]; rfl
      rw [if_neg e]
      refine h4 v hv ?_
      have : ((v : Int) == x) = false := by simp; omega
      rw [List.contains_cons, this, hl]; rfl
    refine hide_rl l (st.set x.toNat 2) set seen rest (fun v hv => hin v (.tail _ hv)) (fun v hv => ?_) (by simpa using h1) h2 (fun v hv => ?_) key
    · rw [hg]; split
      · decide
      exact hnz v (.tail _ hv)
    rw [hg, h3 v hv]
    split
    · rename_i e
      have := hnz x (.head _)
      rw [e] at this
      have hb : (st.getD v 0 == 0) = false := by simpa using this
      rw [hb]; rfl
    rfl
def PR (n : Nat) (seen outs : List Int) (r : Bool × List Int) (q : Bool × List Bool) : Prop :=
  q.1 = r.1 ∧ (r.1 = true → Rl n r.2 q.2 (seen ++ outs) ∧ ∀ v ∈ outs, 0 ≤ v ∧ v < n ∧ seen.contains v = false)
theorem PR.no {n : Nat} {seen outs : List Int} {st : List Int} {set : List Bool} : PR n seen outs (false, st) (false, set) := ⟨rfl, fun h => by cases h⟩
theorem fin_rl {tys st : List Int} {set : List Bool} {seen : List Int} (h : Rl tys.length st set seen) {b b' : Bool} (hb : b = b') (outs want : List Int) : PR tys.length seen outs (andP b st (shSets tys st outs want)) (andS b' set (r8sets tys set outs want)) := by
  subst hb
  cases b with
  | false => exact .no
  | true => exact sets_rl h outs want
theorem nil_rl {tys st : List Int} {set : List Bool} {seen : List Int} (h : Rl tys.length st set seen) {b b' : Bool} (hb : b = b') (outs : List Int) : PR tys.length seen outs (andP b st (shSets tys st outs [])) (b' && (outs.length : Int) == 0, set) := by
  subst hb
  cases b with
  | false => exact .no
  | true =>
    cases outs with
    | nil => exact ⟨rfl, fun _ => ⟨by rw [List.append_nil]; exact h, fun v hv => by simp at hv⟩⟩
    | cons v r =>
      have e : ¬ (((v :: r).length : Int) = (([] : List Int).length : Int)) := by simp; omega
      have e2 : (((v :: r).length : Int) == 0) = false := by simp; omega
      simp only [andP, if_true, shSets, eqf, if_neg e, e2, Bool.and_false]
      exact .no
theorem end_rl {n : Nat} {st : List Int} {set : List Bool} {seen : List Int} (h : Rl n st set seen) {b b' : Bool} (hb : b = b') {outs : List Int} (ho : b = true → outs = []) : PR n seen outs (b, st) (b', set) := by
  subst hb
  refine ⟨rfl, fun hb => ?_⟩
  rw [ho hb]
  exact ⟨by simpa using h, fun v hv => by simp at hv⟩
theorem operand_two {op : Int} (h : r1IsTwo op = true) : shOperand op = r5Operand op := by
  simp only [r1IsTwo, Bool.and_eq_true, decide_eq_true_eq] at h
  have h18 : (op == 18) = false := by simp; omega
  have h19 : (op == 19) = false := by simp; omega
  have h22 : (op == 22) = false := by simp; omega
  simp only [shOperand, r5Operand, h18, h19, h22, Bool.or_false, Bool.false_eq_true, if_false]
theorem operand_one {op : Int} (h : r1IsOne op = true) : shOperand op = r5Operand op := by
  simp only [r1IsOne, Bool.and_eq_true, decide_eq_true_eq] at h
  have h18 : (op == 18) = false := by simp; omega
  have h19 : (op == 19) = false := by simp; omega
  simp only [shOperand, r5Operand, h18, h19, Bool.false_or]
theorem level_two (op : Int) : (decide (wLevel op > 0) && decide (op ≤ 17)) = r1IsTwo op := by
  by_cases h0 : op < 0
  · have : wLevel op = 0 := by simp [wLevel, h0]
    have h2 : r1IsTwo op = false := by simp [r1IsTwo]; omega
    rw [this, h2]; rfl
  by_cases h1 : op ≥ 29
  · have : wLevel op = 0 := by simp [wLevel, h1]
    have h2 : r1IsTwo op = false := by simp [r1IsTwo]; omega
    rw [this, h2]; rfl
  rcases below29 (op := op) (by omega) (by omega) with rfl | rfl | rfl | rfl | rfl | rfl | rfl | rfl | rfl | rfl | rfl | rfl | rfl | rfl | rfl | rfl | rfl | rfl | rfl | rfl | rfl | rfl | rfl | rfl | rfl | rfl | rfl | rfl | rfl <;> rfl
theorem simple_rl (u : Un) (f : Fl) {st : List Int} {set : List Bool} {seen : List Int} (h : Rl f.types.length st set seen) (x : Nd) (w : Wh) :
    PR f.types.length seen x.outs (if r8Ender x.kind then (shEnd f st x w, st) else shSimple u f st x) (r8simple u f set x seen w) := by
  have U := fun want => (uses_rl h x.args want).symm
  have hlen : ∀ b, shUses f.types st x.args [] = b → ((x.args.length : Int) == 0) = b := fun b hb => by
    rw [← hb]
    unfold shUses eqf
    cases x.args with
    | nil => rfl
    | cons a r =>
      have e : ¬ (((a :: r).length : Int) = (([] : List Int).length : Int)) := by simp; omega
      have e2 : (((a :: r).length : Int) == 0) = false := by simp; omega
      rw [if_neg e, e2]
  unfold r8simple shSimple shEnd shSum shCall r8call
  by_cases k1 : x.kind = 1
  · simp only [k1, r8Ender]; exact fin_rl h (U _) _ _
  by_cases k2 : x.kind = 2
  · simp only [k2, r8Ender]; exact fin_rl h (by rw [U]) _ _
  by_cases k3 : x.kind = 3
  · simp only [k3, r8Ender]
    cases ho : r1IsOne x.op with
    | false => exact .no
    | true => rw [operand_one ho]; exact fin_rl h (by rw [U]) _ _
  by_cases k4 : x.kind = 4
  · simp only [k4, r8Ender, level_two]
    cases ho : r1IsTwo x.op with
    | false => exact .no
    | true => rw [operand_two ho]; exact fin_rl h (by rw [U]) _ _
  by_cases k5 : x.kind = 5
  · simp only [k5, r8Ender]; exact fin_rl h (by rw [U]) _ _
  by_cases k6 : x.kind = 6
  · simp only [k6, r8Ender]; exact nil_rl h (by rw [U]) _
  by_cases k7 : x.kind = 7
  · simp only [k7, r8Ender]
    by_cases hp : r8Place x.name u.flows 0 < 0
    · have e : ¬ (decide (r8Place x.name u.flows 0 ≥ 0)) = true := by simp; omega
      simp only [if_pos hp, if_neg e]
      exact .no
    have e : (decide (r8Place x.name u.flows 0 ≥ 0)) = true := by simp; omega
    simp only [if_neg hp, if_pos e]
    cases u.flows[(r8Place x.name u.flows 0).toNat]? with
    | none => exact .no
    | some g => exact fin_rl h (U _) _ _
  by_cases k8 : x.kind = 8
  · simp only [k8, r8Ender]; exact fin_rl h (hlen _ rfl).symm _ _
  by_cases k9 : x.kind = 9
  · simp only [k9, r8Ender]; exact nil_rl h (U _) _
  have out0 : ∀ c : Bool, ((x.outs.length : Int) == 0 && c) = true → x.outs = [] := fun c hc => by
    simp only [Bool.and_eq_true, beq_iff_eq] at hc
    exact List.eq_nil_of_length_eq_zero (by omega)
  by_cases k12 : x.kind = 12
  · simp only [k12, r8Ender]
    show PR _ _ _ ((x.outs.length : Int) == 0 && w.If && shUses f.types st x.args w.Yield, st) (w.If && r8types f.types seen x.args w.Yield && (x.outs.length : Int) == 0, set)
    exact end_rl h (by rw [← U]; cases (w.If) <;> cases ((x.outs.length : Int) == 0) <;> simp) (fun hb => by rw [Bool.and_assoc] at hb; exact out0 _ hb)
  by_cases k13 : x.kind = 13
  · simp only [k13, r8Ender]
    show PR _ _ _ ((x.outs.length : Int) == 0 && w.Loop && shUses f.types st x.args w.Next, st) (w.Loop && r8types f.types seen x.args w.Next && (x.outs.length : Int) == 0, set)
    exact end_rl h (by rw [← U]; cases (w.Loop) <;> cases ((x.outs.length : Int) == 0) <;> simp) (fun hb => by rw [Bool.and_assoc] at hb; exact out0 _ hb)
  by_cases k14 : x.kind = 14
  · simp only [k14, r8Ender]
    show PR _ _ _ ((x.outs.length : Int) == 0 && w.Loop && shUses f.types st x.args w.Left, st) (w.Loop && r8types f.types seen x.args w.Left && (x.outs.length : Int) == 0, set)
    exact end_rl h (by rw [← U]; cases (w.Loop) <;> cases ((x.outs.length : Int) == 0) <;> simp) (fun hb => by rw [Bool.and_assoc] at hb; exact out0 _ hb)
  by_cases k15 : x.kind = 15
  · simp only [k15, r8Ender]
    show PR _ _ _ ((x.outs.length : Int) == 0 && shUses f.types st x.args [f.ty], st) (r8types f.types seen x.args [f.ty] && (x.outs.length : Int) == 0, set)
    exact end_rl h (by rw [← U]; exact Bool.and_comm _ _) (fun hb => out0 _ hb)
  have e1 : (x.kind == 1) = false := by simpa using k1
  have e2 : (x.kind == 2) = false := by simpa using k2
  have e3 : (x.kind == 3) = false := by simpa using k3
  have e4 : (x.kind == 4) = false := by simpa using k4
  have e5 : (x.kind == 5) = false := by simpa using k5
  have e6 : (x.kind == 6) = false := by simpa using k6
  have e7 : (x.kind == 7) = false := by simpa using k7
  have e8 : (x.kind == 8) = false := by simpa using k8
  have e9 : (x.kind == 9) = false := by simpa using k9
  have e12 : (x.kind == 12) = false := by simpa using k12
  have e13 : (x.kind == 13) = false := by simpa using k13
  have e14 : (x.kind == 14) = false := by simpa using k14
  have e15 : (x.kind == 15) = false := by simpa using k15
  have ee : r8Ender x.kind = false := by simp [r8Ender]; omega
  simp only [e1, e2, e3, e4, e5, e6, e7, e8, e9, e12, e13, e14, e15, ee, Bool.false_eq_true, if_false, Bool.or_false]
  exact .no
theorem hideAll_eq : ∀ (l : List Nd) (st : List Int), shHideAll st l = shHide st (l.flatMap Nd.outs)
  | [], _ => rfl
  | x :: r, st => by
    have := hideAll_eq r (shHide st x.outs)
    simp only [shHideAll, List.foldl_cons, List.flatMap_cons, shHide, List.foldl_append] at this ⊢
    exact this
theorem hidden_rl {n : Nat} {st : List Int} {set : List Bool} {all l : List Int} (h : Rl n st set (all ++ l)) (hl : ∀ v ∈ l, 0 ≤ v ∧ v < n ∧ all.contains v = false) : Rl n (shHide st l) set all := by
  refine hide_rl l st set [] all hl (fun v hv => ?_) h.l1 h.l2 h.s (fun v hv hc => ?_)
  · obtain ⟨h0, h1, _⟩ := hl v hv
    have hu := h.u v.toNat (by omega)
    have hc : (all ++ l).contains ((v.toNat : Nat) : Int) = true := by
      rw [show ((v.toNat : Nat) : Int) = v by omega]
      simp [hv]
    rw [hc] at hu
    have : st.getD v.toNat 0 = 1 := by simpa using hu.symm
    rw [this]; decide
  have hu := h.u v hv
  rw [List.contains_append, hc, Bool.or_false] at hu
  exact hu
def LR (u : Un) (f : Fl) (l : List Nd) : Prop := ∀ (deep : Int) (w : Wh) (st : List Int) (set : List Bool) (seen : List Int), Rl f.types.length st set seen →
  (r8list u f deep w seen set l).1 = (shList u f deep w st l).1 ∧ ((shList u f deep w st l).1 = true → Rl f.types.length (shList u f deep w st l).2 (r8list u f deep w seen set l).2 seen)
theorem andT_PR {n : Nat} {seen outs : List Int} {r : Bool × List Int} {q : Bool × List Bool} {k : List Int → Bool × List Int} {k' : List Bool → Bool × List Bool} (h : q.1 = r.1) (hk : r.1 = true → PR n seen outs (k r.2) (k' q.2)) : PR n seen outs (andQ r k) (andT q k') := by
  unfold andQ andT
  rw [h]
  cases hr : r.1 with
  | false => exact .no
  | true => exact hk hr
theorem tail_rl {f : Fl} {x : Nd} {st : List Int} {set : List Bool} {seen : List Int} (h : Rl f.types.length st set seen) : PR f.types.length seen x.outs (shTail f x st) (r8end f x set) := fin_rl h rfl _ _
theorem node_rl (u : Un) (f : Fl) (x : Nd) (ih : ∀ q ∈ x.kids, LR u f q) (deep : Int) (w : Wh) {st : List Int} {set : List Bool} {seen : List Int} (h : Rl f.types.length st set seen) :
    PR f.types.length seen x.outs (shNode u f deep w st x) (r8node u f deep w seen set x) := by
  cases hb : r8bare x with
  | false => rw [shNode_bare _ _ _ _ _ hb, r8node_bare _ _ _ _ _ _ hb]; exact .no
  | true =>
    by_cases h10 : x.kind = 10
    · obtain ⟨a, b, hk⟩ := r8bare_if hb h10
      rw [shNode_if _ _ _ _ _ hb h10 hk, r8node_if _ _ _ _ _ _ hb h10 hk, uses_rl h]
      split
      · obtain ⟨h1, h2⟩ := ih a (by rw [hk]; simp) (deep + 1) ⟨true, w.Loop, r8of f.types x.outs, w.Next, w.Left⟩ st set seen h
        refine andT_PR h1 fun ht => ?_
        obtain ⟨h3, h4⟩ := ih b (by rw [hk]; simp) (deep + 1) ⟨true, w.Loop, r8of f.types x.outs, w.Next, w.Left⟩ _ _ seen (h2 ht)
        exact andT_PR h3 fun ht2 => tail_rl (h4 ht2)
      exact .no
    by_cases h11 : x.kind = 11
    · obtain ⟨a, hk⟩ := r8bare_loop hb h11
      rw [shNode_loop _ _ _ _ _ hb h11 hk, r8node_loop _ _ _ _ _ _ hb h11 hk, uses_rl h]
      split
      · obtain ⟨h1, h2⟩ := sets_rl h x.params (List.replicate x.params.length 0)
        refine andT_PR h1 fun ht => ?_
        obtain ⟨h3, h4⟩ := h2 ht
        obtain ⟨h5, h6⟩ := ih a (by rw [hk]; simp) (deep + 1) ⟨false, true, [], r8of f.types x.params, r8of f.types x.outs⟩ _ _ _ h3
        exact andT_PR h5 fun ht2 => tail_rl (hidden_rl (h6 ht2) h4)
      exact .no
    have e10 : (x.kind == 10) = false := by simpa using h10
    have e11 : (x.kind == 11) = false := by simpa using h11
    rw [r8node_simple _ _ _ _ _ _ hb e10 e11]
    have hs := simple_rl u f h x w
    cases he : r8Ender x.kind with
    | true => rw [shNode_end _ _ _ _ _ hb e10 e11 he]; rw [if_pos he] at hs; exact hs
    | false => rw [shNode_simple _ _ _ _ _ hb e10 e11 he]; rw [if_neg (by simp [he])] at hs; exact hs
theorem go_rl (u : Un) (f : Fl) (deep : Int) (w : Wh) : ∀ (l : List Nd), (∀ x ∈ l, ∀ q ∈ x.kids, LR u f q) → ∀ (st : List Int) (set : List Bool) (all : List Int), Rl f.types.length st set all →
    PR f.types.length all (l.flatMap Nd.outs) (shGo u f deep w st l) (r8go u f deep w all set l)
  | [], _, st, set, all, h => by
    unfold shGo r8go
    exact ⟨rfl, fun _ => ⟨by simpa using h, fun v hv => by simp at hv⟩⟩
  | x :: r, ih, st, set, all, h => by
    unfold shGo r8go
    by_cases hd : deep > 100
    · rw [if_pos hd, if_pos hd]; exact .no
    rw [if_neg hd, if_neg hd]
    obtain ⟨h1, h2⟩ := node_rl u f x (ih x (.head _)) deep w h
    refine andT_PR h1 fun ht => ?_
    obtain ⟨h3, h4⟩ := h2 ht
    by_cases hc : (r8Closed x != r.isEmpty) = true
    · rw [if_pos hc, if_pos hc]; exact .no
    rw [if_neg hc, if_neg hc]
    obtain ⟨h5, h6⟩ := go_rl u f deep w r (fun y hy => ih y (.tail _ hy)) _ _ _ h3
    refine ⟨h5, fun ht2 => ?_⟩
    obtain ⟨h7, h8⟩ := h6 ht2
    refine ⟨by simpa using h7, fun v hv => ?_⟩
    rw [List.flatMap_cons, List.mem_append] at hv
    rcases hv with hv | hv
    · exact h4 v hv
    obtain ⟨g1, g2, g3⟩ := h8 v hv
    rw [List.contains_append, Bool.or_eq_false_iff] at g3
    exact ⟨g1, g2, g3.1⟩
theorem list_rl (u : Un) (f : Fl) : ∀ (N : Nat) (l : List Nd), SizeOf.sizeOf l < N → LR u f l
  | 0, _, h => absurd h (Nat.not_lt_zero _)
  | N + 1, l, hN => by
    intro deep w st set seen h
    have ih : ∀ x ∈ l, ∀ q ∈ x.kids, LR u f q := fun x hx q hq => list_rl u f N q (Nat.lt_of_lt_of_le (kid_lt hx rfl hq) (Nat.le_of_lt_succ hN))
    obtain ⟨h1, h2⟩ := go_rl u f deep w l ih st set seen h
    unfold r8list shList ne andQ
    cases l with
    | nil =>
      simp only [List.isEmpty_nil, if_true]
      unfold shGo
      simp [shFin]
    | cons x r =>
      simp only [List.isEmpty_cons, Bool.false_eq_true, if_false]
      rw [h1]
      cases hg : (shGo u f deep w st (x :: r)).1 with
      | false => simp [hg]
      | true =>
        obtain ⟨h3, h4⟩ := h2 hg
        simp only [if_true, shFin]
        refine ⟨by simp, fun _ => ?_⟩
        rw [hideAll_eq]
        exact hidden_rl h3 h4
theorem shList_eq (u : Un) (f : Fl) (deep : Int) (w : Wh) {st : List Int} {set : List Bool} {seen : List Int} (h : Rl f.types.length st set seen) (l : List Nd) : (shList u f deep w st l).1 = (r8list u f deep w seen set l).1 :=
  ((list_rl u f _ l (Nat.lt_succ_self _)) deep w st set seen h).1.symm
theorem start_rl {k n : Nat} (h : k ≤ n) : Rl n (seens k n) (firsts k n) (iota k) := by
  refine ⟨seens_length h, firsts_length h, fun v hv => ?_, fun v hv => ?_⟩
  · simp only [firsts, seens, List.getD_eq_getElem?_getD]
    by_cases e : v < k
    · rw [List.getElem?_append_left (by simpa using e), List.getElem?_append_left (by simpa using e)]
      simp [List.getElem?_replicate, e]
    rw [List.getElem?_append_right (by simpa using e), List.getElem?_append_right (by simpa using e)]
    simp only [List.length_replicate, List.getElem?_replicate]
    rw [if_pos (by omega), if_pos (by omega)]
    rfl
  have hc : (iota k).contains (v : Int) = decide (v < k) := by
    simp only [iota]
    by_cases e : v < k
    · simp [e]
      exact ⟨v, e, rfl⟩
    simp [e]
    intro x hx; omega
  rw [hc]
  simp only [seens, List.getD_eq_getElem?_getD]
  by_cases e : v < k
  · rw [List.getElem?_append_left (by simpa using e)]
    simp [List.getElem?_replicate, e]
  rw [List.getElem?_append_right (by simpa using e)]
  simp only [List.length_replicate, List.getElem?_replicate]
  rw [if_pos (by omega)]
  simp [e]
theorem any_isTy : ∀ l : List Int, l.any (fun t => !isTy t) = !l.all (fun t => t == 1 || t == 2)
  | [] => rfl
  | t :: r => by rw [List.any_cons, List.all_cons, any_isTy r, Bool.not_and]; rfl
theorem shFlow_eq (u : Un) (f : Fl) (h0 : 0 ≤ f.params) (h1 : f.params ≤ f.types.length) : shFlow u f = r8Flow u f := by
  unfold shFlow r8Flow
  rw [shList_eq u f 1 r8where0 (start_rl (k := f.params.toNat) (by omega)) f.body]
  have e1 : decide (f.params < 0) = false := by simp; omega
  have e2 : decide (f.params > f.types.length) = false := by simp; omega
  have e3 := any_isTy f.types
  rw [e1, e2, e3]
  cases decide (f.params > 8) <;> cases decide ((f.types.length : Int) > 20000) <;> cases f.types.all (fun t => t == 1 || t == 2) <;> simp
def nmA (l : List Ar) : List (List UInt8) := l.map fun a => a.name.toList
def nmF (l : List Fl) : List (List UInt8) := l.map fun a => a.name.toList
theorem array_split (nm : ByteArray) : ∀ (pre l : List Ar) (i : Int), (nm.toList ∈ nmA pre → i ≤ r8Array nm (pre ++ l) i ∧ r8Array nm (pre ++ l) i < i + pre.length) ∧ (nm.toList ∉ nmA pre → r8Array nm (pre ++ l) i = r8Array nm l (i + pre.length))
  | [], l, i => by simp [nmA]
  | a :: pre, l, i => by
    obtain ⟨h1, h2⟩ := array_split nm pre l (i + 1)
    rw [List.cons_append, show r8Array nm (a :: (pre ++ l)) i = if (a.name.toList == nm.toList) = true then i else r8Array nm (pre ++ l) (i + 1) from rfl]
    by_cases e : a.name.toList = nm.toList
    · have eb : (a.name.toList == nm.toList) = true := by simpa using e
      rw [if_pos eb]
      refine ⟨fun _ => ⟨Int.le_refl _, by simp; omega⟩, fun h => absurd (by simp [nmA, e]) h⟩
    have eb : ¬ (a.name.toList == nm.toList) = true := by simpa using e
    rw [if_neg eb]
    refine ⟨fun h => ?_, fun h => ?_⟩
    · have : nm.toList ∈ nmA pre := by
        simp only [nmA, List.map_cons, List.mem_cons] at h
        exact h.resolve_left fun h => e h.symm
      have := h1 this
      simp only [List.length_cons]; omega
    have : nm.toList ∉ nmA pre := fun hm => h (by simp only [nmA, List.map_cons, List.mem_cons]; exact .inr hm)
    rw [h2 this]
    congr 1
    simp only [List.length_cons]; omega
theorem place_split (nm : ByteArray) : ∀ (pre l : List Fl) (i : Int), (nm.toList ∈ nmF pre → i ≤ r8Place nm (pre ++ l) i ∧ r8Place nm (pre ++ l) i < i + pre.length) ∧ (nm.toList ∉ nmF pre → r8Place nm (pre ++ l) i = r8Place nm l (i + pre.length))
  | [], l, i => by simp [nmF]
  | a :: pre, l, i => by
    obtain ⟨h1, h2⟩ := place_split nm pre l (i + 1)
    rw [List.cons_append, show r8Place nm (a :: (pre ++ l)) i = if (a.name.toList == nm.toList) = true then i else r8Place nm (pre ++ l) (i + 1) from rfl]
    by_cases e : a.name.toList = nm.toList
    · have eb : (a.name.toList == nm.toList) = true := by simpa using e
      rw [if_pos eb]
      refine ⟨fun _ => ⟨Int.le_refl _, by simp; omega⟩, fun h => absurd (by simp [nmF, e]) h⟩
    have eb : ¬ (a.name.toList == nm.toList) = true := by simpa using e
    rw [if_neg eb]
    refine ⟨fun h => ?_, fun h => ?_⟩
    · have : nm.toList ∈ nmF pre := by
        simp only [nmF, List.map_cons, List.mem_cons] at h
        exact h.resolve_left fun h => e h.symm
      have := h1 this
      simp only [List.length_cons]; omega
    have : nm.toList ∉ nmF pre := fun hm => h (by simp only [nmF, List.map_cons, List.mem_cons]; exact .inr hm)
    rw [h2 this]
    congr 1
    simp only [List.length_cons]; omega
theorem place_mem (nm : ByteArray) (l : List Fl) : r8Place nm l 0 ≥ 0 ↔ nm.toList ∈ nmF l := by
  obtain ⟨h1, h2⟩ := place_split nm l [] 0
  rw [List.append_nil] at h1 h2
  by_cases h : nm.toList ∈ nmF l
  · exact ⟨fun _ => h, fun h => (h1 h).1⟩
  refine ⟨fun h3 => ?_, fun h4 => absurd h4 h⟩
  rw [h2 h] at h3
  simp [r8Place] at h3
theorem array_at (nm : ByteArray) (pre r : List Ar) (a : Ar) (h : a.name.toList = nm.toList) : r8Array nm (pre ++ a :: r) 0 = pre.length ↔ nm.toList ∉ nmA pre := by
  obtain ⟨h1, h2⟩ := array_split nm pre (a :: r) 0
  by_cases e : nm.toList ∈ nmA pre
  · have := h1 e
    exact ⟨fun h => by omega, fun h => absurd e h⟩
  refine ⟨fun _ => e, fun _ => ?_⟩
  rw [h2 e]
  have eb : (a.name.toList == nm.toList) = true := by simpa using h
  rw [show r8Array nm (a :: r) (0 + pre.length) = if (a.name.toList == nm.toList) = true then (0 + pre.length : Int) else r8Array nm r (0 + pre.length + 1) from rfl, if_pos eb]
  omega
theorem place_at (nm : ByteArray) (pre r : List Fl) (a : Fl) (h : a.name.toList = nm.toList) : r8Place nm (pre ++ a :: r) 0 = pre.length ↔ nm.toList ∉ nmF pre := by
  obtain ⟨h1, h2⟩ := place_split nm pre (a :: r) 0
  by_cases e : nm.toList ∈ nmF pre
  · have := h1 e
    exact ⟨fun h => by omega, fun h => absurd e h⟩
  refine ⟨fun _ => e, fun _ => ?_⟩
  rw [h2 e]
  have eb : (a.name.toList == nm.toList) = true := by simpa using h
  rw [show r8Place nm (a :: r) (0 + pre.length) = if (a.name.toList == nm.toList) = true then (0 + pre.length : Int) else r8Place nm r (0 + pre.length + 1) from rfl, if_pos eb]
  omega
theorem gA_iff (u : Un) : ∀ (pre l : List Ar), u.arrays = pre ++ l → (r8gA u l pre.length = true ↔ (∀ a ∈ l, shArr a = true ∧ a.name.toList ∉ nmF u.flows ∧ a.name.toList ∉ nmA pre) ∧ (nmA l).Nodup)
  | pre, [], _ => by simp [r8gA, nmA]
  | pre, a :: r, hu => by
    have ih := gA_iff u (pre ++ [a]) r (by simp [hu])
    have hlen : (((pre ++ [a]).length : Nat) : Int) = (pre.length : Int) + 1 := by simp
    rw [hlen] at ih
    rw [r8gA, Bool.and_eq_true, ih]
    have ha : gArr u a pre.length = true ↔ shArr a = true ∧ a.name.toList ∉ nmA pre ∧ a.name.toList ∉ nmF u.flows := by
      have h1 := array_at a.name pre r a rfl
      have h2 := place_mem a.name u.flows
      rw [← hu] at h1
      unfold gArr shArr
      simp only [Bool.and_eq_true, Bool.not_eq_true', decide_eq_false_iff_not, beq_iff_eq, h1, h2]
      constructor
      · rintro ⟨⟨⟨⟨a1, a2⟩, a3⟩, a4⟩, a5⟩; exact ⟨⟨⟨a1, a2⟩, a3⟩, a4, a5⟩
      rintro ⟨⟨⟨a1, a2⟩, a3⟩, a4, a5⟩; exact ⟨⟨⟨⟨a1, a2⟩, a3⟩, a4⟩, a5⟩
    rw [ha]
    constructor
    · rintro ⟨⟨b1, b2, b3⟩, b4, b5⟩
      refine ⟨fun x hx => ?_, ?_⟩
      · rcases List.mem_cons.1 hx with rfl | hx
        · exact ⟨b1, b3, b2⟩
        obtain ⟨c1, c2, c3⟩ := b4 x hx
        exact ⟨c1, c2, fun h => c3 (by simp only [nmA, List.map_append, List.mem_append]; exact .inl h)⟩
      refine List.nodup_cons.2 ⟨fun h => ?_, b5⟩
      obtain ⟨x, hx, e⟩ := List.mem_map.1 h
      exact (b4 x hx).2.2 (by simp only [nmA, List.map_append, List.mem_append, List.map_cons, List.map_nil, List.mem_singleton]; exact .inr e)
    rintro ⟨b1, b2⟩
    have b3 := List.nodup_cons.1 b2
    obtain ⟨c1, c2, c3⟩ := b1 a (.head _)
    refine ⟨⟨c1, c3, c2⟩, fun x hx => ?_, b3.2⟩
    obtain ⟨d1, d2, d3⟩ := b1 x (.tail _ hx)
    refine ⟨d1, d2, fun h => ?_⟩
    simp only [nmA, List.map_append, List.mem_append, List.map_cons, List.map_nil, List.mem_singleton] at h
    rcases h with h | h
    · exact d3 h
    exact b3.1 (List.mem_map.2 ⟨x, hx, h⟩)
theorem gF_iff (u : Un) : ∀ (pre l : List Fl), u.flows = pre ++ l → (r8gF u l pre.length = true ↔ (∀ a ∈ l, shFlw a = true ∧ a.name.toList ∉ nmF pre) ∧ (nmF l).Nodup)
  | pre, [], _ => by simp [r8gF, nmF]
  | pre, a :: r, hu => by
    have ih := gF_iff u (pre ++ [a]) r (by simp [hu])
    have hlen : (((pre ++ [a]).length : Nat) : Int) = (pre.length : Int) + 1 := by simp
    rw [hlen] at ih
    rw [r8gF, Bool.and_eq_true, ih]
    have ha : gFlw u a pre.length = true ↔ shFlw a = true ∧ a.name.toList ∉ nmF pre := by
      have h1 := place_at a.name pre r a rfl
      rw [← hu] at h1
      unfold gFlw shFlw isTy
      simp only [Bool.and_eq_true, Bool.not_eq_true', decide_eq_false_iff_not, beq_iff_eq, h1]
      constructor
      · rintro ⟨⟨⟨⟨a1, a2⟩, a3⟩, a4⟩, a5⟩; exact ⟨⟨⟨⟨a1, a3⟩, a4⟩, a5⟩, a2⟩
      rintro ⟨⟨⟨⟨a1, a3⟩, a4⟩, a5⟩, a2⟩; exact ⟨⟨⟨⟨a1, a2⟩, a3⟩, a4⟩, a5⟩
    rw [ha]
    constructor
    · rintro ⟨⟨b1, b2⟩, b4, b5⟩
      refine ⟨fun x hx => ?_, ?_⟩
      · rcases List.mem_cons.1 hx with rfl | hx
        · exact ⟨b1, b2⟩
        obtain ⟨c1, c3⟩ := b4 x hx
        exact ⟨c1, fun h => c3 (by simp only [nmF, List.map_append, List.mem_append]; exact .inl h)⟩
      refine List.nodup_cons.2 ⟨fun h => ?_, b5⟩
      obtain ⟨x, hx, e⟩ := List.mem_map.1 h
      exact (b4 x hx).2 (by simp only [nmF, List.map_append, List.mem_append, List.map_cons, List.map_nil, List.mem_singleton]; exact .inr e)
    rintro ⟨b1, b2⟩
    have b3 := List.nodup_cons.1 b2
    obtain ⟨c1, c3⟩ := b1 a (.head _)
    refine ⟨⟨c1, c3⟩, fun x hx => ?_, b3.2⟩
    obtain ⟨d1, d3⟩ := b1 x (.tail _ hx)
    refine ⟨d1, fun h => ?_⟩
    simp only [nmF, List.map_append, List.mem_append, List.map_cons, List.map_nil, List.mem_singleton] at h
    rcases h with h | h
    · exact d3 h
    exact b3.1 (List.mem_map.2 ⟨x, hx, h⟩)
def keysOf (es : List (Value × PV)) : List (List UInt8) := es.map fun e => match e.1 with
  | .string s => s.toList
  | _ => []
theorem mput_keysOf (s : ByteArray) (v : PV) : ∀ (es : List (Value × PV)), Cnt es → (s.toList ∈ keysOf es → keysOf (mput (.string s) v es) = keysOf es) ∧ (s.toList ∉ keysOf es → keysOf (mput (.string s) v es) = keysOf es ++ [s.toList])
  | [], _ => by simp [keysOf, mput]
  | (a, p) :: r, h => by
    have ha := h.1 (a, p) (.head _)
    have hr : Cnt r := ⟨fun e he => h.1 e (.tail _ he), fun e he => h.2 e (.tail _ he)⟩
    obtain ⟨h1, h2⟩ := mput_keysOf s v r hr
    cases a with
    | string t =>
      simp only [mput]
      by_cases e : s.toList = t.toList
      · have eb : keyB (.string s) (.string t) = true := by simpa [keyB] using e
        rw [if_pos eb]
        exact ⟨fun _ => by simp [keysOf, e], fun h => absurd (by simp [keysOf, e]) h⟩
      have eb : ¬ keyB (.string s) (.string t) = true := by simpa [keyB] using e
      rw [if_neg eb]
      refine ⟨fun h => ?_, fun h => ?_⟩
      · have : s.toList ∈ keysOf r := by
          simp only [keysOf, List.map_cons, List.mem_cons] at h
          exact h.resolve_left e
        have h3 := h1 this
        simp only [keysOf, List.map_cons] at h3 ⊢
        rw [h3]
      have : s.toList ∉ keysOf r := fun hm => h (by simp only [keysOf, List.map_cons, List.mem_cons]; exact .inr hm)
      have h3 := h2 this
      simp only [keysOf, List.map_cons, List.cons_append] at h3 ⊢
      rw [h3]
    | _ => simp [isKeyB] at ha
theorem bump_keysOf (s : ByteArray) {es : List (Value × PV)} (h : Cnt es) : (s.toList ∈ keysOf es → keysOf (bump s es) = keysOf es) ∧ (s.toList ∉ keysOf es → keysOf (bump s es) = keysOf es ++ [s.toList]) := by
  obtain ⟨n, hn⟩ := h.find (.string s)
  rw [bump_eq hn]
  exact mput_keysOf s _ es h
def countN (es : List (Value × PV)) (l : List ByteArray) : List (Value × PV) := l.foldl (fun e s => bump s e) es
def nmS (l : List ByteArray) : List (List UInt8) := l.map ByteArray.toList
theorem countN_len : ∀ (l : List ByteArray) (es : List (Value × PV)), Cnt es → (keysOf (countN es l)).length ≤ (keysOf es).length + l.length ∧
    ((keysOf (countN es l)).length = (keysOf es).length + l.length ↔ (∀ s ∈ l, s.toList ∉ keysOf es) ∧ (nmS l).Nodup)
  | [], es, _ => by simp [countN, nmS]
  | s :: r, es, h => by
    obtain ⟨ih1, ih2⟩ := countN_len r (bump s es) (h.bump s)
    obtain ⟨h1, h2⟩ := bump_keysOf s h
    show (keysOf (countN (bump s es) r)).length ≤ _ ∧ ((keysOf (countN (bump s es) r)).length = _ ↔ _)
    by_cases e : s.toList ∈ keysOf es
    · rw [h1 e] at ih1
      refine ⟨by simp only [List.length_cons]; omega, fun hl => by simp only [List.length_cons] at hl; omega, fun hb => absurd e (hb.1 s (.head _))⟩
    have hk := h2 e
    rw [hk] at ih1 ih2
    simp only [List.length_append, List.length_cons, List.length_nil] at ih1 ih2 ⊢
    refine ⟨by omega, ?_⟩
    rw [show (keysOf es).length + (r.length + 1) = (keysOf es).length + (0 + 1) + r.length by omega, ih2]
    constructor
    · rintro ⟨b1, b2⟩
      refine ⟨fun x hx => ?_, List.nodup_cons.2 ⟨fun hm => ?_, b2⟩⟩
      · rcases List.mem_cons.1 hx with rfl | hx
        · exact e
        exact fun hm => b1 x hx (List.mem_append.2 (.inl hm))
      obtain ⟨x, hx, he⟩ := List.mem_map.1 hm
      exact b1 x hx (by rw [he]; simp)
    rintro ⟨b1, b2⟩
    have b3 := List.nodup_cons.1 b2
    refine ⟨fun x hx hm => ?_, b3.2⟩
    rcases List.mem_append.1 hm with hm | hm
    · exact b1 x (.tail _ hx) hm
    exact b3.1 (List.mem_map.2 ⟨x, hx, by simpa using hm⟩)
theorem count_iff (u : Un) : ((countF (countA [] u.arrays) u.flows).length : Int) = u.arrays.length + u.flows.length ↔ (nmA u.arrays ++ nmF u.flows).Nodup := by
  have e : countF (countA [] u.arrays) u.flows = countN [] (u.arrays.map Ar.name ++ u.flows.map Fl.name) := by
    simp only [countF, countA, countN, List.foldl_append, List.foldl_map]
  have hn : nmS (u.arrays.map Ar.name ++ u.flows.map Fl.name) = nmA u.arrays ++ nmF u.flows := by
    simp only [nmS, nmA, nmF, List.map_append, List.map_map]
    rfl
  obtain ⟨_, h2⟩ := countN_len (u.arrays.map Ar.name ++ u.flows.map Fl.name) [] .nil
  rw [e]
  simp only [keysOf, List.length_map, List.length_append, List.length_nil, Nat.zero_add] at h2
  rw [← hn]
  constructor
  · intro h; exact (h2.1 (by omega)).2
  intro h
  have := h2.2 ⟨fun s _ => by simp, h⟩
  omega
theorem shHead_eq (u : Un) : shHead u = r8globals u := by
  have hA := gA_iff u [] u.arrays rfl
  have hF := gF_iff u [] u.flows rfl
  simp only [List.length_nil] at hA hF
  rw [Bool.eq_iff_iff]
  unfold shHead r8globals
  simp only [Bool.and_eq_true, List.all_eq_true, beq_iff_eq, count_iff]
  rw [show ((0 : Nat) : Int) = 0 from rfl] at hA hF
  rw [hA, hF, List.nodup_append]
  constructor
  · rintro ⟨⟨⟨a1, a2⟩, a3, a4, a5⟩, a6⟩
    exact ⟨⟨⟨fun a ha => ⟨a1 a ha, fun hm => a5 _ (List.mem_map.2 ⟨a, ha, rfl⟩) _ hm rfl, by simp [nmA]⟩, a3⟩, fun f hf => ⟨a2 f hf, by simp [nmF]⟩, a4⟩, a6⟩
  rintro ⟨⟨⟨a1, a3⟩, a2, a4⟩, a6⟩
  refine ⟨⟨⟨fun a ha => (a1 a ha).1, fun f hf => (a2 f hf).1⟩, a3, a4, fun x hx y hy e => ?_⟩, a6⟩
  obtain ⟨a, ha, rfl⟩ := List.mem_map.1 hx
  exact (a1 a ha).2.1 (e ▸ hy)
theorem shflows_eq (u : Un) : ∀ (l : List Fl) (i : Int), (∀ f ∈ l, 0 ≤ f.params ∧ f.params ≤ f.types.length) → shflows u l i = r8flows u l i
  | [], _, _ => rfl
  | f :: r, i, h => by
    obtain ⟨h1, h2⟩ := h f (.head _)
    simp only [shflows, r8flows, shFlow_eq u f h1 h2, shflows_eq u r (i + 1) (fun f hf => h f (.tail _ hf))]
/-- THE TWO CHECKERS OF LAYER 8 ANSWER ALIKE. -/
theorem shCheck_eq (u : Un) : shCheck u = r8Check u := by
  unfold shCheck r8Check
  rw [shHead_eq]
  cases h : r8globals u with
  | false => rfl
  | true => simp only [if_true]; exact shflows_eq u _ _ (r8globals_params h)
theorem Nd.enc_len (x : Nd) : x.enc.length = 8 := by rw [Nd.enc_eq, Nd.cells_eta]; rfl
theorem Nd.enc_one (x : Nd) : ∀ y ∈ x.enc, y.one = true := by
  rw [Nd.enc_eq, Nd.cells_eta]
  intro y hy
  simp only [List.mem_cons, List.not_mem_nil, or_false] at hy
  rcases hy with rfl | rfl | rfl | rfl | rfl | rfl | rfl | rfl <;> rfl
theorem hw_node {l : List Nd} : ∀ el ∈ l.map Nd.enc, el.length = 8 := by
  intro el hel
  obtain ⟨x, _, rfl⟩ := List.mem_map.1 hel
  exact x.enc_len
theorem hone_node {l : List Nd} : ∀ el ∈ l.map Nd.enc, ∀ x ∈ el, x.one = true := by
  intro el hel
  obtain ⟨x, _, rfl⟩ := List.mem_map.1 hel
  exact x.enc_one
def tot : List (List Nd) → Nat
  | [] => 0
  | l :: r => l.length + tot r
theorem tot_flatten : ∀ ks : List (List Nd), ks.flatten.length = tot ks
  | [] => rfl
  | l :: r => by simp [tot, tot_flatten r]
def hmless (x : Nd) : Bool := x.kind == 1 || x.kind == 2 || x.kind == 3 || (x.kind == 4 && x.op != 4 && x.op != 5)
def vKey (v : Int) : Value := .int .i64 v
def vsOf (l : List Int) : List (Value × PV) := l.foldl (fun e v => mput (vKey v) (.agg []) e) []
def VSet (es : List (Value × PV)) : Prop := (∀ e ∈ es, isKeyB (.int .i64) e.1 = true) ∧ ∀ e ∈ es, e.2 = .agg []
theorem VSet.nil : VSet [] := ⟨fun _ h => by simp at h, fun _ h => by simp at h⟩
theorem VSet.put {es : List (Value × PV)} (h : VSet es) (v : Int) : VSet (mput (vKey v) (.agg []) es) := by
  refine ⟨fun e he => ?_, fun e he => ?_⟩
  · rcases mput_mem he with rfl | he
    · rfl
    exact h.1 e he
  rcases mput_mem he with rfl | he
  · rfl
  exact h.2 e he
theorem vsOf_snoc (l : List Int) (v : Int) : mput (vKey v) (.agg []) (vsOf l) = vsOf (l ++ [v]) := by simp [vsOf]
theorem VSet.of (l : List Int) : VSet (vsOf l) := by
  have key : ∀ (l : List Int) (es : List (Value × PV)), VSet es → VSet (l.foldl (fun e v => mput (vKey v) (.agg []) e) es) := by
    intro l
    induction l with
    | nil => exact fun _ h => h
    | cons v r ih => exact fun es h => ih _ (h.put v)
  exact key l [] .nil
theorem mfind_put (k k' : Int) (p : PV) : ∀ (es : List (Value × PV)), VSet es → mfind (vKey k) (mput (vKey k') p es) = if k = k' then some p else mfind (vKey k) es
  | [], _ => by
    simp only [mput, mfind]
    by_cases e : k = k'
    · simp [e, vKey, keyB]
    simp [e, vKey, keyB]
  | (a, q) :: r, h => by
    have ha := h.1 (a, q) (.head _)
    have hr : VSet r := ⟨fun e he => h.1 e (.tail _ he), fun e he => h.2 e (.tail _ he)⟩
    have ih := mfind_put k k' p r hr
    cases a with
    | int kk z =>
      simp only [mput]
      by_cases e1 : k' = z
      · have b1 : keyB (vKey k') (.int kk z) = true := by simp [vKey, keyB, e1]
        rw [if_pos b1]
        simp only [mfind]
        by_cases e : k = k'
        · simp [e, vKey, keyB]
        have b2 : ¬ keyB (vKey k) (vKey k') = true := by simp [vKey, keyB, e]
        have b3 : ¬ keyB (vKey k) (.int kk z) = true := by simp [vKey, keyB]; omega
        rw [if_neg b2, if_neg e, if_neg b3]
      have b1 : ¬ keyB (vKey k') (.int kk z) = true := by simp [vKey, keyB, e1]
      rw [if_neg b1]
      simp only [mfind, ih]
      by_cases e : k = z
      · have b3 : keyB (vKey k) (.int kk z) = true := by simp [vKey, keyB, e]
        rw [if_pos b3, if_neg (by omega), if_pos b3]
      have b3 : ¬ keyB (vKey k) (.int kk z) = true := by simp [vKey, keyB, e]
      rw [if_neg b3, if_neg b3]
    | _ => simp [isKeyB] at ha
theorem vsOf_has (l : List Int) (v : Int) : (mfind (vKey v) (vsOf l)).isSome = l.contains v := by
  have key : ∀ (l : List Int) (es : List (Value × PV)), VSet es → (mfind (vKey v) (l.foldl (fun e v => mput (vKey v) (.agg []) e) es)).isSome = ((mfind (vKey v) es).isSome || l.contains v) := by
    intro l
    induction l with
    | nil => intro es _; simp
    | cons a r ih =>
      intro es h
      rw [List.foldl_cons, ih _ (h.put a), mfind_put _ _ _ _ h, List.contains_cons]
      by_cases e : v = a
      · simp [e]
      have eb : (v == a) = false := by simpa using e
      rw [if_neg e, eb, Bool.false_or]
  have := key l [] .nil
  simpa [vsOf, mfind] using this
theorem unit_sub {F : Nat → Prop} {ρ : Loc} {σ : Heap'} {w : World} {v : Value} {k : Value} {es : List (Value × PV)} (h : VSet es) (hr : RepI F ρ σ w (.pv ((mfind k es).getD (.val (.agg #[])))) v) : RepI F ρ σ w (.pv (.agg [])) v := by
  cases hf : mfind k es with
  | none =>
    rw [hf] at hr
    obtain rfl := hr.val
    exact .pv _ _ (.agg [] #[] (fun _ => undef) rfl (fun j x hj => by simp at hj) fun j x hj => by simp at hj)
  | some p =>
    obtain ⟨a, ha⟩ := mfind_mem hf
    have := h.2 _ ha
    simp only at this
    subst this
    rw [hf] at hr
    exact hr
def hPart (vs : List Int) : List Nd → List Nd × List Nd
  | [] => ([], [])
  | x :: r =>
    if hmless x then
      if x.args.any (fun v => vs.contains v) then ((hPart (vs ++ [x.outs.headD 0]) r).1, x :: (hPart (vs ++ [x.outs.headD 0]) r).2)
      else (x :: (hPart vs r).1, (hPart vs r).2)
    else ([], x :: r)
theorem hPart_len : ∀ (l : List Nd) (vs : List Int), (hPart vs l).1.length + (hPart vs l).2.length = l.length
  | [], _ => rfl
  | x :: r, vs => by
    unfold hPart
    split
    · split
      · have := hPart_len r (vs ++ [x.outs.headD 0]); simp only [List.length_cons]; omega
      have := hPart_len r vs; simp only [List.length_cons]; omega
    simp
theorem enc_snoc (l : List Nd) (x : Nd) : (l ++ [x]).map Nd.enc = l.map Nd.enc ++ [[vInt x.kind, vInt x.op, vInt x.n, vStr x.name, ints x.args, ints x.outs, ints x.params, kids x.kids]] := by
  rw [List.map_append, List.map_cons, List.map_nil, Nd.enc_eq, Nd.cells_eta]
theorem hone_cells (x : Nd) : ∀ el ∈ chunks 8 1 [vInt x.kind, vInt x.op, vInt x.n, vStr x.name, ints x.args, ints x.outs, ints x.params, kids x.kids], ∀ y ∈ el, y.one = true := by
  intro el hel
  have : el = x.enc := by
    rw [Nd.enc_eq, Nd.cells_eta]
    exact List.mem_singleton.1 hel
  subst this
  exact x.enc_one
theorem hone_cells8 (a b c : Int) (s : ByteArray) (l1 l2 l3 : List Int) (ks : List (List Nd)) : ∀ el ∈ chunks 8 1 [vInt a, vInt b, vInt c, vStr s, ints l1, ints l2, ints l3, kids ks], ∀ y ∈ el, y.one = true := hone_cells (.mk a b c s l1 l2 l3 ks)
set_option maxRecDepth 8000 in
set_option maxHeartbeats 2000000 in
theorem sc_harmless (x : Nd) : SC Tryz.prog 61 [.pv (ndv x)] [] (fun _ => False) (iBool (hmless x)) [] := by
  refine SC.of Tryz.func61 rfl (lb rfl) fun F ρ w => ?_
  refine Tr.seq <| Tr.region rfl <| WL.cons rfl rfl rfl ((ok_box rfl rfl)) <| cV rfl (oA rfl) <| WL.nil <| Tr.seq <| Tr.seq <| Tr.region rfl <| cV rfl (oFe rfl tF42_0) <| cV rfl (oLe Tryz.underlying3 rfl rfl) <| WL.nil <| Tr.block ?_
  refine Tr.seq <| Tr.seq <| Tr.region rfl <| cV rfl (oB rfl rfl rfl) <| cV rfl (oA rfl) <| WL.nil ?_
  refine Tr.cond rfl (fun hc5 => ?_) (fun hc5 => ?_)
  · refine Tr.skip ?_
    refine Tr.cond rfl (fun hc5 => ?_) (fun hc5 => ?_)
    · refine Tr.seq <| Tr.region rfl <| cV rfl (oA rfl) <| WL.nil <| Tr.ret ?_
      refine ret_ok rfl ?_ no_post
      simp_all [hmless]
    refine Tr.seq <| Tr.region rfl <| cV rfl (oB rfl rfl rfl) <| cV rfl (oA rfl) <| WL.nil ?_
    refine Tr.cond rfl (fun hc9 => ?_) (fun hc9 => ?_)
    · refine Tr.seq <| Tr.region rfl <| cV rfl (oFe rfl tF42_1) <| cV rfl (oLe Tryz.underlying3 rfl rfl) <| cV rfl (oB rfl rfl rfl) <| cV rfl (oM rfl) ?_
      refine WL.split (t := 14) rfl (fun hb14 => ?_) (fun hb14 => ?_)
      · refine yV rfl rfl (oFe rfl tF42_1) <| yV rfl rfl (oLe Tryz.underlying3 rfl rfl) <| yV rfl rfl (oB rfl rfl rfl) <| cV rfl (oT rfl rfl) <| cV rfl (oA rfl) <| WL.nil <| Tr.ret ?_
        refine ret_ok rfl ?_ no_post
        simp_all [hmless]
      refine nV rfl rfl <| nV rfl rfl <| nV rfl rfl <| cV rfl (oF rfl rfl) <| cV rfl (oA rfl) <| WL.nil <| Tr.ret ?_
      refine ret_ok rfl ?_ no_post
      simp_all [hmless]
    refine Tr.skip <| Tr.seq <| Tr.region rfl <| cV rfl (oA rfl) <| WL.nil <| Tr.ret ?_
    refine ret_ok rfl ?_ no_post
    simp_all [hmless]
  refine Tr.seq <| Tr.region rfl <| cV rfl (oB rfl rfl rfl) <| cV rfl (oA rfl) <| WL.nil ?_
  refine Tr.cond rfl (fun hc5 => ?_) (fun hc5 => ?_)
  · refine Tr.skip ?_
    refine Tr.cond rfl (fun hc5 => ?_) (fun hc5 => ?_)
    · refine Tr.seq <| Tr.region rfl <| cV rfl (oA rfl) <| WL.nil <| Tr.ret ?_
      refine ret_ok rfl ?_ no_post
      simp_all [hmless]
    refine Tr.seq <| Tr.region rfl <| cV rfl (oB rfl rfl rfl) <| cV rfl (oA rfl) <| WL.nil ?_
    refine Tr.cond rfl (fun hc9 => ?_) (fun hc9 => ?_)
    · refine Tr.seq <| Tr.region rfl <| cV rfl (oFe rfl tF42_1) <| cV rfl (oLe Tryz.underlying3 rfl rfl) <| cV rfl (oB rfl rfl rfl) <| cV rfl (oM rfl) ?_
      refine WL.split (t := 14) rfl (fun hb14 => ?_) (fun hb14 => ?_)
      · refine yV rfl rfl (oFe rfl tF42_1) <| yV rfl rfl (oLe Tryz.underlying3 rfl rfl) <| yV rfl rfl (oB rfl rfl rfl) <| cV rfl (oT rfl rfl) <| cV rfl (oA rfl) <| WL.nil <| Tr.ret ?_
        refine ret_ok rfl ?_ no_post
        simp_all [hmless]
      refine nV rfl rfl <| nV rfl rfl <| nV rfl rfl <| cV rfl (oF rfl rfl) <| cV rfl (oA rfl) <| WL.nil <| Tr.ret ?_
      refine ret_ok rfl ?_ no_post
      simp_all [hmless]
    refine Tr.skip <| Tr.seq <| Tr.region rfl <| cV rfl (oA rfl) <| WL.nil <| Tr.ret ?_
    refine ret_ok rfl ?_ no_post
    simp_all [hmless]
  refine Tr.region rfl <| cV rfl (oB rfl rfl rfl) <| cV rfl (oA rfl) <| WL.nil ?_
  refine Tr.cond rfl (fun hc5 => ?_) (fun hc5 => ?_)
  · refine Tr.seq <| Tr.region rfl <| cV rfl (oA rfl) <| WL.nil <| Tr.ret ?_
    refine ret_ok rfl ?_ no_post
    simp_all [hmless]
  refine Tr.seq <| Tr.region rfl <| cV rfl (oB rfl rfl rfl) <| cV rfl (oA rfl) <| WL.nil ?_
  refine Tr.cond rfl (fun hc9 => ?_) (fun hc9 => ?_)
  · refine Tr.seq <| Tr.region rfl <| cV rfl (oFe rfl tF42_1) <| cV rfl (oLe Tryz.underlying3 rfl rfl) <| cV rfl (oB rfl rfl rfl) <| cV rfl (oM rfl) ?_
    refine WL.split (t := 14) rfl (fun hb14 => ?_) (fun hb14 => ?_)
    · refine yV rfl rfl (oFe rfl tF42_1) <| yV rfl rfl (oLe Tryz.underlying3 rfl rfl) <| yV rfl rfl (oB rfl rfl rfl) <| cV rfl (oT rfl rfl) <| cV rfl (oA rfl) <| WL.nil <| Tr.ret ?_
      refine ret_ok rfl ?_ no_post
      simp_all [hmless]
    refine nV rfl rfl <| nV rfl rfl <| nV rfl rfl <| cV rfl (oF rfl rfl) <| cV rfl (oA rfl) <| WL.nil <| Tr.ret ?_
    refine ret_ok rfl ?_ no_post
    simp_all [hmless]
  refine Tr.skip <| Tr.seq <| Tr.region rfl <| cV rfl (oA rfl) <| WL.nil <| Tr.ret ?_
  refine ret_ok rfl ?_ no_post
  simp_all [hmless]
set_option maxRecDepth 8000 in
set_option maxHeartbeats 2000000 in
theorem sc_growNode (n : Nat) (h0 : 0 < n) (hn : n ≤ 1073741824) : SC Tryz.prog 86 [.pv (.val (.slice none 0 0)), iInt n] [] (fun _ => False) (.sl 122 0) [(122, .row ⟨42, 8⟩ [])] := by
  refine SC.of Tryz.func86 rfl (lb rfl) fun F ρ w => ?_
  refine Tr.seq <| Tr.region rfl <| cV rfl (oA rfl) <| WL.nil <| Tr.seq <| Tr.seq <| Tr.region rfl <| cV rfl (oM rfl) <| cV rfl (oB rfl rfl rfl) <| WL.nil ?_
  refine Tr.cond rfl (fun hc6 => ?_) (fun hc6 => ?_)
  · exfalso
    simp at hc6
    omega
  refine Tr.skip <| Tr.seq <| Tr.seq <| Tr.region rfl <| cV rfl (oM rfl) <| cV rfl (oM rfl) <| cV rfl (ok_cap_nil rfl rfl Tryz.underlying43) <| cV rfl (oM rfl) <| cV rfl (ok_len_nil rfl rfl Tryz.underlying43) <| cV rfl (oB rfl rfl (i64_sub rfl (by omega))) <| cV rfl (oB rfl rfl (i64_sub rfl (by omega))) <| cV rfl (oA rfl) ?_
  refine WL.nil <| Tr.seq <| Tr.sub (Sub.of (fr' := [(1, iInt n), (0, .pv (.val (.slice none 0 0)))]) ⟨congrArg (fun z => some (iInt z)) (by omega), rfl, trivial⟩) <| Tr.region rfl <| cV rfl (oM rfl) <| cV rfl (oB rfl rfl rfl) <| WL.nil ?_
  refine Tr.cond rfl (fun hc16 => ?_) (fun hc16 => ?_)
  · refine Tr.region rfl <| cV rfl (oM rfl) <| cV rfl (oM rfl) <| cV rfl (ok_cap_nil rfl rfl Tryz.underlying43) <| cV rfl (ok_slice_nil rfl rfl rfl Tryz.underlying43 tS42) <| cV rfl (oM rfl) ?_
    refine WL.cons rfl rfl rfl (ok_append_zeros (k := 122) (s := ⟨42, 8⟩) rfl rfl rfl Tryz.underlying43 Tryz.underlying3 tZ42 tC42 rfl (by decide) (by omega) (by simp [maxLen]; omega) (by omega) rfl rfl rfl rfl) ?_
    refine cV rfl (oM rfl) <| cV rfl (ok_len_nil rfl rfl Tryz.underlying43) ?_
    refine WL.sliceZero (fr' := []) rfl rfl rfl rfl rfl rfl rfl (by simp) h0 rfl Tryz.underlying43 tS42 (Sub.of trivial) rfl rfl ?_
    refine cV rfl (oA rfl) <| WL.nil <| Tr.seq <| Tr.region rfl <| cV rfl (oM rfl) <| cV rfl (oA rfl) <| WL.nil <| Tr.ret ?_
    refine ret_ok rfl ?_ (post_ok (And.intro rfl (trivial)))
    rfl
  exfalso
  simp at hc16
  omega
set_option maxRecDepth 8000 in
set_option maxHeartbeats 2000000 in
theorem sc_concatNode (ks : List (List Nd)) (h0 : 0 < tot ks) (hn : tot ks ≤ 1073741824) : SC Tryz.prog 62 [.pv (kids ks)] [] (fun _ => False) (.pv (nodes ks.flatten)) [] := by
  refine SC.of Tryz.func62 rfl (lb rfl) fun F ρ w => ?_
  refine Tr.lenOf (t := 0) rfl (fun hl => ?_)
  simp only [List.length_map] at hl
  refine Tr.seq <| Tr.region rfl <| cV rfl (oA rfl) <| WL.nil <| Tr.seq <| Tr.region rfl <| cV rfl (oA rfl) <| WL.nil <| Tr.seq <| Tr.seq <| Tr.region rfl <| cV rfl (oM rfl) ?_
  refine cV rfl (oSm Tryz.underlying40 rfl) <| cV rfl (oM rfl) <| WL.nil <| Tr.block <| Tr.sub (Sub.of (fr' := [(11, iInt 0), (10, iInt ks.length), (9, .pv (kids ks)), (3, iInt 0), (0, .pv (kids ks))]) ⟨rfl, rfl, rfl, rfl, rfl, trivial⟩) ?_
  refine Tr.loop (fun fr σ m => ∃ (k : Nat) (n : Nat), (k ≤ ks.length) ∧ (n + tot (ks.drop k) = tot ks) ∧ fr = [(11, iInt k), (10, iInt ks.length), (9, .pv (kids ks)), (3, iInt n), (0, .pv (kids ks))] ∧ σ = look [] ∧ m = ks.length - k) (n := ks.length - 0) ?_ ?_
  · exact ⟨0, 0, Nat.zero_le _, by simp, rfl, rfl, rfl⟩
  rintro fr σ m ⟨k, n, hI0, hI1, rfl, rfl, rfl⟩
  refine Tr.seq <| Tr.region rfl <| cV rfl (oB rfl rfl rfl) <| WL.nil <| Tr.seq ?_
  refine Tr.cond rfl (fun hc12 => ?_) (fun hc12 => ?_)
  · have hlt : k < ks.length := by simpa using hc12
    have hd := List.drop_eq_getElem_cons hlt
    have hm := List.getElem_mem hlt
    have hi := map_get (f := eKid) (List.getElem?_eq_getElem hlt)
    generalize ks[k] = q at hd hm hi
    have hst : tot (q :: ks.drop (k + 1)) = q.length + tot (ks.drop (k + 1)) := rfl
    rw [hd, hst] at hI1
    refine Tr.skip <| Tr.seq <| Tr.block <| Tr.seq <| Tr.region rfl <| cV rfl (ok_index_seq rfl rfl rfl Tryz.underlying40 hi tS43 rfl (by rfl)) <| cV rfl (oLe Tryz.underlying43 rfl rfl) <| cV rfl (oA rfl) <| WL.nil <| Tr.seq <| Tr.region rfl <| cV rfl (oM rfl) ?_
    refine cV rfl (oM rfl) <| cV rfl (oSm Tryz.underlying43 rfl) <| cV rfl (oB rfl rfl (i64_add rfl (by omega))) <| cV rfl (oA rfl) <| WL.nil <| Tr.seq <| Tr.region rfl <| cV rfl (oM rfl) <| cV rfl (oB rfl rfl rfl) <| WL.nil ?_
    refine Tr.cond rfl (fun hc20 => ?_) (fun hc20 => ?_)
    · exfalso
      simp at hc20
      omega
    refine Tr.skip <| Tr.region rfl <| cV rfl (oB rfl rfl (i64_add rfl (by omega))) <| cV rfl (oM rfl) <| WL.nil ?_
    refine ⟨_, _, ?_, Sub.of (fr' := [(11, iInt (k + 1)), (10, iInt ks.length), (9, .pv (kids ks)), (3, iInt (n + q.length)), (0, .pv (kids ks))]) ⟨rfl, rfl, rfl, rfl, rfl, trivial⟩, (k + 1), (n + q.length), ?_, ?_, rfl, rfl, rfl⟩
    all_goals omega
  refine Tr.exit <| Tr.seq ?_
  have hnt : n = tot ks := by
    have := hI1
    rw [List.drop_eq_nil_of_le (by simpa using hc12)] at this
    simpa [tot] using this
  subst hnt
  refine Tr.region rfl <| cV rfl (oM rfl) <| WL.cons rfl rfl rfl (ok_calln (k0 := 122) (sc_growNode (tot ks) h0 hn) ent86 rfl rfl (Subs.refl _ _) (fun _ _ h => by cases h) rfl rfl rfl rfl rfl (fun k (h : _) => .inr h) rfl (by rfl)) <| cV rfl (oA rfl) <| WL.nil <| Tr.seq <| Tr.seq <| Tr.region rfl <| cV rfl (oM rfl) <| cV rfl (oSm Tryz.underlying40 rfl) <| cV rfl (oM rfl) <| WL.nil ?_
  refine Tr.block <| Tr.sub (Sub.of (fr' := [(27, iInt 0), (26, iInt ks.length), (25, .pv (kids ks)), (6, .sl 122 ([] : List Nd).length)]) ⟨rfl, rfl, rfl, rfl, trivial⟩) ?_
  refine Tr.loop (fun fr σ m => ∃ (k : Nat) (acc : List Nd), (k ≤ ks.length) ∧ (acc ++ (ks.drop k).flatten = ks.flatten) ∧ fr = [(27, iInt k), (26, iInt ks.length), (25, .pv (kids ks)), (6, .sl 122 acc.length)] ∧ σ = look [(122, some (.row ⟨42, 8⟩ (acc.map Nd.enc)))] ∧ m = ks.length - k) (n := ks.length - 0) ?_ ?_
  · exact ⟨0, ([] : List Nd), Nat.zero_le _, by simp, rfl, rfl, rfl⟩
  rintro fr σ m ⟨k, acc, hJ0, hJ1, rfl, rfl, rfl⟩
  refine Tr.seq <| Tr.region rfl <| cV rfl (oB rfl rfl rfl) <| WL.nil <| Tr.seq ?_
  refine Tr.cond rfl (fun hc28 => ?_) (fun hc28 => ?_)
  · have hlt : k < ks.length := by simpa using hc28
    have hd := List.drop_eq_getElem_cons hlt
    have hm := List.getElem_mem hlt
    have hi := map_get (f := eKid) (List.getElem?_eq_getElem hlt)
    generalize ks[k] = q at hd hm hi
    have hfl := tot_flatten ks
    have hal : acc.length + q.length ≤ 1073741824 := by
      have := congrArg List.length hJ1
      rw [hd, hfl] at this
      simp at this
      omega
    have hml : (acc.map Nd.enc).length = acc.length := by simp
    have hmq : (q.map Nd.enc).length = q.length := by simp
    refine Tr.skip <| Tr.seq <| Tr.block <| Tr.seq <| Tr.region rfl <| cV rfl (ok_index_seq rfl rfl rfl Tryz.underlying40 hi tS43 rfl (by rfl)) <| cV rfl (oLe Tryz.underlying43 rfl rfl) <| cV rfl (oA rfl) <| WL.nil <| Tr.region rfl <| cV rfl (oM rfl) <| cV rfl (oM rfl) ?_
    refine WL.cons rfl rfl rfl (ok_append rfl rfl rfl rfl (by (simp; done)) ((fun h => h)) Tryz.underlying43 tB42 (by decide) (hw_node) (hone_node) (by simp [maxLen, chunks]; omega) (by simp [chunks]; omega)) ?_
    refine cV rfl (oA rfl) <| WL.nil <| Tr.region rfl <| cV rfl (oB rfl rfl (i64_add rfl (by omega))) <| cV rfl (oM rfl) <| WL.nil ?_
    refine ⟨_, _, ?_, Sub.of (fr' := [(27, iInt (k + 1)), (26, iInt ks.length), (25, .pv (kids ks)), (6, .sl 122 (acc ++ q).length)]) ⟨rfl, rfl, rfl, congrArg (fun z => some (IV.sl 122 z)) (by simp), trivial⟩, (k + 1), (acc ++ q), ?_, ?_, rfl, (by rw [List.map_append]; exact look_shadow), rfl⟩
    · omega
    · omega
    rw [← hJ1, hd]; simp
  refine Tr.exit <| Tr.seq ?_
  refine Tr.freeze (t := 6) (k := 122) rfl rfl (by simp) ?_
  refine Tr.region rfl <| cV rfl (oM rfl) <| cV rfl (oA rfl) <| WL.nil <| Tr.ret ?_
  refine ret_ok rfl ?_ no_post
  have hge : ks.length ≤ k := by simpa using hc28
  have : acc = ks.flatten := by rw [← hJ1, List.drop_eq_nil_of_le hge]; simp
  rw [this]
  rfl
set_option maxRecDepth 8000 in
set_option maxHeartbeats 2000000 in
theorem sc_part1 (vs : List Int) (v : Int) : SC Tryz.prog 63 [iInt v, .ptr 106 0] [(106, .box [.mp 111]), (111, .map (vsOf vs))] (fun k => k = 106 ∨ k = 111) (iBool (vs.contains v)) [(106, .box [.mp 111]), (111, .map (vsOf vs))] := by
  refine SC.of Tryz.func63 rfl (lb rfl) fun F ρ w => ?_
  have hV := VSet.of vs
  have hes := hV.1
  have hzv : ((Tryz.prog.info? 102).bind (·.zero)) = some (.agg #[]) := tZ102
  refine Tr.seq <| Tr.region rfl <| cV rfl (oA rfl) <| WL.nil <| Tr.seq <| Tr.region rfl <| cV rfl (ok_load_box rfl rfl rfl Tryz.underlying101 rfl rfl trivial) <| cV rfl (oM rfl) <| cV rfl (ok_lookup2 (kv := vKey v) rfl rfl rfl rfl Tryz.underlying101 Tryz.underlying3 rfl hes hzv trivial) <| cV rfl (oM rfl) <| cV rfl (ok_extract rfl rfl rfl) <| WL.sub (Sub.cons2 (fun _ _ _ _ h => unit_sub hV h) Sub.rfl') ?_
  refine cV rfl (ok_extract rfl rfl rfl) <| WL.cons rfl rfl rfl (ok_alloc (k := 104) rfl tZ102 rfl rfl rfl rfl) ?_
  refine WL.cons0 rfl rfl (ok_store_box_agg rfl rfl rfl rfl rfl (by simp) tS102 (firmL_ok rfl) (lb rfl)) ?_
  refine cV rfl (oA rfl) <| WL.nil <| Tr.seq <| Tr.region rfl <| cV rfl (oM rfl) <| cV rfl (oA rfl) <| WL.nil <| Tr.ret ?_
  refine ret_ok rfl ?_ (po2 rfl rfl)
  rw [vsOf_has]
set_option maxRecDepth 8000 in
set_option maxHeartbeats 2000000 in
theorem sc_part (l : List Nd) (ps : List Int) (hl : ∀ x ∈ l, hmless x = true → x.outs ≠ []) (hb : l.length ≤ 1073741824) : SC Tryz.prog 39 [.pv (nodes l), .pv (ints ps)] [] (fun _ => False) (.tup [.pv (nodes (hPart ps l).1), .pv (nodes (hPart ps l).2)]) [] := by
  refine SC.of Tryz.func39 rfl (lb rfl) fun F ρ w => ?_
  refine Tr.lenOf (t := 0) rfl (fun hll => ?_)
  simp only [List.length_map] at hll
  refine Tr.lenOf (t := 1) rfl (fun hlp => ?_)
  simp only [List.length_map] at hlp
  refine Tr.seq <| Tr.region rfl <| cV rfl (oA rfl) <| cV rfl (oA rfl) <| WL.nil <| Tr.seq <| Tr.region rfl <| WL.cons rfl rfl rfl (ok_makeMap (k := 111) rfl rfl rfl rfl rfl) <| WL.cons rfl rfl rfl (ok_alloc (k := 106) rfl tZ101 rfl rfl rfl rfl) <| WL.cons0 rfl rfl ((ok_store_box rfl rfl rfl rfl ((fun h => h)) tS101 (⟨_, rfl⟩) (lb rfl))) <| WL.nil <| Tr.seq ?_
  refine Tr.seq <| Tr.grow (t := 4) (k := 104) ⟨42, 8⟩ rfl rfl rfl rfl rfl <| Tr.grow (t := 5) (k := 105) ⟨42, 8⟩ rfl rfl rfl rfl rfl <| Tr.region rfl <| cV rfl (oM rfl) <| cV rfl (oSm Tryz.underlying35 rfl) <| cV rfl (oM rfl) <| WL.nil <| Tr.block <| Tr.sub (Sub.of (fr' := [(14, iInt 0), (13, iInt ps.length), (12, .pv (ints ps)), (6, .ptr 106 0), (4, .sl 104 0), (5, .sl 105 0), (0, .pv (nodes l))]) ⟨rfl, rfl, rfl, rfl, rfl, rfl, rfl, trivial⟩) ?_
  refine Tr.heap (σ' := look [(104, some (.row ⟨42, 8⟩ [])), (105, some (.row ⟨42, 8⟩ [])), (106, some (.box [.mp 111])), (111, some (.map (vsOf ([] : List Int))))]) (by
  exact fun j => by
    simp only [look]
    by_cases h1 : 106 = j
    · subst h1; rfl
    · by_cases h2 : 111 = j
      · subst h2; rfl
      · by_cases h3 : 104 = j
        · subst h3; rfl
        · by_cases h4 : 105 = j
          · subst h4; rfl
          · simp [look, up, beq_ne h1, beq_ne h2, beq_ne h3, beq_ne h4]) ?_
  refine Tr.loop (fun fr σ m => ∃ (k : Nat) (vs : List Int), (k ≤ ps.length) ∧ (vs ++ ps.drop k = ps) ∧ fr = [(14, iInt k), (13, iInt ps.length), (12, .pv (ints ps)), (6, .ptr 106 0), (4, .sl 104 0), (5, .sl 105 0), (0, .pv (nodes l))] ∧ σ = look [(104, some (.row ⟨42, 8⟩ [])), (105, some (.row ⟨42, 8⟩ [])), (106, some (.box [.mp 111])), (111, some (.map (vsOf vs)))] ∧ m = ps.length - k) (n := ps.length - 0) ?_ ?_
  · exact ⟨0, ([] : List Int), Nat.zero_le _, rfl, rfl, rfl, rfl⟩
  · rintro fr σ m ⟨k, vs, hI0, hI1, rfl, rfl, rfl⟩
    refine Tr.seq <| Tr.region rfl <| cV rfl (oB rfl rfl rfl) <| WL.nil <| Tr.seq ?_
    refine Tr.cond rfl (fun hc15 => ?_) (fun hc15 => ?_)
    · have hlt : k < ps.length := by simpa using hc15
      have hd := List.drop_eq_getElem_cons hlt
      have hm := List.getElem_mem hlt
      have hi := map_get (f := eInt) (List.getElem?_eq_getElem hlt)
      generalize ps[k] = x at hd hm hi
      have hV := VSet.of vs
      have hes := hV.1
      refine Tr.skip <| Tr.seq <| Tr.block <| Tr.seq <| Tr.region rfl <| cV rfl (ok_index_seq rfl rfl rfl Tryz.underlying35 hi tS3 rfl (by rfl)) <| cV rfl (oLe Tryz.underlying3 rfl rfl) <| cV rfl (oA rfl) <| WL.nil <| Tr.region rfl <| cV rfl (ok_load_box rfl rfl rfl Tryz.underlying101 rfl rfl trivial) <| cV rfl (oM rfl) ?_
      refine cV rfl (ok_build_pure rfl rfl tZ102 tP102 rfl (firmB_ok rfl) rfl) <| WL.cons0 rfl rfl (ok_mapUpdate rfl rfl rfl rfl rfl ((fun h => h)) Tryz.underlying101 Tryz.underlying3 rfl (by assumption)) <| WL.nil <| Tr.region rfl <| cV rfl (oB rfl rfl (i64_add rfl (by omega))) <| cV rfl (oM rfl) <| WL.nil ?_
      refine ⟨_, _, ?_, Sub.of (fr' := [(14, iInt (k + 1)), (13, iInt ps.length), (12, .pv (ints ps)), (6, .ptr 106 0), (4, .sl 104 0), (5, .sl 105 0), (0, .pv (nodes l))]) ⟨rfl, rfl, rfl, rfl, rfl, rfl, rfl, trivial⟩, (k + 1), (vs ++ [x]), ?_, ?_, rfl, (by
  rw [← vsOf_snoc]
  exact funext (by
  exact fun j => by
    simp only [look]
    by_cases h1 : 106 = j
    · subst h1; rfl
    · by_cases h2 : 111 = j
      · subst h2; rfl
      · by_cases h3 : 104 = j
        · subst h3; rfl
        · by_cases h4 : 105 = j
          · subst h4; rfl
          · simp [look, up, beq_ne h1, beq_ne h2, beq_ne h3, beq_ne h4])), rfl⟩
      · omega
      · omega
      rw [List.append_assoc, List.singleton_append, ← hd]; exact hI1
    refine Tr.exit <| Tr.seq <| Tr.seq ?_
    have hvs : ps = vs := by
      have := hI1
      rw [List.drop_eq_nil_of_le (by simpa using hc15)] at this
      simpa using this.symm
    subst hvs
    refine Tr.region rfl <| cV rfl (oM rfl) <| cV rfl (oSm Tryz.underlying43 rfl) <| cV rfl (oM rfl) <| WL.nil <| Tr.block <| Tr.sub (Sub.of (fr' := [(24, iInt 0), (23, iInt l.length), (22, .pv (nodes l)), (6, .ptr 106 0), (4, .sl 104 ([] : List Nd).length), (5, .sl 105 ([] : List Nd).length), (0, .pv (nodes l))]) ⟨rfl, rfl, rfl, rfl, rfl, rfl, rfl, trivial⟩) ?_
    refine Tr.loop (fun fr σ m => ∃ (k : Nat) (vs : List Int) (A : List Nd) (B : List Nd), (k ≤ l.length) ∧ (A.length + B.length = k) ∧ (hPart ps l = (A ++ (hPart vs (l.drop k)).1, B ++ (hPart vs (l.drop k)).2)) ∧ fr = [(24, iInt k), (23, iInt l.length), (22, .pv (nodes l)), (6, .ptr 106 0), (4, .sl 104 A.length), (5, .sl 105 B.length), (0, .pv (nodes l))] ∧ σ = look [(104, some (.row ⟨42, 8⟩ (A.map Nd.enc))), (105, some (.row ⟨42, 8⟩ (B.map Nd.enc))), (106, some (.box [.mp 111])), (111, some (.map (vsOf vs)))] ∧ m = l.length - k) (n := l.length - 0) ?_ ?_
    · exact ⟨0, ps, ([] : List Nd), ([] : List Nd), Nat.zero_le _, rfl, by simp, rfl, rfl, rfl⟩
    · rintro fr σ m ⟨k, vs, A, B, hJ0, hJ1, hJ2, rfl, rfl, rfl⟩
      refine Tr.seq <| Tr.region rfl <| cV rfl (oB rfl rfl rfl) <| WL.nil <| Tr.seq ?_
      refine Tr.cond rfl (fun hc25 => ?_) (fun hc25 => ?_)
      · have hlt : k < l.length := by simpa using hc25
        have hd := List.drop_eq_getElem_cons hlt
        have hm := List.getElem_mem hlt
        have hi := nodes_get (List.getElem?_eq_getElem hlt)
        generalize l[k] = x at hd hm hi
        have hV := VSet.of vs
        have hes := hV.1
        refine Tr.skip <| Tr.seq <| Tr.block <| Tr.seq <| Tr.region rfl <| cV rfl (oM rfl) <| cV rfl (ok_index_seq rfl rfl rfl Tryz.underlying43 hi tS42 rfl (by rfl)) <| cV rfl (ok_load_ept_agg rfl rfl Tryz.underlying42 rfl tS42 (Nat.le_of_ble_eq_true rfl)) <| WL.cons rfl rfl rfl (ok_alloc (k := 110) rfl tZ42 rfl rfl rfl rfl) <| cV rfl (oA rfl) <| WL.cons0 rfl rfl (ok_store_box_agg rfl rfl rfl rfl rfl ((fun h => h)) tS42 (firmL_ok rfl) (lb rfl)) <| WL.nil ?_
        refine Tr.seq <| Tr.seq <| Tr.freezeBox (t := 10) (k := 110) rfl rfl rfl ?_
        refine Tr.heap (σ' := look [(104, some (.row ⟨42, 8⟩ (A.map Nd.enc))), (105, some (.row ⟨42, 8⟩ (B.map Nd.enc))), (106, some (.box [.mp 111])), (111, some (.map (vsOf vs)))]) (fun j => by
          simp only [look]
          by_cases h : 110 = j
          · subst h; rfl
          · simp [beq_ne h]) ?_
        refine Tr.region rfl <| cV rfl (ok_load_ept_agg rfl rfl Tryz.underlying42 rfl tS42 (Nat.le_of_ble_eq_true rfl)) <| WL.cons rfl rfl rfl (ok_callq (sc_harmless x) ent61 rfl rfl (Subs.refl _ _) rfl) <| cV rfl (oN rfl) <| WL.nil ?_
        refine Tr.cond rfl (fun hc31 => ?_) (fun hc31 => ?_)
        · refine Tr.freeze (t := 4) (k := 104) rfl rfl (by simp) ?_
          refine Tr.freeze (t := 5) (k := 105) rfl rfl (by simp) ?_
          refine Tr.seq <| Tr.region rfl <| cV rfl (oM rfl) <| cV rfl (oM rfl) <| cV rfl (oM rfl) <| cV rfl (oM rfl) <| cV rfl (ok_slice_seq rfl rfl Tryz.underlying43 tS42 (.inr ⟨_, _, rfl, rfl⟩) (.inl ⟨rfl, rfl⟩) (by (simp; omega)) (by (simp; done)) (hw_node)) <| WL.cons rfl rfl rfl (ok_buildSlice rfl rfl Tryz.underlying40 tZ43 tS43 rfl rfl rfl rfl (firmB_ok rfl) rfl) ?_
          refine WL.cons rfl rfl rfl (ok_callq (sc_concatNode [B, l.drop k] (by simp [tot]; omega) (by simp [tot]; omega)) ent62 rfl rfl (Subs.same (by simp [kids, eKid, nodes, List.map_drop, chunks, List.take_of_length_le]) Subs.nil) rfl) ?_
          refine cV rfl (oA rfl) <| cV rfl (oA rfl) <| WL.nil <| Tr.ret ?_
          refine ret_ok rfl ?_ no_post
          have hhm : hmless x = false := by simpa using hc31
          rw [hJ2, hd]
          simp only [hPart, hhm, Bool.false_eq_true, if_false, List.append_nil]
          simp [nodes, hd]
        · have hhm : hmless x = true := by simpa using hc31
          have hon := hl x hm hhm
          obtain ⟨o0, ors, hos⟩ := List.exists_cons_of_ne_nil hon
          have ho0 : (x.outs.map eInt)[0]? = some [vInt o0] := by rw [hos]; rfl
          have hoh : x.outs.headD 0 = o0 := by rw [hos]; rfl
          have hAl : (A.map Nd.enc).length = A.length := by simp
          have hBl : (B.map Nd.enc).length = B.length := by simp
          refine Tr.skip <| Tr.seq <| Tr.seq <| Tr.region rfl <| cV rfl (oFe rfl tF42_4) <| cV rfl (oLe Tryz.underlying35 rfl rfl) <| cV rfl (ok_makeFunc rfl rfl rfl) ?_
          refine WL.cons rfl rfl rfl (ok_callr (sc_has_int 63 [.ptr 106 0] [(106, .box [.mp 111]), (111, .map (vsOf vs))] rfl ent63 (fun v => vs.contains v) x.args (fun v hv => (sc_part1 vs v).sameR (fun k hk _ => by
    simp only [up, List.map_cons, List.map_nil, look] at hk
    by_cases h1 : 106 = k
    · exact .inl h1.symm
    · by_cases h2 : 111 = k
      · exact .inr h2.symm
      · simp [beq_ne h1, beq_ne h2] at hk))) ent58 rfl rfl (Subs.refl _ _) (po2 rfl rfl) (by rfl) (fun k (h : _) => .inr trivial) rfl (by rfl)) ?_
          refine WL.nil ?_
          refine Tr.cond rfl (fun hc42 => ?_) (fun hc42 => ?_)
          · refine Tr.heap (σ' := look [(104, some (.row ⟨42, 8⟩ (A.map Nd.enc))), (105, some (.row ⟨42, 8⟩ (B.map Nd.enc))), (106, some (.box [.mp 111])), (111, some (.map (vsOf vs)))]) (by
              exact fun j => by
                simp only [look]
                by_cases h1 : 106 = j
                · subst h1; rfl
                · by_cases h2 : 111 = j
                  · subst h2; rfl
                  · by_cases h3 : 104 = j
                    · subst h3; rfl
                    · by_cases h4 : 105 = j
                      · subst h4; rfl
                      · simp [look, up, beq_ne h1, beq_ne h2, beq_ne h3, beq_ne h4]) ?_
            refine Tr.seq <| Tr.drawn mixed (fun k => k ∈ ([106] : List Nat)) <| WA.run (fuel := 1) [0, 1, 2, 3, 4, 5] (by kernel_rfl) ((fun _ _ _ h => h)) (by kernel_rfl) <| rV rfl rfl (ok_load_box rfl rfl rfl Tryz.underlying101 rfl rfl (by decide)) <| rV rfl rfl (oFe rfl tF42_5) <| rV rfl rfl (oLe Tryz.underlying35 rfl rfl) <| rV rfl rfl (ok_index_seq rfl rfl rfl Tryz.underlying35 ho0 tS3 rfl (by rfl)) <| rV rfl rfl (oLe Tryz.underlying3 rfl rfl) <| rV rfl rfl (ok_build_pure rfl rfl tZ102 tP102 rfl (firmB_ok rfl) rfl) <| WR.nil <| WA.one (i := 6) (by kernel_rfl) ?_
            refine WI.op rfl rfl rfl (by intro t h; cases h <;> rfl) (fun k (h : _) => h.elim) (new_old rfl) (fun ρ w => ok_mapUpdate rfl rfl rfl rfl rfl (by simp) Tryz.underlying101 Tryz.underlying3 rfl (by assumption)) ?_
            refine WA.done (by kernel_rfl) <| Tr.seq <| Tr.region rfl <| cV rfl (oM rfl) <| cV rfl (ok_load_ept_agg rfl rfl Tryz.underlying42 rfl tS42 (Nat.le_of_ble_eq_true rfl)) <| WL.cons rfl rfl rfl (ok_buildSlice rfl rfl Tryz.underlying43 tZ42 tS42 rfl rfl rfl rfl (firmB_ok rfl) rfl) ?_
            refine WL.cons rfl rfl rfl (ok_append rfl rfl rfl rfl (by (simp; done)) ((fun h => h)) Tryz.underlying43 tB42 (by decide) (by (simp [chunks]; done)) (hone_cells _) (by simp [maxLen, chunks]; omega) (by simp [chunks]; omega)) ?_
            refine cV rfl (oA rfl) <| WL.nil <| Tr.exit <| Tr.region rfl <| cV rfl (oB rfl rfl (i64_add rfl (by omega))) <| cV rfl (oM rfl) <| WL.nil ?_
            (have hany : x.args.any (fun v => vs.contains v) = true := by simpa using hc42
             refine ⟨_, _, ?_, Sub.of (fr' := [(24, iInt ((k + 1 : Nat) : Int)), (23, iInt l.length), (22, .pv (nodes l)), (6, .ptr 106 0), (4, .sl 104 A.length), (5, .sl 105 (B ++ [x]).length), (0, .pv (nodes l))]) ⟨rfl, rfl, rfl, rfl, (by rfl), (congrArg (fun z => some (IV.sl _ z)) (by simp [chunks])), rfl, trivial⟩, (k + 1), (vs ++ [o0]), A, (B ++ [x]), ?_, ?_, ?_, rfl, (funext (by
               rw [enc_snoc, ← vsOf_snoc]
               exact fun j => by
                 simp only [look]
                 by_cases h1 : 106 = j
                 · subst h1; rfl
                 · by_cases h2 : 111 = j
                   · subst h2; rfl
                   · by_cases h3 : 104 = j
                     · subst h3; rfl
                     · by_cases h4 : 105 = j
                       · subst h4; rfl
                       · simp [look, up, beq_ne h1, beq_ne h2, beq_ne h3, beq_ne h4])), rfl⟩
             · omega
             · omega
             · simp; omega
             · rw [hJ2, hd]
               simp only [hPart, hhm, if_true, hany, Bool.false_eq_true, if_false, hoh]
               simp)
            skip
          refine Tr.heap (σ' := look [(104, some (.row ⟨42, 8⟩ (A.map Nd.enc))), (105, some (.row ⟨42, 8⟩ (B.map Nd.enc))), (106, some (.box [.mp 111])), (111, some (.map (vsOf vs)))]) (by
            exact fun j => by
              simp only [look]
              by_cases h1 : 106 = j
              · subst h1; rfl
              · by_cases h2 : 111 = j
                · subst h2; rfl
                · by_cases h3 : 104 = j
                  · subst h3; rfl
                  · by_cases h4 : 105 = j
                    · subst h4; rfl
                    · simp [look, up, beq_ne h1, beq_ne h2, beq_ne h3, beq_ne h4]) ?_
          refine Tr.skip <| Tr.region rfl <| cV rfl (oM rfl) <| cV rfl (ok_load_ept_agg rfl rfl Tryz.underlying42 rfl tS42 (Nat.le_of_ble_eq_true rfl)) <| WL.cons rfl rfl rfl (ok_buildSlice rfl rfl Tryz.underlying43 tZ42 tS42 rfl rfl rfl rfl (firmB_ok rfl) rfl) ?_
          refine WL.cons rfl rfl rfl (ok_append rfl rfl rfl rfl (by (simp; done)) ((fun h => h)) Tryz.underlying43 tB42 (by decide) (by (simp [chunks]; done)) (hone_cells _) (by simp [maxLen, chunks]; omega) (by simp [chunks]; omega)) ?_
          refine cV rfl (oA rfl) <| WL.nil <| Tr.region rfl <| cV rfl (oB rfl rfl (i64_add rfl (by omega))) <| cV rfl (oM rfl) <| WL.nil ?_
          (have hany : x.args.any (fun v => vs.contains v) = false := by simpa using hc42
           refine ⟨_, _, ?_, Sub.of (fr' := [(24, iInt ((k + 1 : Nat) : Int)), (23, iInt l.length), (22, .pv (nodes l)), (6, .ptr 106 0), (4, .sl 104 (A ++ [x]).length), (5, .sl 105 B.length), (0, .pv (nodes l))]) ⟨rfl, rfl, rfl, rfl, (congrArg (fun z => some (IV.sl _ z)) (by simp [chunks])), (by rfl), rfl, trivial⟩, (k + 1), vs, (A ++ [x]), B, ?_, ?_, ?_, rfl, (funext (by
             rw [enc_snoc]
             exact fun j => by
               simp only [look]
               by_cases h1 : 106 = j
               · subst h1; rfl
               · by_cases h2 : 111 = j
                 · subst h2; rfl
                 · by_cases h3 : 104 = j
                   · subst h3; rfl
                   · by_cases h4 : 105 = j
                     · subst h4; rfl
                     · simp [look, up, beq_ne h1, beq_ne h2, beq_ne h3, beq_ne h4])), rfl⟩
           · omega
           · omega
           · simp; omega
           · rw [hJ2, hd]
             simp only [hPart, hhm, if_true, hany, Bool.false_eq_true, if_false, hoh]
             simp)
          skip
      refine Tr.exit <| Tr.seq ?_
      refine Tr.freeze (t := 4) (k := 104) rfl rfl (by simp) ?_
      refine Tr.freeze (t := 5) (k := 105) rfl rfl (by simp) ?_
      refine Tr.region rfl <| cV rfl (oM rfl) <| cV rfl (oM rfl) <| cV rfl (oA rfl) <| cV rfl (oA rfl) <| WL.nil <| Tr.ret ?_
      refine ret_ok rfl ?_ no_post
      have hge : l.length ≤ k := by simpa using hc25
      rw [hJ2, List.drop_eq_nil_of_le hge]
      simp only [hPart, List.append_nil]
      rfl
def hOut (kind op n : Int) (name : ByteArray) (args outs params : List Int) (ks : List (List Nd)) : List Nd :=
  if kind == 11 then
    match ks with
    | b :: r => (hPart params b).1 ++ [.mk kind op n name args outs params ((hPart params b).2 :: r)]
    | [] => [.mk kind op n name args outs params []]
  else [.mk kind op n name args outs params ks]
mutual
def hNode : Nd → List Nd
  | .mk kind op n name args outs params ks => hOut kind op n name args outs params (hKids ks)
def hList : List Nd → List Nd
  | [] => []
  | x :: r => hNode x ++ hList r
def hKids : List (List Nd) → List (List Nd)
  | [] => []
  | l :: r => hList l :: hKids r
end
theorem hNode_eq (x : Nd) : hNode x = hOut x.kind x.op x.n x.name x.args x.outs x.params (hKids x.kids) := by cases x; simp [hNode, Nd.kind, Nd.op, Nd.n, Nd.name, Nd.args, Nd.outs, Nd.params, Nd.kids]
mutual
def hOkN : Nd → Bool
  | .mk kind op n name args outs params ks => (!hmless (.mk kind op n name args outs params ks) || !outs.isEmpty) && (kind != 11 || !ks.isEmpty) && hOkK ks
def hOkL : List Nd → Bool
  | [] => true
  | x :: r => hOkN x && hOkL r
def hOkK : List (List Nd) → Bool
  | [] => true
  | l :: r => hOkL l && hOkK r
end
theorem hOkN_eq (x : Nd) : hOkN x = ((!hmless x || !x.outs.isEmpty) && (x.kind != 11 || !x.kids.isEmpty) && hOkK x.kids) := by cases x; simp [hOkN, Nd.kind, Nd.outs, Nd.kids]
theorem hOkL_mem : ∀ {l : List Nd} {x : Nd}, hOkL l = true → x ∈ l → hOkN x = true
  | y :: r, x, h, hx => by
    simp only [hOkL, Bool.and_eq_true] at h
    rcases List.mem_cons.1 hx with rfl | hx
    · exact h.1
    · exact hOkL_mem h.2 hx
theorem hOkK_mem : ∀ {l : List (List Nd)} {x : List Nd}, hOkK l = true → x ∈ l → hOkL x = true
  | y :: r, x, h, hx => by
    simp only [hOkK, Bool.and_eq_true] at h
    rcases List.mem_cons.1 hx with rfl | hx
    · exact h.1
    · exact hOkK_mem h.2 hx
def Outs (l : List Nd) : Prop := ∀ x ∈ l, hmless x = true → x.outs ≠ []
theorem hPart_mem : ∀ (l : List Nd) (vs : List Int) (x : Nd), (x ∈ (hPart vs l).1 ∨ x ∈ (hPart vs l).2) ↔ x ∈ l
  | [], _, x => by simp [hPart]
  | y :: r, vs, x => by
    unfold hPart
    split
    · split
      · have := hPart_mem r (vs ++ [y.outs.headD 0]) x
        simp only [List.mem_cons]
        constructor
        · rintro (h | h | h)
          · exact .inr (this.1 (.inl h))
          · exact .inl h
          · exact .inr (this.1 (.inr h))
        · rintro (h | h)
          · exact .inr (.inl h)
          · rcases this.2 h with h | h
            · exact .inl h
            · exact .inr (.inr h)
      · have := hPart_mem r vs x
        simp only [List.mem_cons]
        constructor
        · rintro ((h | h) | h)
          · exact .inl h
          · exact .inr (this.1 (.inl h))
          · exact .inr (this.1 (.inr h))
        · rintro (h | h)
          · exact .inl (.inl h)
          · rcases this.2 h with h | h
            · exact .inl (.inr h)
            · exact .inr h
    · simp
mutual
theorem hNode_outs : ∀ (x : Nd), hOkN x = true → Outs (hNode x)
  | .mk kind op n name args outs params ks, h => by
    simp only [hOkN, Bool.and_eq_true, Bool.or_eq_true, Bool.not_eq_true'] at h
    have hown : ∀ ks', Outs [.mk kind op n name args outs params ks'] := by
      intro ks' y hy hm
      obtain rfl := List.mem_singleton.1 hy
      have hm2 : hmless (.mk kind op n name args outs params ks) = true := hm
      rcases h.1.1 with h1 | h1
      · rw [h1] at hm2; cases hm2
      · intro e
        have e2 : outs = [] := e
        rw [e2] at h1; cases h1
    unfold hNode hOut
    split
    · match ks, h with
      | [], _ => simp only [hKids]; exact hown _
      | l :: r, h =>
        simp only [hKids]
        have hl : hOkL l = true := by have := h.2; simp only [hOkK, Bool.and_eq_true] at this; exact this.1
        have ih := hList_outs l hl
        intro y hy
        rcases List.mem_append.1 hy with hy | hy
        · exact ih y ((hPart_mem (hList l) params y).1 (.inl hy))
        · exact hown _ y hy
    · exact hown _
theorem hList_outs : ∀ (l : List Nd), hOkL l = true → Outs (hList l)
  | [], _ => by simp [hList, Outs]
  | x :: r, h => by
    simp only [hOkL, Bool.and_eq_true] at h
    intro y hy
    simp only [hList] at hy
    rcases List.mem_append.1 hy with hy | hy
    · exact hNode_outs x h.1 y hy
    · exact hList_outs r h.2 y hy
end
mutual
theorem hNode_len : ∀ (x : Nd), (hNode x).length ≤ ndW x
  | .mk kind op n name args outs params ks => by
    unfold hNode hOut
    split
    · match ks with
      | [] => simp [hKids, ndW]; omega
      | l :: r =>
        have h1 := hList_len l
        have h2 := hPart_len (hList l) params
        simp only [hKids, ndW, kdW, List.length_append, List.length_cons, List.length_nil]
        omega
    · simp [ndW]; omega
theorem hList_len : ∀ (l : List Nd), (hList l).length ≤ lsW l
  | [] => by simp [hList]
  | x :: r => by
    have h1 := hNode_len x
    have h2 := hList_len r
    simp only [hList, lsW, List.length_append]
    omega
end
theorem kd_len : ∀ ks : List (List Nd), ks.length ≤ kdW ks
  | [] => by simp
  | l :: r => by have := kd_len r; simp only [kdW, List.length_cons]; omega
def hFlow (f : Fl) : Fl := ⟨f.name, f.ty, f.params, f.types, hList f.body⟩
def hUnit (u : Un) : Un := ⟨u.arrays, u.flows.map hFlow⟩
def hoistOf (u : Un) : Un × Int := if (shCheck u).1 == 0 then (hUnit u, 0) else (⟨[], []⟩, 1)
theorem hone_flow5 (a : ByteArray) (b c : Int) (l : List Int) (ns : List Nd) : ∀ el ∈ chunks 5 1 [vStr a, vInt b, vInt c, ints l, nodes ns], ∀ y ∈ el, y.one = true := by
  intro el hel y hy
  rw [List.mem_singleton.1 hel] at hy
  simp only [List.take, List.mem_cons, List.not_mem_nil, or_false] at hy
  rcases hy with rfl | rfl | rfl | rfl | rfl <;> rfl
theorem enc_snocF (l : List Fl) (x : Fl) : (l ++ [hFlow x]).map Fl.enc = l.map Fl.enc ++ [[vStr x.name, vInt x.ty, vInt x.params, ints x.types, nodes (hList x.body)]] := by
  rw [List.map_append]; rfl
theorem empty_unit {F : Nat → Prop} {ρ : Loc} {σ : Heap'} {w : World} {v : Value} (h : RepI F ρ σ w (.pv (.agg [.val (.slice none 0 0), .val (.slice none 0 0)])) v) : RepI F ρ σ w (.pv (Un.enc ⟨[], []⟩)) v :=
  sub_pv (PSub.agg (ps := [.val (.slice none 0 0), .val (.slice none 0 0)]) (qs := [.seq [], .seq []]) (And.intro PSub.nil (And.intro PSub.nil trivial))) h
set_option maxRecDepth 8000 in
set_option maxHeartbeats 2000000 in
theorem sc_hList_aux (N : Nat) : ∀ (l : List Nd) (hok : hOkL l = true) (hb : lsW l ≤ 1073741824), SizeOf.sizeOf l < N → SC Tryz.prog 23 [.pv (nodes l)] [] (fun _ => False) (.pv (nodes (hList l))) [] := by
  induction N with
  | zero => intro l hok hb hN; exact absurd hN (Nat.not_lt_zero _)
  | succ N ih =>
    intro l hok hb hN
    refine SC.of Tryz.func23 rfl (lb rfl) fun F ρ w => ?_
    refine Tr.lenOf (t := 0) rfl (fun hl => ?_)
    simp only [List.length_map] at hl
    refine Tr.seq <| Tr.region rfl <| cV rfl (oA rfl) <| WL.nil <| Tr.seq <| Tr.seq <| Tr.grow (t := 2) (k := 102) ⟨42, 8⟩ rfl rfl rfl rfl rfl <| Tr.region rfl <| cV rfl (oM rfl) <| cV rfl (oSm Tryz.underlying43 rfl) <| cV rfl (oM rfl) <| WL.nil ?_
    refine Tr.block <| Tr.sub (Sub.of (fr' := [(12, iInt 0), (11, iInt l.length), (10, .pv (nodes l)), (2, .sl 102 ([] : List Nd).length)]) ⟨rfl, rfl, rfl, rfl, trivial⟩) ?_
    refine Tr.loop (fun fr σ m => ∃ (k : Nat) (out : List Nd), (k ≤ l.length) ∧ (out ++ hList (l.drop k) = hList l) ∧ fr = [(12, iInt k), (11, iInt l.length), (10, .pv (nodes l)), (2, .sl 102 out.length)] ∧ σ = look [(102, some (.row ⟨42, 8⟩ (out.map Nd.enc)))] ∧ m = l.length - k) (n := l.length - 0) ?_ ?_
    · exact ⟨0, ([] : List Nd), Nat.zero_le _, rfl, rfl, rfl, rfl⟩
    · rintro fr σ m ⟨k, out, hI0, hI1, rfl, rfl, rfl⟩
      refine Tr.seq <| Tr.region rfl <| cV rfl (oB rfl rfl rfl) <| WL.nil <| Tr.seq ?_
      refine Tr.cond rfl (fun hc13 => ?_) (fun hc13 => ?_)
      · have hlt : k < l.length := by simpa using hc13
        have hd := List.drop_eq_getElem_cons hlt
        have hm := List.getElem_mem hlt
        have hi := nodes_get (List.getElem?_eq_getElem hlt)
        generalize l[k] = x at hd hm hi
        have hst : hList (x :: l.drop (k + 1)) = hNode x ++ hList (l.drop (k + 1)) := rfl
        have hxok := hOkL_mem hok hm
        rw [hOkN_eq] at hxok
        simp only [Bool.and_eq_true] at hxok
        have hlen1 := hList_len l
        have hol : out.length + (hNode x).length ≤ 1073741824 := by
          have := congrArg List.length hI1
          rw [hd, hst] at this
          simp only [List.length_append] at this
          omega
        have hWx := ndW_eq x
        have hWl := ndW_mem hm
        have hkl : x.kids.length ≤ 1073741824 := by
          have := kd_len x.kids; omega
        have hml : (out.map Nd.enc).length = out.length := by simp
        refine Tr.skip <| Tr.seq <| Tr.block <| Tr.seq <| Tr.region rfl <| cV rfl (ok_index_seq rfl rfl rfl Tryz.underlying43 hi tS42 rfl (by rfl)) <| cV rfl (ok_load_ept_agg rfl rfl Tryz.underlying42 rfl tS42 (Nat.le_of_ble_eq_true rfl)) <| WL.cons rfl rfl rfl (ok_alloc (k := 104) rfl tZ42 rfl rfl rfl rfl) <| WL.cons0 rfl rfl (ok_store_box_agg rfl rfl rfl rfl rfl ((fun h => h)) tS42 (firmL_ok rfl) (lb rfl)) <| WL.nil <| Tr.seq <| Tr.region rfl ?_
        refine cV rfl (oA rfl) <| WL.nil <| Tr.seq <| Tr.seq <| Tr.grow (t := 5) (k := 105) ⟨43, 1⟩ rfl rfl rfl rfl rfl <| Tr.region rfl <| cV rfl (oFp rfl rfl tF42_7) <| cV rfl (oLb Tryz.underlying40 rfl rfl rfl trivial) <| cV rfl (oSm Tryz.underlying40 rfl) <| cV rfl (oM rfl) <| WL.nil <| Tr.block ?_
        refine Tr.sub (Sub.of (fr' := [(19, iInt 0), (18, iInt x.kids.length), (17, .pv (kids x.kids)), (5, .sl 105 (([] : List (List Nd)).map eKid).length), (4, .ptr 104 0), (2, .sl 102 out.length), (12, iInt k), (11, iInt l.length), (10, .pv (nodes l))]) ⟨rfl, rfl, rfl, rfl, rfl, rfl, rfl, rfl, rfl, trivial⟩) ?_
        refine Tr.heap (σ' := look [(105, some (.row ⟨43, 1⟩ (([] : List (List Nd)).map eKid))), (104, some (.box [iInt x.kind, iInt x.op, iInt x.n, iStr x.name, .pv (ints x.args), .pv (ints x.outs), .pv (ints x.params), .pv (kids x.kids)])), (102, some (.row ⟨42, 8⟩ (out.map Nd.enc)))]) (by
  intro j
  simp only [look]
  by_cases h105 : 105 = j
  · subst h105; rfl
  · by_cases h104 : 104 = j
    · subst h104; rfl
    · by_cases h102 : 102 = j
      · subst h102; rfl
      · simp [look, up, beq_ne h105, beq_ne h104, beq_ne h102]) ?_
        refine Tr.loop (fun fr σ m => ∃ (i : Nat) (acc : List (List Nd)), (i ≤ x.kids.length) ∧ (acc ++ hKids (x.kids.drop i) = hKids x.kids) ∧ (acc.length = i) ∧ fr = [(19, iInt i), (18, iInt x.kids.length), (17, .pv (kids x.kids)), (5, .sl 105 (acc.map eKid).length), (4, .ptr 104 0), (2, .sl 102 out.length), (12, iInt k), (11, iInt l.length), (10, .pv (nodes l))] ∧ σ = look [(105, some (.row ⟨43, 1⟩ (acc.map eKid))), (104, some (.box [iInt x.kind, iInt x.op, iInt x.n, iStr x.name, .pv (ints x.args), .pv (ints x.outs), .pv (ints x.params), .pv (kids x.kids)])), (102, some (.row ⟨42, 8⟩ (out.map Nd.enc)))] ∧ m = x.kids.length - i) (n := x.kids.length - 0) ?_ ?_
        · exact ⟨0, ([] : List (List Nd)), Nat.zero_le _, rfl, rfl, rfl, rfl, rfl⟩
        · rintro fr σ m ⟨i, acc, hJ0, hJ1, hJ2, rfl, rfl, rfl⟩
          refine Tr.seq <| Tr.region rfl <| cV rfl (oB rfl rfl rfl) <| WL.nil <| Tr.seq ?_
          refine Tr.cond rfl (fun hc20 => ?_) (fun hc20 => ?_)
          · have hlt2 : i < x.kids.length := by simpa using hc20
            have hd2 := List.drop_eq_getElem_cons hlt2
            have hm2 := List.getElem_mem hlt2
            have hi2 := map_get (f := eKid) (List.getElem?_eq_getElem hlt2)
            generalize x.kids[i] = q at hd2 hm2 hi2
            have hst2 : hKids (q :: x.kids.drop (i + 1)) = hList q :: hKids (x.kids.drop (i + 1)) := rfl
            have hdec : SizeOf.sizeOf q < N := Nat.lt_of_lt_of_le (kid_lt hm rfl hm2) (Nat.le_of_lt_succ hN)
            have hqok := hOkK_mem hxok.2 hm2
            have hqb : lsW q ≤ 1073741824 := by have := kdW_mem hm2; omega
            have hal : (acc.map eKid).length = acc.length := by simp
            refine Tr.skip <| Tr.seq <| Tr.block <| Tr.seq <| Tr.region rfl <| cV rfl (ok_index_seq rfl rfl rfl Tryz.underlying40 hi2 tS43 rfl (by rfl)) <| cV rfl (oLe Tryz.underlying43 rfl rfl) <| cV rfl (oA rfl) <| WL.nil <| Tr.region rfl <| cV rfl (oM rfl) <| cV rfl (oM rfl) ?_
            refine WL.cons rfl rfl rfl (ok_callq (ih q hqok hqb hdec) ent23 rfl rfl (Subs.refl _ _) rfl) <| WL.cons rfl rfl rfl (ok_buildSlice rfl rfl Tryz.underlying40 tZ43 tS43 rfl rfl rfl rfl (firmB_ok rfl) rfl) ?_
            refine WL.cons rfl rfl rfl (ok_append rfl rfl rfl rfl (by rfl) ((fun h => h)) Tryz.underlying40 tB43 (by decide) (by (simp [chunks]; done)) (by (simp [chunks, PV.one]; rfl)) (by simp [maxLen, chunks]; omega) (by simp [chunks]; omega)) ?_
            refine cV rfl (oA rfl) <| WL.nil <| Tr.region rfl <| cV rfl (oB rfl rfl (i64_add rfl (by omega))) <| cV rfl (oM rfl) <| WL.nil ?_
            refine ⟨_, _, ?_, Sub.of (fr' := [(19, iInt (i + 1)), (18, iInt x.kids.length), (17, .pv (kids x.kids)), (5, .sl 105 ((acc ++ [hList q]).map eKid).length), (4, .ptr 104 0), (2, .sl 102 out.length), (12, iInt k), (11, iInt l.length), (10, .pv (nodes l))]) ⟨rfl, rfl, rfl, (by exact congrArg (fun z => some (IV.sl _ z)) (by rw [List.map_append]; simp [chunks]; done)), rfl, rfl, rfl, rfl, rfl, trivial⟩, (i + 1), (acc ++ [hList q]), ?_, ?_, ?_, rfl, (by
  rw [List.map_append]
  exact funext (by
  intro j
  simp only [look]
  by_cases h105 : 105 = j
  · subst h105; rfl
  · by_cases h104 : 104 = j
    · subst h104; rfl
    · by_cases h102 : 102 = j
      · subst h102; rfl
      · simp [look, up, beq_ne h105, beq_ne h104, beq_ne h102])), rfl⟩
            · omega
            · omega
            · rw [List.append_assoc, List.singleton_append, ← hst2, ← hd2]; exact hJ1
            simp [hJ2]
          refine Tr.exit <| Tr.seq ?_
          have hks : acc = hKids x.kids := by
            have := hJ1
            rw [List.drop_eq_nil_of_le (by simpa using hc20)] at this
            simpa [hKids] using this
          subst hks
          clear hJ1
          refine Tr.region rfl <| cV rfl (oM rfl) <| cV rfl (oFp rfl rfl tF42_7) <| WL.cons0 rfl rfl ((ok_store_box rfl rfl rfl rfl ((fun h => h)) tS40 (⟨_, _, rfl, rfl⟩) (lb rfl))) <| WL.nil <| Tr.seq <| Tr.seq ?_
          refine Tr.heap (σ' := look [(105, some (.row ⟨43, 1⟩ ((hKids x.kids).map eKid))), (104, some (.box [iInt x.kind, iInt x.op, iInt x.n, iStr x.name, .pv (ints x.args), .pv (ints x.outs), .pv (ints x.params), .sl 105 ((hKids x.kids).map eKid).length])), (102, some (.row ⟨42, 8⟩ (out.map Nd.enc)))]) (by
            intro j
            simp only [look]
            by_cases h105 : 105 = j
            · subst h105; rfl
            · by_cases h104 : 104 = j
              · subst h104; rfl
              · by_cases h102 : 102 = j
                · subst h102; rfl
                · simp [look, up, beq_ne h105, beq_ne h104, beq_ne h102]) ?_
          refine Tr.region rfl <| cV rfl (oFp rfl rfl tF42_0) <| cV rfl (oLb Tryz.underlying3 rfl rfl rfl trivial) <| cV rfl (oB rfl rfl rfl) <| WL.nil ?_
          refine Tr.cond rfl (fun hc33 => ?_) (fun hc33 => ?_)
          · have hk11 : (x.kind == 11) = true := hc33
            have hkn : x.kids ≠ [] := by
              intro e
              have := hxok.1.2
              rw [e] at this
              simp [bne, hk11] at this
            obtain ⟨b0, br, hbr⟩ := List.exists_cons_of_ne_nil hkn
            have hkb : hKids x.kids = hList b0 :: hKids br := by rw [hbr]; rfl
            have hb0 : hOkL b0 = true := hOkK_mem hxok.2 (by rw [hbr]; exact .head _)
            have hb0l : lsW b0 ≤ 1073741824 := by have := kdW_mem (q := b0) (ks := x.kids) (by rw [hbr]; exact .head _); omega
            generalize hbe : hList b0 = b at hkb
            have hbo : ∀ y ∈ b, hmless y = true → y.outs ≠ [] := by rw [← hbe]; exact hList_outs b0 hb0
            have hbl : b.length ≤ 1073741824 := by have := hList_len b0; rw [hbe] at this; omega
            have hst0 : ((hKids x.kids).map eKid)[0]? = some [nodes b] := by rw [hkb]; rfl
            have hstl : 0 < ((hKids x.kids).map eKid).length := by rw [hkb]; simp
            have hNx : hNode x = (hPart x.params b).1 ++ [.mk x.kind x.op x.n x.name x.args x.outs x.params ((hPart x.params b).2 :: hKids br)] := by
              rw [hNode_eq, hkb]
              simp only [hOut, hk11, if_true]
            have hpl : (hPart x.params b).1.length + 1 = (hNode x).length := by rw [hNx]; simp
            have hpm : ((hPart x.params b).1.map Nd.enc).length = (hPart x.params b).1.length := by simp
            have hset : ((hKids x.kids).map eKid).set 0 ([nodes b].set 0 (nodes (hPart x.params b).2)) = ((hPart x.params b).2 :: hKids br).map eKid := by rw [hkb]; rfl
            refine Tr.seq <| Tr.drawn mixed (fun k => k ∈ ([104, 105] : List Nat)) <| WA.run (fuel := 6) [0, 1, 2, 3, 4, 5] (by kernel_rfl) ((fun _ _ _ h => h)) (by kernel_rfl) <| rV rfl rfl (oFp rfl rfl tF42_7) <| rV rfl rfl (oLb Tryz.underlying40 rfl rfl rfl (by decide)) <| rV rfl rfl (ok_index_row rfl rfl rfl rfl rfl Tryz.underlying40 tS43 (by assumption) (by rfl)) <| rV rfl rfl (ok_load_row rfl rfl rfl rfl (Nat.add_zero _).symm (by assumption) rfl Tryz.underlying43 rfl (by decide)) <| rV rfl rfl (oFp rfl rfl tF42_6) <| rV rfl rfl (oLb Tryz.underlying35 rfl rfl rfl (by decide)) <| WR.nil <| WA.one (i := 6) (by kernel_rfl) <| WI.op rfl rfl rfl (by intro t h; cases h <;> rfl) (fun k (h : _) => h.elim) (fun _ h1 h2 => absurd h1 h2) (fun ρ w => ok_callq (sc_part b x.params hbo hbl) ent39 rfl rfl (Subs.refl _ _) rfl) ?_
            refine WA.run (fuel := 0) [7, 8, 9, 10, 11] (by kernel_rfl) ((fun _ _ _ h => h)) (by kernel_rfl) <| rV rfl rfl (oM rfl) <| rV rfl rfl (ok_extract rfl rfl rfl) <| rV rfl rfl (ok_extract rfl rfl rfl) <| rV rfl rfl (oA rfl) <| rV rfl rfl (oA rfl) <| WR.nil <| WA.done (by kernel_rfl) <| Tr.seq <| Tr.region rfl <| cV rfl (oM rfl) <| cV rfl (oM rfl) ?_
            refine WL.cons rfl rfl rfl (ok_append rfl rfl rfl rfl (by (simp; done)) ((fun h => h)) Tryz.underlying43 tB42 (by decide) (hw_node) (hone_node) (by simp [maxLen, chunks]; omega) (by simp [chunks]; omega)) ?_
            refine cV rfl (oA rfl) <| WL.nil <| Tr.region rfl <| cV rfl (oFp rfl rfl tF42_7) <| cV rfl (oLb Tryz.underlying40 rfl rfl rfl trivial) <| cV rfl (oM rfl) <| cV rfl (ok_index_row rfl rfl rfl rfl rfl Tryz.underlying40 tS43 (by assumption) (by rfl)) ?_
            refine WL.cons0 rfl rfl ((ok_store_row rfl rfl rfl rfl rfl (Nat.add_zero _).symm (by assumption) (by simp) tS43 rfl ((fun h => h)))) ?_
            refine WL.nil ?_
            refine Tr.freezeCell (k := 105) (k2 := 104) (j := 7) rfl (by simp) rfl rfl (by decide) ?_
            refine Tr.heap (σ' := look [(104, some (.box [iInt x.kind, iInt x.op, iInt x.n, iStr x.name, .pv (ints x.args), .pv (ints x.outs), .pv (ints x.params), .pv (kids ((hPart x.params b).2 :: hKids br))])), (102, some (.row ⟨42, 8⟩ (out.map Nd.enc ++ (hPart x.params b).1.map Nd.enc)))]) (by
              rw [hset]
              intro j
              simp only [look]
              by_cases h104 : 104 = j
              · subst h104; rfl
              · by_cases h105 : 105 = j
                · subst h105; rfl
                · by_cases h102 : 102 = j
                  · subst h102; rfl
                  · simp [look, up, beq_ne h104, beq_ne h105, beq_ne h102]) ?_
            refine Tr.region rfl <| cV rfl (oM rfl) <| cV rfl (ok_load_box_pure rfl rfl rfl Tryz.underlying42 rfl tS42 (Nat.le_of_ble_eq_true rfl) rfl trivial) <| WL.cons rfl rfl rfl (ok_buildSlice rfl rfl Tryz.underlying43 tZ42 tS42 rfl rfl rfl rfl (firmB_ok rfl) rfl) ?_
            refine WL.cons rfl rfl rfl (ok_append rfl rfl rfl rfl (by (simp; done)) ((fun h => h)) Tryz.underlying43 tB42 (by decide) (by (simp [chunks]; done)) (hone_cells8 _ _ _ _ _ _ _ _) (by simp [maxLen, chunks]; omega) (by simp [chunks]; omega)) ?_
            refine cV rfl (oA rfl) <| WL.nil <| Tr.drop (k := 104) ?_
            refine Tr.heap (σ' := look [(102, some (.row ⟨42, 8⟩ ((out ++ hNode x).map Nd.enc)))]) (by
              rw [hNx, ← List.append_assoc, enc_snoc, List.map_append]
              intro j
              simp only [look]
              by_cases h104 : 104 = j
              · subst h104; rfl
              · by_cases h102 : 102 = j
                · subst h102; rfl
                · simp [look, up, beq_ne h104, beq_ne h102]) ?_
            refine Tr.region rfl <| cV rfl (oB rfl rfl (i64_add rfl (by omega))) <| cV rfl (oM rfl) <| WL.nil ?_
            refine ⟨_, _, ?_, Sub.of (fr' := [(12, iInt (k + 1)), (11, iInt l.length), (10, .pv (nodes l)), (2, .sl 102 (out ++ hNode x).length)]) ⟨rfl, rfl, rfl, congrArg (fun z => some (IV.sl _ z)) (by rw [hNx]; first | (simp [chunks]; done) | (simp [chunks]; omega)), trivial⟩, (k + 1), (out ++ hNode x), ?_, ?_, rfl, rfl, rfl⟩
            · omega
            · omega
            rw [List.append_assoc, ← hst, ← hd]; exact hI1
          have hk11 : (x.kind == 11) = false := hc33
          have hNx : hNode x = [.mk x.kind x.op x.n x.name x.args x.outs x.params (hKids x.kids)] := by
            rw [hNode_eq]
            simp only [hOut, hk11, Bool.false_eq_true, if_false]
          have hN1 : (hNode x).length = 1 := by rw [hNx]; rfl
          refine Tr.skip ?_
          refine Tr.freezeCell (k := 105) (k2 := 104) (j := 7) rfl (by simp) rfl rfl (by decide) ?_
          refine Tr.heap (σ' := look [(104, some (.box [iInt x.kind, iInt x.op, iInt x.n, iStr x.name, .pv (ints x.args), .pv (ints x.outs), .pv (ints x.params), .pv (kids (hKids x.kids))])), (102, some (.row ⟨42, 8⟩ (out.map Nd.enc)))]) (by
            skip
            intro j
            simp only [look]
            by_cases h104 : 104 = j
            · subst h104; rfl
            · by_cases h105 : 105 = j
              · subst h105; rfl
              · by_cases h102 : 102 = j
                · subst h102; rfl
                · simp [look, up, beq_ne h104, beq_ne h105, beq_ne h102]) ?_
          refine Tr.region rfl <| cV rfl (oM rfl) <| cV rfl (ok_load_box_pure rfl rfl rfl Tryz.underlying42 rfl tS42 (Nat.le_of_ble_eq_true rfl) rfl trivial) <| WL.cons rfl rfl rfl (ok_buildSlice rfl rfl Tryz.underlying43 tZ42 tS42 rfl rfl rfl rfl (firmB_ok rfl) rfl) ?_
          refine WL.cons rfl rfl rfl (ok_append rfl rfl rfl rfl (by (simp; done)) ((fun h => h)) Tryz.underlying43 tB42 (by decide) (by (simp [chunks]; done)) (hone_cells8 _ _ _ _ _ _ _ _) (by simp [maxLen, chunks]; omega) (by simp [chunks]; omega)) ?_
          refine cV rfl (oA rfl) <| WL.nil <| Tr.drop (k := 104) ?_
          refine Tr.heap (σ' := look [(102, some (.row ⟨42, 8⟩ ((out ++ hNode x).map Nd.enc)))]) (by
            rw [hNx, enc_snoc]
            intro j
            simp only [look]
            by_cases h104 : 104 = j
            · subst h104; rfl
            · by_cases h102 : 102 = j
              · subst h102; rfl
              · simp [look, up, beq_ne h104, beq_ne h102]) ?_
          refine Tr.region rfl <| cV rfl (oB rfl rfl (i64_add rfl (by omega))) <| cV rfl (oM rfl) <| WL.nil ?_
          refine ⟨_, _, ?_, Sub.of (fr' := [(12, iInt (k + 1)), (11, iInt l.length), (10, .pv (nodes l)), (2, .sl 102 (out ++ hNode x).length)]) ⟨rfl, rfl, rfl, congrArg (fun z => some (IV.sl _ z)) (by rw [hNx]; first | (simp [chunks]; done) | (simp [chunks]; omega)), trivial⟩, (k + 1), (out ++ hNode x), ?_, ?_, rfl, rfl, rfl⟩
          · omega
          · omega
          rw [List.append_assoc, ← hst, ← hd]; exact hI1
      refine Tr.exit <| Tr.seq ?_
      refine Tr.freeze (t := 2) (k := 102) rfl rfl (by simp) ?_
      refine Tr.region rfl <| cV rfl (oM rfl) <| cV rfl (oA rfl) <| WL.nil <| Tr.ret ?_
      refine ret_ok rfl ?_ no_post
      have hge : l.length ≤ k := by simpa using hc13
      have : out = hList l := by rw [← hI1, List.drop_eq_nil_of_le hge]; simp [hList]
      rw [this]
      rfl
theorem sc_hList (l : List Nd) (hok : hOkL l = true) (hb : lsW l ≤ 1073741824) : SC Tryz.prog 23 [.pv (nodes l)] [] (fun _ => False) (.pv (nodes (hList l))) [] := sc_hList_aux _ l hok hb (Nat.lt_succ_self _)
set_option maxRecDepth 8000 in
set_option maxHeartbeats 2000000 in
theorem sc_Hoist (u : Un) (hW : r8Weight u ≤ 536870912) (hok : (shCheck u).1 = 0 → ∀ f ∈ u.flows, hOkL f.body = true) : SC Tryz.prog 11 [.pv u.enc] [] (fun _ => False) (.tup [.pv (hoistOf u).1.enc, iInt (hoistOf u).2]) [] := by
  refine SC.ofC2 Tryz.func11 rfl (lb rfl) rfl fun F ρ w => ?_
  have hW2 : r8Weight u = u.arrays.length + u.flows.length + wtA u.arrays + wtF u.flows := rfl
  refine Tr.seq <| Tr.region rfl <| WL.cons rfl rfl rfl ((ok_box rfl rfl)) <| WL.cons rfl rfl rfl (ok_alloc (k := 102) rfl tZ25 rfl rfl rfl rfl) <| cV rfl (oA rfl) <| WL.nil <| Tr.seq <| Tr.seq <| Tr.region rfl <| cV rfl (ok_load_ept_agg rfl rfl Tryz.underlying25 rfl tS25 (Nat.le_of_ble_eq_true rfl)) <| WL.cons rfl rfl rfl (ok_callq (sc_shCheck u hW) ent22 rfl rfl (Subs.refl _ _) rfl) <| cV rfl (oM rfl) ?_
  refine cV rfl (ok_extract rfl rfl rfl) <| cV rfl (ok_extract rfl rfl rfl) <| cV rfl (oA rfl) <| cV rfl (oA rfl) <| WL.nil <| Tr.seq <| Tr.region rfl <| cV rfl (oM rfl) <| cV rfl (oB rfl rfl rfl) <| WL.nil ?_
  refine Tr.cond rfl (fun hc15 => ?_) (fun hc15 => ?_)
  · refine Tr.seq <| Tr.region rfl <| cV rfl (ok_build_pure rfl rfl tZ25 tP25 rfl (firmB_ok rfl) rfl) <| WL.cons0 rfl rfl (ok_store_box_agg rfl rfl rfl rfl rfl ((fun h => h)) tS25 (firmL_ok rfl) (lb rfl)) <| cV rfl (oA rfl) <| WL.nil <| Tr.ret ?_
    have hz : ((shCheck u).1 == 0) = false := by simpa using hc15
    have hH : hoistOf u = (⟨[], []⟩, 1) := by simp [hoistOf, hz]
    rw [hH]
    exact ⟨⟨_, _, (fun _ _ ho => ok_load_box_pure ho rfl rfl Tryz.underlying25 rfl tS25 (lb rfl) rfl trivial), rfl, fun _ _ _ _ h => tup2_sub (fun _ h => empty_unit h) h⟩, no_post⟩
  · have hz : (shCheck u).1 = 0 := by simpa using hc15
    have hH : hoistOf u = (hUnit u, 0) := by simp [hoistOf, hz]
    refine Tr.skip <| Tr.seq <| Tr.region rfl <| cV rfl (oFe rfl tF25_0) <| cV rfl (oLe Tryz.underlying22 rfl rfl) <| cV rfl (ok_build_pure rfl rfl tZ25 tP25 rfl (firmB_ok rfl) rfl) <| WL.cons rfl rfl rfl (ok_alloc (k := 106) rfl tZ25 rfl rfl rfl rfl) <| WL.cons0 rfl rfl (ok_store_box_agg rfl rfl rfl rfl rfl ((fun h => h)) tS25 (firmL_ok rfl) (lb rfl)) <| WL.nil <| Tr.seq <| Tr.seq <| Tr.growCell (k := 199) (k2 := 106) (j := 1) ⟨51, 5⟩ rfl rfl rfl rfl rfl rfl ?_
    refine Tr.region rfl <| cV rfl (oFe rfl tF25_1) <| cV rfl (oLe Tryz.underlying23 rfl rfl) <| cV rfl (oSm Tryz.underlying23 rfl) <| cV rfl (oM rfl) <| WL.nil <| Tr.block <| Tr.sub (Sub.of (fr' := [(23, iInt 0), (22, iInt u.flows.length), (21, .pv (flws u.flows)), (6, .ptr 106 0), (2, .ptr 102 0)]) ⟨rfl, rfl, rfl, rfl, rfl, trivial⟩) ?_
    refine Tr.heap (σ' := look [(106, some (.box [.pv (arrs u.arrays), .sl 199 (([] : List Fl).map Fl.enc).length])), (199, some (.row ⟨51, 5⟩ (([] : List Fl).map Fl.enc))), (102, some (.box [.pv (.val (.slice none 0 0)), .pv (.val (.slice none 0 0))]))]) (by
  intro j
  simp only [look]
  by_cases h106 : 106 = j
  · subst h106; rfl
  · by_cases h199 : 199 = j
    · subst h199; rfl
    · by_cases h102 : 102 = j
      · subst h102; rfl
      · simp [look, up, beq_ne h106, beq_ne h199, beq_ne h102]) ?_
    refine Tr.loop (fun fr σ m => ∃ (k : Nat) (out : List Fl), (k ≤ u.flows.length) ∧ (out ++ (u.flows.drop k).map hFlow = u.flows.map hFlow) ∧ (out.length = k) ∧ fr = [(23, iInt k), (22, iInt u.flows.length), (21, .pv (flws u.flows)), (6, .ptr 106 0), (2, .ptr 102 0)] ∧ σ = look [(106, some (.box [.pv (arrs u.arrays), .sl 199 (out.map Fl.enc).length])), (199, some (.row ⟨51, 5⟩ (out.map Fl.enc))), (102, some (.box [.pv (.val (.slice none 0 0)), .pv (.val (.slice none 0 0))]))] ∧ m = u.flows.length - k) (n := u.flows.length - 0) ?_ ?_
    · exact ⟨0, ([] : List Fl), Nat.zero_le _, rfl, rfl, rfl, rfl, rfl⟩
    rintro fr σ m ⟨k, out, hI0, hI1, hI2, rfl, rfl, rfl⟩
    refine Tr.seq <| Tr.region rfl <| cV rfl (oB rfl rfl rfl) <| WL.nil <| Tr.seq ?_
    refine Tr.cond rfl (fun hc24 => ?_) (fun hc24 => ?_)
    · have hlt : k < u.flows.length := by simpa using hc24
      have hd := List.drop_eq_getElem_cons hlt
      have hm := List.getElem_mem hlt
      have hi := map_get (f := Fl.enc) (List.getElem?_eq_getElem hlt)
      generalize u.flows[k] = x at hd hm hi
      have hxok := hok hz x hm
      have hxb : lsW x.body ≤ 1073741824 := by have := flow_le hW hm; omega
      have hol : (out.map Fl.enc).length = out.length := by simp
      refine Tr.skip <| Tr.seq <| Tr.block <| Tr.seq <| Tr.region rfl <| cV rfl (ok_index_seq rfl rfl rfl Tryz.underlying23 hi tS51 rfl (by rfl)) <| cV rfl (ok_load_ept_agg rfl rfl Tryz.underlying51 rfl tS51 (Nat.le_of_ble_eq_true rfl)) <| WL.cons rfl rfl rfl (ok_alloc (k := 108) rfl tZ51 rfl rfl rfl rfl) <| WL.cons0 rfl rfl (ok_store_box_agg rfl rfl rfl rfl rfl ((fun h => h)) tS51 (firmL_ok rfl) (lb rfl)) <| WL.nil <| Tr.seq <| Tr.region rfl ?_
      refine cV rfl (oFp rfl rfl tF51_4) <| cV rfl (oLb Tryz.underlying43 rfl rfl rfl trivial) <| WL.cons rfl rfl rfl (ok_callq (sc_hList x.body hxok hxb) ent23 rfl rfl (Subs.refl _ _) rfl) <| cV rfl (oFp rfl rfl tF51_4) <| WL.cons0 rfl rfl ((ok_store_box rfl rfl rfl rfl ((fun h => h)) tS43 (rfl) (lb rfl))) <| WL.nil <| Tr.region rfl <| cV rfl (oFp rfl rfl tF25_1) <| cV rfl (oLb Tryz.underlying23 rfl rfl rfl trivial) <| cV rfl (ok_load_box_pure rfl rfl rfl Tryz.underlying51 rfl tS51 (Nat.le_of_ble_eq_true rfl) rfl trivial) <| WL.cons rfl rfl rfl (ok_buildSlice rfl rfl Tryz.underlying23 tZ51 tS51 rfl rfl rfl rfl (firmB_ok rfl) rfl) ?_
      refine WL.cons rfl rfl rfl (ok_append rfl rfl rfl rfl (by rfl) ((fun h => h)) Tryz.underlying23 tB51 (by decide) (by (simp [chunks]; done)) (hone_flow5 _ _ _ _ _) (by simp [maxLen, chunks]; omega) (by simp [chunks]; omega)) ?_
      refine cV rfl (oFp rfl rfl tF25_1) <| WL.cons0 rfl rfl ((ok_store_box rfl rfl rfl rfl ((fun h => h)) tS23 (⟨_, _, rfl, by simp⟩) (lb rfl))) <| WL.nil <| Tr.drop (k := 108) ?_
      refine Tr.heap (σ' := look [(106, some (.box [.pv (arrs u.arrays), .sl 199 ((out ++ [hFlow x]).map Fl.enc).length])), (199, some (.row ⟨51, 5⟩ ((out ++ [hFlow x]).map Fl.enc))), (102, some (.box [.pv (.val (.slice none 0 0)), .pv (.val (.slice none 0 0))]))]) (by
        rw [enc_snocF, List.length_append]
        intro j
        simp only [look]
        by_cases h108 : 108 = j
        · subst h108; rfl
        · by_cases h106 : 106 = j
          · subst h106; rfl
          · by_cases h199 : 199 = j
            · subst h199; rfl
            · by_cases h102 : 102 = j
              · subst h102; rfl
              · simp [look, up, beq_ne h108, beq_ne h106, beq_ne h199, beq_ne h102]) ?_
      refine Tr.region rfl <| cV rfl (oB rfl rfl (i64_add rfl (by omega))) <| cV rfl (oM rfl) <| WL.nil ?_
      refine ⟨_, _, ?_, Sub.of (fr' := [(23, iInt (k + 1)), (22, iInt u.flows.length), (21, .pv (flws u.flows)), (6, .ptr 106 0), (2, .ptr 102 0)]) ⟨rfl, rfl, rfl, rfl, rfl, trivial⟩, (k + 1), (out ++ [hFlow x]), ?_, ?_, ?_, rfl, rfl, rfl⟩
      · omega
      · omega
      · rw [List.append_assoc, ← hI1, hd]; rfl
      simp [hI2]
    refine Tr.exit <| Tr.seq <| Tr.freezeCell (k := 199) (k2 := 106) (j := 1) rfl rfl rfl rfl (by decide) <| Tr.region rfl <| cV rfl (ok_load_box_pure rfl rfl rfl Tryz.underlying25 rfl tS25 (Nat.le_of_ble_eq_true rfl) rfl trivial) <| WL.cons0 rfl rfl (ok_store_box_agg rfl rfl rfl rfl rfl ((fun h => h)) tS25 (firmL_ok rfl) (lb rfl)) <| cV rfl (oA rfl) <| WL.nil <| Tr.ret ?_
    refine retC2_ok (.inl rfl) (fun _ _ ho => ok_load_box_pure ho rfl rfl Tryz.underlying25 rfl tS25 (lb rfl) rfl trivial) rfl ?_ no_post
    have hge : u.flows.length ≤ k := by simpa using hc24
    have hout : out = u.flows.map hFlow := by rw [← hI1, List.drop_eq_nil_of_le hge]; simp
    rw [hH, hout]
    rfl
def headTyAt (a b : List Int) (k : Nat) : Bool := decide (k < a.length) && decide (k < b.length) && a.getD k 0 == b.getD k 0
def headTy (a b : List Int) (n : Int) : Bool := (List.range n.toNat).all (headTyAt a b)
def headF (f g : Fl) : Bool := f.name.toList == g.name.toList && f.ty == g.ty && f.params == g.params && headTy f.types g.types f.params
def headFs : List Fl → List Fl → Bool
  | [], [] => true
  | x :: a, y :: b => headF x y && headFs a b
  | _, _ => false
def sameHeads (u v : Un) : Bool := u.arrays.length == v.arrays.length && u.flows.length == v.flows.length && sameAs u.arrays v.arrays && headFs u.flows v.flows
theorem headTy_no {a b : List Int} {n : Int} {k : Nat} (h : (k : Int) < n) (hk : headTyAt a b k = false) : headTy a b n = false := by
  unfold headTy
  rw [List.all_eq_false]
  exact ⟨k, by simp; omega, by simp [hk]⟩
theorem headTy_yes {a b : List Int} {n : Int} {k : Nat} (h : n ≤ k) (hk : ∀ i, i < k → headTyAt a b i = true) : headTy a b n = true := by
  unfold headTy
  rw [List.all_eq_true]
  intro i hi
  exact hk i (by simp at hi; omega)
theorem sameA_self (a : Ar) : sameA a a = true := by simp [sameA]
theorem sameAs_self : ∀ l : List Ar, sameAs l l = true
  | [] => rfl
  | a :: r => by simp [sameAs, sameA_self, sameAs_self r]
theorem headF_hoist {f : Fl} (h : 0 ≤ f.params ∧ f.params ≤ f.types.length) : headF f (hFlow f) = true := by
  have ht : headTy f.types f.types f.params = true := headTy_yes (k := f.params.toNat) (by omega) (fun i hi => by simp [headTyAt]; omega)
  simp [headF, hFlow, ht]
theorem headFs_hoist : ∀ {l : List Fl}, (∀ f ∈ l, 0 ≤ f.params ∧ f.params ≤ f.types.length) → headFs l (l.map hFlow) = true
  | [], _ => rfl
  | f :: r, h => by simp [headFs, headF_hoist (h f (.head _)), headFs_hoist (fun f hf => h f (.tail _ hf))]
/-- WHAT COMES OUT OF HOIST HAS THE SAME HEADS. -/
theorem sameHeads_hoist {u : Un} (h : (shCheck u).1 = 0) : sameHeads u (hUnit u) = true := by
  have hh : shHead u = true := by
    cases hh : shHead u with
    | true => rfl
    | false => simp [shCheck, hh] at h
  simp [sameHeads, hUnit, sameAs_self, headFs_hoist (shHead_params hh)]
set_option maxRecDepth 8000 in
set_option maxHeartbeats 2000000 in
theorem sc_sameHeads (u v : Un) : SC Tryz.prog 20 [.pv u.enc, .pv v.enc] [] (fun _ => False) (iBool (sameHeads u v)) [] := by
  refine SC.of Tryz.func20 rfl (lb rfl) fun F ρ w => ?_
  refine Tr.seq <| Tr.region rfl <| WL.cons rfl rfl rfl ((ok_box rfl rfl)) <| WL.cons rfl rfl rfl ((ok_box rfl rfl)) <| cV rfl (oA rfl) <| WL.nil <| Tr.seq <| Tr.seq <| Tr.region rfl <| cV rfl (oFe rfl tF25_0) <| cV rfl (oLe Tryz.underlying22 rfl rfl) <| cV rfl (oSm Tryz.underlying22 rfl) ?_
  refine cV rfl (oFe rfl tF25_0) <| cV rfl (oLe Tryz.underlying22 rfl rfl) <| cV rfl (oSm Tryz.underlying22 rfl) <| cV rfl (oB rfl rfl rfl) <| cV rfl (oM rfl) ?_
  refine WL.split (t := 17) rfl (fun hb17 => ?_) (fun hb17 => ?_)
  · refine nV rfl rfl <| nV rfl rfl <| nV rfl rfl <| nV rfl rfl <| nV rfl rfl <| nV rfl rfl <| nV rfl rfl <| cV rfl (oT rfl rfl) <| WL.nil <| Tr.condT rfl <| Tr.seq <| Tr.region rfl ?_
    refine cV rfl (oA rfl) <| WL.nil <| Tr.ret ?_
    refine ret_ok rfl ?_ no_post
    refine congrArg (fun b => iBool b) ?_
    have hne : ¬ (u.arrays.length = v.arrays.length ∧ u.flows.length = v.flows.length) := by
      rintro ⟨h1, h2⟩
      simp_all
    unfold sameHeads
    by_cases h1 : u.arrays.length = v.arrays.length
    · have h2 : ¬ u.flows.length = v.flows.length := fun h2 => hne ⟨h1, h2⟩
      simp [h2]
    simp [h1]
  refine yV rfl rfl (oFe rfl tF25_1) <| yV rfl rfl (oLe Tryz.underlying23 rfl rfl) <| yV rfl rfl (oSm Tryz.underlying23 rfl) <| yV rfl rfl (oFe rfl tF25_1) <| yV rfl rfl (oLe Tryz.underlying23 rfl rfl) <| yV rfl rfl (oSm Tryz.underlying23 rfl) <| yV rfl rfl (oB rfl rfl rfl) <| cV rfl (oF rfl rfl) <| WL.nil ?_
  refine Tr.cond rfl (fun hc25 => ?_) (fun hc25 => ?_)
  · refine Tr.seq <| Tr.region rfl <| cV rfl (oA rfl) <| WL.nil <| Tr.ret ?_
    refine ret_ok rfl ?_ no_post
    refine congrArg (fun b => iBool b) ?_
    have hne : ¬ (u.arrays.length = v.arrays.length ∧ u.flows.length = v.flows.length) := by
      rintro ⟨h1, h2⟩
      simp_all
    unfold sameHeads
    by_cases h1 : u.arrays.length = v.arrays.length
    · have h2 : ¬ u.flows.length = v.flows.length := fun h2 => hne ⟨h1, h2⟩
      simp [h2]
    simp [h1]
  have hlen : u.arrays.length = v.arrays.length ∧ u.flows.length = v.flows.length := by
    (simp_all <;> omega)
  refine Tr.skip <| Tr.seq <| Tr.seq <| Tr.region rfl <| cV rfl (oA rfl) <| WL.nil <| Tr.block <| Tr.sub (Sub.of (fr' := [(5, iInt 0), (2, .pv (.ept [arrs u.arrays, flws u.flows] 0)), (3, .pv (.ept [arrs v.arrays, flws v.flows] 0))]) ⟨rfl, rfl, rfl, trivial⟩) ?_
  refine Tr.loop (fun fr σ m => ∃ (k : Nat), (k ≤ u.arrays.length) ∧ (sameAs u.arrays v.arrays = sameAs (u.arrays.drop k) (v.arrays.drop k)) ∧ fr = [(5, iInt k), (2, .pv (.ept [arrs u.arrays, flws u.flows] 0)), (3, .pv (.ept [arrs v.arrays, flws v.flows] 0))] ∧ σ = look [] ∧ m = u.arrays.length - k) (n := u.arrays.length - 0) ?_ ?_
  · exact ⟨0, Nat.zero_le _, rfl, rfl, rfl, rfl⟩
  rintro fr σ m ⟨k, hI0, hI1, rfl, rfl, rfl⟩
  refine Tr.seq <| Tr.seq <| Tr.region rfl <| cV rfl (oM rfl) <| cV rfl (oFe rfl tF25_0) <| cV rfl (oLe Tryz.underlying22 rfl rfl) ?_
  refine WL.lenOf (t := 28) rfl (fun hl1 => ?_)
  simp only [List.length_map] at hl1
  refine cV rfl (oSm Tryz.underlying22 rfl) <| cV rfl (oB rfl rfl rfl) <| WL.nil ?_
  refine Tr.cond rfl (fun hc30 => ?_) (fun hc30 => ?_)
  · have hlt : k < u.arrays.length := by simpa using hc30
    have hd := List.drop_eq_getElem_cons hlt
    have hm := List.getElem_mem hlt
    have hi := map_get (f := Ar.enc) (List.getElem?_eq_getElem hlt)
    generalize u.arrays[k] = x at hd hm hi
    have hltw : k < v.arrays.length := by omega
    have hdw := List.drop_eq_getElem_cons hltw
    have hw := map_get (f := Ar.enc) (List.getElem?_eq_getElem hltw)
    generalize v.arrays[k] = y at hdw hw
    refine Tr.skip <| Tr.seq <| Tr.block <| Tr.seq <| Tr.still mixed (by kernel_rfl) rfl <| sV rfl (oFe rfl tF25_0) <| sV rfl (oLe Tryz.underlying22 rfl rfl) <| sV rfl (oM rfl) <| sV rfl (ok_index_seq rfl rfl rfl Tryz.underlying22 hi tS49 rfl (by rfl)) <| sV rfl (ok_load_ept_agg rfl rfl Tryz.underlying49 rfl tS49 (Nat.le_of_ble_eq_true rfl)) <| sV rfl (oFe rfl tF25_0) <| sV rfl (oLe Tryz.underlying22 rfl rfl) ?_
    refine sV rfl (oM rfl) <| sV rfl (ok_index_seq rfl rfl rfl Tryz.underlying22 hw tS49 rfl (by rfl)) <| sV rfl (ok_load_ept_agg rfl rfl Tryz.underlying49 rfl tS49 (Nat.le_of_ble_eq_true rfl)) <| sV rfl (ok_neq_strint rfl rfl rfl Tryz.underlying49 Tryz.underlying9 Tryz.underlying3 rfl rfl (by decide) (by decide) (by kernel_rfl) (by kernel_rfl)) <| WS.nil ?_
    refine Tr.cond rfl (fun hc43 => ?_) (fun hc43 => ?_)
    · refine Tr.seq <| Tr.region rfl <| cV rfl (oA rfl) <| WL.nil <| Tr.ret ?_
      refine ret_ok rfl ?_ no_post
      have hxy : sameA x y = false := by
        clear hd hdw hm hi hw hI1
        cases hb1 : (x.name.toList == y.name.toList) <;> cases hb2 : (x.size == y.size) <;> simp_all [sameA]
      have hA : sameAs u.arrays v.arrays = false := by rw [hI1, hd, hdw]; simp [sameAs, hxy]
      simp [sameHeads, hA]
    refine Tr.skip <| Tr.region rfl <| cV rfl (oM rfl) <| cV rfl (oB rfl rfl (i64_add rfl (by omega))) <| cV rfl (oA rfl) <| WL.nil ?_
    refine ⟨_, _, ?_, Sub.of (fr' := [(5, iInt (k + 1)), (2, .pv (.ept [arrs u.arrays, flws u.flows] 0)), (3, .pv (.ept [arrs v.arrays, flws v.flows] 0))]) ⟨rfl, rfl, rfl, trivial⟩, (k + 1), ?_, ?_, rfl, rfl, rfl⟩
    · omega
    · omega
    rw [hI1, hd, hdw]
    have hxy : sameA x y = true := by
      clear hd hdw hm hi hw
      simp_all [sameA]
    simp [sameAs, hxy]
  refine Tr.exit <| Tr.seq <| Tr.seq ?_
  have hAs : sameAs u.arrays v.arrays = true := by
    have hge : u.arrays.length ≤ k := by simpa using hc30
    rw [hI1, List.drop_eq_nil_of_le hge, List.drop_eq_nil_of_le (by omega)]
    rfl
  refine Tr.region rfl <| cV rfl (oA rfl) <| WL.nil <| Tr.block <| Tr.sub (Sub.of (fr' := [(6, iInt 0), (2, .pv (.ept [arrs u.arrays, flws u.flows] 0)), (3, .pv (.ept [arrs v.arrays, flws v.flows] 0))]) ⟨rfl, rfl, rfl, trivial⟩) ?_
  refine Tr.loop (fun fr σ m => ∃ (k : Nat), (k ≤ u.flows.length) ∧ (headFs u.flows v.flows = headFs (u.flows.drop k) (v.flows.drop k)) ∧ fr = [(6, iInt k), (2, .pv (.ept [arrs u.arrays, flws u.flows] 0)), (3, .pv (.ept [arrs v.arrays, flws v.flows] 0))] ∧ σ = look [] ∧ m = u.flows.length - k) (n := u.flows.length - 0) ?_ ?_
  · exact ⟨0, Nat.zero_le _, rfl, rfl, rfl, rfl⟩
  rintro fr σ m ⟨k, hI0, hI1, rfl, rfl, rfl⟩
  refine Tr.seq <| Tr.seq <| Tr.region rfl <| cV rfl (oM rfl) <| cV rfl (oFe rfl tF25_1) <| cV rfl (oLe Tryz.underlying23 rfl rfl) ?_
  refine WL.lenOf (t := 46) rfl (fun hl1 => ?_)
  simp only [List.length_map] at hl1
  refine cV rfl (oSm Tryz.underlying23 rfl) <| cV rfl (oB rfl rfl rfl) <| WL.nil ?_
  refine Tr.cond rfl (fun hc48 => ?_) (fun hc48 => ?_)
  · have hlt : k < u.flows.length := by simpa using hc48
    have hd := List.drop_eq_getElem_cons hlt
    have hm := List.getElem_mem hlt
    have hi := map_get (f := Fl.enc) (List.getElem?_eq_getElem hlt)
    generalize u.flows[k] = x at hd hm hi
    have hltw : k < v.flows.length := by omega
    have hdw := List.drop_eq_getElem_cons hltw
    have hw := map_get (f := Fl.enc) (List.getElem?_eq_getElem hltw)
    generalize v.flows[k] = y at hdw hw
    refine Tr.skip <| Tr.seq <| Tr.block <| Tr.seq ?_
    refine Tr.cut (fr' := [(8, .ptr 108 0), (7, .ptr 107 0), (6, iInt k), (2, .pv (.ept [arrs u.arrays, flws u.flows] 0)), (3, .pv (.ept [arrs v.arrays, flws v.flows] 0))]) (σ' := look [(107, some (.box [iStr x.name, iInt x.ty, iInt x.params, .pv (ints x.types), .pv (nodes x.body)])), (108, some (.box [iStr y.name, iInt y.ty, iInt y.params, .pv (ints y.types), .pv (nodes y.body)]))]) ?_ ?_
    · refine Tr.drawn mixed (fun k => k ∈ ([] : List Nat)) <| WA.run (fuel := 4) [0, 1, 2, 3, 4, 5, 6, 7, 8, 9] (by kernel_rfl) ((fun _ _ _ h => pn h.1)) (by kernel_rfl) <| rV rfl rfl (oFe rfl tF25_1) <| rV rfl rfl (oLe Tryz.underlying23 rfl rfl) <| rV rfl rfl (oM rfl) <| rV rfl rfl (ok_index_seq rfl rfl rfl Tryz.underlying23 hi tS51 rfl (by rfl)) <| rV rfl rfl (ok_load_ept_agg rfl rfl Tryz.underlying51 rfl tS51 (Nat.le_of_ble_eq_true rfl)) <| rV rfl rfl (oFe rfl tF25_1) <| rV rfl rfl (oLe Tryz.underlying23 rfl rfl) <| rV rfl rfl (oM rfl) <| rV rfl rfl (ok_index_seq rfl rfl rfl Tryz.underlying23 hw tS51 rfl (by rfl)) <| rV rfl rfl (ok_load_ept_agg rfl rfl Tryz.underlying51 rfl tS51 (Nat.le_of_ble_eq_true rfl)) ?_
      refine WR.nil ?_
      refine WA.all (rs := [10, 11]) (by kernel_rfl) (by simp) ?_
      refine List.forall_mem_cons.2 ⟨?_, List.forall_mem_cons.2 ⟨?_, by simp⟩⟩
      · refine WI.op rfl rfl rfl (by intro t h; cases h <;> rfl) (fun k (h : _) => h.elim) (new_one rfl) (fun ρ w => ok_alloc (k := 107) rfl tZ51 rfl rfl rfl rfl) <| WA.one (i := 11) (by kernel_rfl) <| WI.op rfl rfl rfl (by intro t h; cases h <;> rfl) (fun k (h : _) => h.elim) (new_one rfl) (fun ρ w => ok_alloc (k := 108) rfl tZ51 rfl rfl rfl rfl) <| WA.one (i := 12) (by kernel_rfl) ?_
        refine WI.op rfl rfl rfl (by intro t h; cases h <;> rfl) (fun k (h : _) => h.elim) (new_old rfl) (fun ρ w => ok_store_box_agg rfl rfl rfl rfl rfl (by simp) tS51 (firmL_ok rfl) (lb rfl)) ?_
        refine WA.one (i := 13) (by kernel_rfl) ?_
        refine WI.op rfl rfl rfl (by intro t h; cases h <;> rfl) (fun k (h : _) => h.elim) (new_old rfl) (fun ρ w => ok_store_box_agg rfl rfl rfl rfl rfl (by simp) tS51 (firmL_ok rfl) (lb rfl)) ?_
        refine WA.done (by kernel_rfl) ?_
        refine ⟨rfl, Sub.of ⟨rfl, rfl, rfl, rfl, rfl, trivial⟩, ?_⟩
        exact look_two rfl rfl (fun k h1 h2 => by simp [look, beq_ne (Ne.symm h1), beq_ne (Ne.symm h2)]) (by decide)
      refine WI.op rfl rfl rfl (by intro t h; cases h <;> rfl) (fun k (h : _) => h.elim) (new_one rfl) (fun ρ w => ok_alloc (k := 108) rfl tZ51 rfl rfl rfl rfl) <| WA.one (i := 10) (by kernel_rfl) <| WI.op rfl rfl rfl (by intro t h; cases h <;> rfl) (fun k (h : _) => h.elim) (new_one rfl) (fun ρ w => ok_alloc (k := 107) rfl tZ51 rfl rfl rfl rfl) <| WA.one (i := 12) (by kernel_rfl) ?_
      refine WI.op rfl rfl rfl (by intro t h; cases h <;> rfl) (fun k (h : _) => h.elim) (new_old rfl) (fun ρ w => ok_store_box_agg rfl rfl rfl rfl rfl (by simp) tS51 (firmL_ok rfl) (lb rfl)) ?_
      refine WA.one (i := 13) (by kernel_rfl) ?_
      refine WI.op rfl rfl rfl (by intro t h; cases h <;> rfl) (fun k (h : _) => h.elim) (new_old rfl) (fun ρ w => ok_store_box_agg rfl rfl rfl rfl rfl (by simp) tS51 (firmL_ok rfl) (lb rfl)) ?_
      refine WA.done (by kernel_rfl) ?_
      refine ⟨rfl, Sub.of ⟨rfl, rfl, rfl, rfl, rfl, trivial⟩, ?_⟩
      exact look_two rfl rfl (fun k h1 h2 => by simp [look, beq_ne (Ne.symm h1), beq_ne (Ne.symm h2)]) (by decide)
    refine Tr.freezeBox (t := 7) (k := 107) rfl rfl rfl <| Tr.freezeBox (t := 8) (k := 108) rfl rfl rfl <| Tr.heap (σ' := look []) (fun k => by simp only [look]; cases Nat.beq 107 k <;> cases Nat.beq 108 k <;> rfl) <| Tr.seq <| Tr.seq <| Tr.region rfl <| cV rfl (oFe rfl tF51_0) <| cV rfl (oLe Tryz.underlying9 rfl rfl) <| cV rfl (oFe rfl tF51_0) <| cV rfl (oLe Tryz.underlying9 rfl rfl) <| cV rfl (ok_bin_str rfl rfl rfl rfl) <| cV rfl (oM rfl) ?_
    refine WL.split (t := 66) rfl (fun hb66 => ?_) (fun hb66 => ?_)
    · refine nV rfl rfl <| nV rfl rfl <| nV rfl rfl <| nV rfl rfl <| nV rfl rfl <| cV rfl (oT rfl rfl) <| cV rfl (oM rfl) <| nV rfl rfl <| nV rfl rfl <| nV rfl rfl <| nV rfl rfl <| nV rfl rfl ?_
      refine cV rfl (oT rfl rfl) <| WL.nil <| Tr.condT rfl <| Tr.seq <| Tr.region rfl <| cV rfl (oA rfl) <| WL.nil <| Tr.ret ?_
      refine ret_ok rfl ?_ no_post
      have hxy : headF x y = false := by
        clear hd hdw hm hi hw hI1
        simp_all [headF]
      have hF : headFs u.flows v.flows = false := by rw [hI1, hd, hdw]; simp [headFs, hxy]
      simp [sameHeads, hF]
    refine yV rfl rfl (oFe rfl tF51_1) <| yV rfl rfl (oLe Tryz.underlying3 rfl rfl) <| yV rfl rfl (oFe rfl tF51_1) <| yV rfl rfl (oLe Tryz.underlying3 rfl rfl) <| yV rfl rfl (oB rfl rfl rfl) <| cV rfl (oF rfl rfl) <| cV rfl (oM rfl) ?_
    refine WL.split (t := 73) rfl (fun hb73 => ?_) (fun hb73 => ?_)
    · refine nV rfl rfl <| nV rfl rfl <| nV rfl rfl <| nV rfl rfl <| nV rfl rfl <| cV rfl (oT rfl rfl) <| WL.nil <| Tr.condT rfl <| Tr.seq <| Tr.region rfl <| cV rfl (oA rfl) <| WL.nil ?_
      refine Tr.ret ?_
      refine ret_ok rfl ?_ no_post
      have hxy : headF x y = false := by
        clear hd hdw hm hi hw hI1
        simp_all [headF]
      have hF : headFs u.flows v.flows = false := by rw [hI1, hd, hdw]; simp [headFs, hxy]
      simp [sameHeads, hF]
    refine yV rfl rfl (oFe rfl tF51_2) <| yV rfl rfl (oLe Tryz.underlying3 rfl rfl) <| yV rfl rfl (oFe rfl tF51_2) <| yV rfl rfl (oLe Tryz.underlying3 rfl rfl) <| yV rfl rfl (oB rfl rfl rfl) <| cV rfl (oF rfl rfl) <| WL.nil ?_
    refine Tr.cond rfl (fun hc79 => ?_) (fun hc79 => ?_)
    · refine Tr.seq <| Tr.region rfl <| cV rfl (oA rfl) <| WL.nil <| Tr.ret ?_
      refine ret_ok rfl ?_ no_post
      have hxy : headF x y = false := by
        clear hd hdw hm hi hw hI1
        simp_all [headF]
      have hF : headFs u.flows v.flows = false := by rw [hI1, hd, hdw]; simp [headFs, hxy]
      simp [sameHeads, hF]
    have hh1 : (x.name.toList == y.name.toList) = true := by clear hd hdw hi hw hm; simp_all
    have hh2 : (x.ty == y.ty) = true := by clear hd hdw hi hw hm; simp_all
    have hh3 : (x.params == y.params) = true := by clear hd hdw hi hw hm; simp_all
    refine Tr.skip <| Tr.seq <| Tr.region rfl <| cV rfl (oA rfl) <| WL.nil <| Tr.block <| Tr.sub (Sub.of (fr' := [(9, iInt 0), (8, .pv (.ept [vStr y.name, vInt y.ty, vInt y.params, ints y.types, nodes y.body] 0)), (7, .pv (.ept [vStr x.name, vInt x.ty, vInt x.params, ints x.types, nodes x.body] 0)), (6, iInt k), (2, .pv (.ept [arrs u.arrays, flws u.flows] 0)), (3, .pv (.ept [arrs v.arrays, flws v.flows] 0))]) ⟨rfl, rfl, rfl, rfl, rfl, rfl, trivial⟩) ?_
    refine Tr.loop (fun fr σ m => ∃ (i : Nat), (i ≤ x.types.length) ∧ (∀ j, j < i → headTyAt x.types y.types j = true) ∧ fr = [(9, iInt i), (8, .pv (.ept [vStr y.name, vInt y.ty, vInt y.params, ints y.types, nodes y.body] 0)), (7, .pv (.ept [vStr x.name, vInt x.ty, vInt x.params, ints x.types, nodes x.body] 0)), (6, iInt k), (2, .pv (.ept [arrs u.arrays, flws u.flows] 0)), (3, .pv (.ept [arrs v.arrays, flws v.flows] 0))] ∧ σ = look [] ∧ m = x.types.length - i) (n := x.types.length - 0) ?_ ?_
    · exact ⟨0, Nat.zero_le _, (fun j hj => absurd hj (Nat.not_lt_zero j)), rfl, rfl, rfl⟩
    rintro fr σ m ⟨i, hJ0, hJ1, rfl, rfl, rfl⟩
    refine Tr.seq <| Tr.seq <| Tr.region rfl <| cV rfl (oM rfl) <| cV rfl (oFe rfl tF51_2) <| cV rfl (oLe Tryz.underlying3 rfl rfl) <| cV rfl (oB rfl rfl rfl) <| WL.nil ?_
    refine Tr.cond rfl (fun hc83 => ?_) (fun hc83 => ?_)
    · refine Tr.skip <| Tr.seq <| Tr.block <| Tr.seq <| Tr.still mixed (by kernel_rfl) rfl <| sV rfl (oM rfl) <| sV rfl (oFe rfl tF51_3) <| sV rfl (oLe Tryz.underlying35 rfl rfl) ?_
      refine WS.lenOf (t := 88) rfl (fun hl4 => ?_)
      simp only [List.length_map] at hl4
      refine sV rfl (oSm Tryz.underlying35 rfl) <| sV rfl (oB rfl rfl rfl) <| sV rfl (oM rfl) ?_
      refine WS.split (t := 91) rfl (fun hb91 => ?_) (fun hb91 => ?_)
      · refine snV rfl rfl <| snV rfl rfl <| snV rfl rfl <| snV rfl rfl <| snV rfl rfl <| sV rfl (oT rfl rfl) <| sV rfl (oM rfl) <| snV rfl rfl <| snV rfl rfl <| snV rfl rfl <| snV rfl rfl <| snV rfl rfl ?_
        refine snV rfl rfl <| snV rfl rfl <| snV rfl rfl <| snV rfl rfl <| snV rfl rfl <| snV rfl rfl <| sV rfl (oT rfl rfl) <| WS.nil <| Tr.condT rfl <| Tr.seq <| Tr.region rfl <| cV rfl (oA rfl) ?_
        refine WL.nil <| Tr.ret ?_
        refine ret_ok rfl ?_ no_post
        have hat : headTyAt x.types y.types i = false := by
          clear hd hdw hi hw hm
          unfold headTyAt
          (simp_all <;> omega)
        have hty : headTy x.types y.types x.params = false := headTy_no (k := i) (by simpa using hc83) hat
        have hxy : headF x y = false := by unfold headF; rw [hty]; simp
        have hF : headFs u.flows v.flows = false := by rw [hI1, hd, hdw]; simp [headFs, hxy]
        simp [sameHeads, hF]
      refine syV rfl rfl (oM rfl) <| syV rfl rfl (oFe rfl tF51_3) <| syV rfl rfl (oLe Tryz.underlying35 rfl rfl) <| syV rfl rfl (oSm Tryz.underlying35 rfl) <| syV rfl rfl (oB rfl rfl rfl) <| sV rfl (oF rfl rfl) <| sV rfl (oM rfl) ?_
      refine WS.split (t := 98) rfl (fun hb98 => ?_) (fun hb98 => ?_)
      · refine snV rfl rfl <| snV rfl rfl <| snV rfl rfl <| snV rfl rfl <| snV rfl rfl <| snV rfl rfl <| snV rfl rfl <| snV rfl rfl <| snV rfl rfl <| snV rfl rfl <| snV rfl rfl <| sV rfl (oT rfl rfl) ?_
        refine WS.nil <| Tr.condT rfl <| Tr.seq <| Tr.region rfl <| cV rfl (oA rfl) <| WL.nil <| Tr.ret ?_
        refine ret_ok rfl ?_ no_post
        have hat : headTyAt x.types y.types i = false := by
          clear hd hdw hi hw hm
          unfold headTyAt
          (simp_all <;> omega)
        have hty : headTy x.types y.types x.params = false := headTy_no (k := i) (by simpa using hc83) hat
        have hxy : headF x y = false := by unfold headF; rw [hty]; simp
        have hF : headFs u.flows v.flows = false := by rw [hI1, hd, hdw]; simp [headFs, hxy]
        simp [sameHeads, hF]
      have hit : i < x.types.length ∧ i < y.types.length := by simp at hb91 hb98; omega
      have hta : (x.types.map eInt)[i]? = some [vInt (x.types.getD i 0)] := by rw [List.getElem?_map]; simp [eInt, List.getD, hit.1]
      have htb : (y.types.map eInt)[i]? = some [vInt (y.types.getD i 0)] := by rw [List.getElem?_map]; simp [eInt, List.getD, hit.2]
      refine syV rfl rfl (oFe rfl tF51_3) <| syV rfl rfl (oLe Tryz.underlying35 rfl rfl) <| syV rfl rfl (oM rfl) <| syV rfl rfl (ok_index_seq rfl rfl rfl Tryz.underlying35 hta tS3 rfl (by rfl)) <| syV rfl rfl (oLe Tryz.underlying3 rfl rfl) <| syV rfl rfl (oFe rfl tF51_3) <| syV rfl rfl (oLe Tryz.underlying35 rfl rfl) <| syV rfl rfl (oM rfl) <| syV rfl rfl (ok_index_seq rfl rfl rfl Tryz.underlying35 htb tS3 rfl (by rfl)) <| syV rfl rfl (oLe Tryz.underlying3 rfl rfl) <| syV rfl rfl (oB rfl rfl rfl) <| sV rfl (oF rfl rfl) ?_
      refine WS.nil ?_
      refine Tr.cond rfl (fun hc110 => ?_) (fun hc110 => ?_)
      · refine Tr.seq <| Tr.region rfl <| cV rfl (oA rfl) <| WL.nil <| Tr.ret ?_
        refine ret_ok rfl ?_ no_post
        have hat : headTyAt x.types y.types i = false := by
          clear hd hdw hi hw hm
          unfold headTyAt
          simp_all
        have hty : headTy x.types y.types x.params = false := headTy_no (k := i) (by simpa using hc83) hat
        have hxy : headF x y = false := by unfold headF; rw [hty]; simp
        have hF : headFs u.flows v.flows = false := by rw [hI1, hd, hdw]; simp [headFs, hxy]
        simp [sameHeads, hF]
      have hlt1 : i < x.types.length ∧ i < y.types.length := by simp at hb91 hb98; omega
      have hat : headTyAt x.types y.types i = true := by
        have he : x.types.getD i 0 = y.types.getD i 0 := by simpa using hc110
        unfold headTyAt
        rw [he]
        simp [hlt1.1, hlt1.2]
      refine Tr.skip <| Tr.region rfl <| cV rfl (oM rfl) <| cV rfl (oB rfl rfl (i64_add rfl (by omega))) <| cV rfl (oA rfl) <| WL.nil ?_
      refine ⟨_, _, ?_, Sub.of (fr' := [(9, iInt (i + 1)), (8, .pv (.ept [vStr y.name, vInt y.ty, vInt y.params, ints y.types, nodes y.body] 0)), (7, .pv (.ept [vStr x.name, vInt x.ty, vInt x.params, ints x.types, nodes x.body] 0)), (6, iInt k), (2, .pv (.ept [arrs u.arrays, flws u.flows] 0)), (3, .pv (.ept [arrs v.arrays, flws v.flows] 0))]) ⟨rfl, rfl, rfl, rfl, rfl, rfl, trivial⟩, (i + 1), ?_, ?_, rfl, rfl, rfl⟩
      · omega
      · omega
      intro j hj
      by_cases e : j = i
      · subst e; exact hat
      exact hJ1 j (by omega)
    refine Tr.exit <| Tr.region rfl <| cV rfl (oM rfl) <| cV rfl (oB rfl rfl (i64_add rfl (by omega))) <| cV rfl (oA rfl) <| WL.nil ?_
    refine ⟨_, _, ?_, Sub.of (fr' := [(6, iInt (k + 1)), (2, .pv (.ept [arrs u.arrays, flws u.flows] 0)), (3, .pv (.ept [arrs v.arrays, flws v.flows] 0))]) ⟨rfl, rfl, rfl, trivial⟩, (k + 1), ?_, ?_, rfl, rfl, rfl⟩
    · omega
    · omega
    rw [hI1, hd, hdw]
    have hty : headTy x.types y.types x.params = true := headTy_yes (k := i) (by simp at hc83; omega) hJ1
    have hxy : headF x y = true := by
      unfold headF
      rw [hty, hh1, hh2, hh3]
      rfl
    simp [headFs, hxy]
  refine Tr.exit <| Tr.seq <| Tr.region rfl <| cV rfl (oA rfl) <| WL.nil <| Tr.ret ?_
  refine ret_ok rfl ?_ no_post
  have hge : u.flows.length ≤ k := by simpa using hc48
  have hF : headFs u.flows v.flows = true := by rw [hI1, List.drop_eq_nil_of_le hge, List.drop_eq_nil_of_le (by omega)]; rfl
  simp [sameHeads, hAs, hF, hlen.1, hlen.2]
def inR (n : Nat) (ds : List Int) : Prop := ∀ v ∈ ds, 0 ≤ v ∧ v < n
def Frs (set : List Bool) (ds : List Int) : Prop := ds.Nodup ∧ ∀ v ∈ ds, set.getD v.toNat false = false
def marks (set : List Bool) (ds : List Int) : List Bool := ds.foldl (fun s v => s.set v.toNat true) set
theorem marks_length : ∀ (ds : List Int) (set : List Bool), (marks set ds).length = set.length
  | [], _ => rfl
  | v :: r, set => by have := marks_length r (set.set v.toNat true); simpa [marks] using this
theorem marks_app (set : List Bool) (a b : List Int) : marks set (a ++ b) = marks (marks set a) b := by simp [marks]
theorem marks_get {n : Nat} : ∀ (ds : List Int) (set : List Bool), set.length = n → inR n ds → ∀ v : Int, 0 ≤ v → v < n → (marks set ds).getD v.toNat false = (ds.contains v || set.getD v.toNat false)
  | [], set, _, _, v, _, _ => by simp [marks]
  | d :: r, set, hn, hr, v, h0, h1 => by
    have ih := marks_get r (set.set d.toNat true) (by simpa using hn) (fun v hv => hr v (.tail _ hv)) v h0 h1
    obtain ⟨d0, d1⟩ := hr d (.head _)
    show (marks (set.set d.toNat true) r).getD v.toNat false = _
    rw [ih, getD_set, List.contains_cons]
    by_cases e : v = d
    · subst e
      rw [if_pos ⟨rfl, by omega⟩]; simp
    have e2 : ¬ (d.toNat = v.toNat ∧ d.toNat < set.length) := by omega
    have e3 : (v == d) = false := by simpa using e
    rw [if_neg e2, e3, Bool.false_or]
theorem frs_app {n : Nat} {set : List Bool} {a b : List Int} (hn : set.length = n) (ha : inR n a) (hb : inR n b) : Frs set (a ++ b) ↔ Frs set a ∧ Frs (marks set a) b := by
  unfold Frs
  rw [List.nodup_append]
  constructor
  · rintro ⟨⟨h1, h2, h3⟩, h4⟩
    refine ⟨⟨h1, fun v hv => h4 v (by simp [hv])⟩, h2, fun v hv => ?_⟩
    rw [marks_get a set hn ha v (hb v hv).1 (hb v hv).2, h4 v (by simp [hv])]
    have : a.contains v = false := by
      rw [← Bool.not_eq_true, List.contains_iff_mem]
      exact fun hm => h3 v hm v hv rfl
    rw [this]; rfl
  rintro ⟨⟨h1, h2⟩, h3, h4⟩
  have hkey : ∀ v ∈ b, a.contains v = false ∧ set.getD v.toNat false = false := fun v hv => by
    have := h4 v hv
    rw [marks_get a set hn ha v (hb v hv).1 (hb v hv).2, Bool.or_eq_false_iff] at this
    exact this
  refine ⟨⟨h1, h3, fun x hx y hy e => ?_⟩, fun v hv => ?_⟩
  · subst e
    have := (hkey x hy).1
    rw [← Bool.not_eq_true, List.contains_iff_mem] at this
    exact this hx
  rcases List.mem_append.1 hv with hv | hv
  · exact h2 v hv
  exact (hkey v hv).2
def vOuts (tys : List Int) : List Int → List Int → Bool
  | [], [] => true
  | v :: r, w :: ws => shVal tys v w && vOuts tys r ws
  | _, _ => false
theorem vOuts_in {tys : List Int} : ∀ {l want : List Int}, vOuts tys l want = true → inR tys.length l
  | [], [], _ => fun v hv => by simp at hv
  | [], _ :: _, h => by simp [vOuts] at h
  | _ :: _, [], h => by simp [vOuts] at h
  | x :: r, w :: ws, h => by
    simp only [vOuts, Bool.and_eq_true, shVal, decide_eq_true_eq] at h
    intro v hv
    rcases List.mem_cons.1 hv with rfl | hv
    · exact ⟨h.1.1.1, h.1.1.2⟩
    exact vOuts_in h.2 v hv
theorem vOuts_len {tys : List Int} : ∀ {l want : List Int}, vOuts tys l want = true → l.length = want.length
  | [], [], _ => rfl
  | [], _ :: _, h => by simp [vOuts] at h
  | _ :: _, [], h => by simp [vOuts] at h
  | x :: r, w :: ws, h => by
    simp only [vOuts, Bool.and_eq_true] at h
    simp [vOuts_len h.2]
theorem bad_iff (tys : List Int) (set : List Bool) (v w : Int) : r8bad tys set v w = false ↔ shVal tys v w = true ∧ set.getD v.toNat false = false := by
  unfold r8bad shVal
  simp only [Bool.or_eq_false_iff, decide_eq_false_iff_not, Bool.and_eq_true, decide_eq_true_eq, Bool.or_eq_true]
  constructor
  · rintro ⟨⟨⟨h1, h2⟩, h3⟩, h4⟩
    refine ⟨⟨⟨by omega, by omega⟩, ?_⟩, h3⟩
    cases hw : (w == 0) with
    | true => exact .inl rfl
    | false => exact .inr (by simpa [bne, hw] using h4)
  rintro ⟨⟨⟨h1, h2⟩, h4⟩, h3⟩
  refine ⟨⟨⟨by omega, by omega⟩, h3⟩, ?_⟩
  rcases h4 with h4 | h4
  · simp [bne, h4]
  rw [show (tys.getD v.toNat 0 != w) = false from by rw [bne, h4]; rfl, Bool.and_false]
theorem setsGo_iff (tys : List Int) : ∀ (l want : List Int) (set : List Bool), l.length = want.length → set.length = tys.length →
    ((r8setsGo tys set l want).1 = true ↔ vOuts tys l want = true ∧ Frs set l) ∧ ((r8setsGo tys set l want).1 = true → (r8setsGo tys set l want).2 = marks set l)
  | [], [], set, _, _ => by simp [r8setsGo, vOuts, Frs, marks]
  | [], _ :: _, _, h, _ => by simp at h
  | _ :: _, [], _, h, _ => by simp at h
  | x :: r, w :: ws, set, hl, hn => by
    obtain ⟨ih1, ih2⟩ := setsGo_iff tys r ws (set.set x.toNat true) (by simpa using hl) (by simpa using hn)
    simp only [r8setsGo]
    cases hb : r8bad tys set x w with
    | true =>
      simp only [if_true, Bool.false_eq_true, false_iff, not_and, false_implies, and_true]
      intro h1 h2
      simp only [vOuts, Bool.and_eq_true] at h1
      have := (bad_iff tys set x w).2 ⟨h1.1, h2.2 x (.head _)⟩
      rw [hb] at this; cases this
    | false =>
      obtain ⟨b1, b2⟩ := (bad_iff tys set x w).1 hb
      simp only [Bool.false_eq_true, if_false]
      refine ⟨?_, fun h => ih2 h⟩
      rw [ih1]
      simp only [vOuts, b1, Bool.true_and]
      refine and_congr_right fun hv => ?_
      have hx : inR tys.length [x] := fun v hv => by
        obtain rfl := List.mem_singleton.1 hv
        simp only [shVal, Bool.and_eq_true, decide_eq_true_eq] at b1
        exact ⟨b1.1.1, b1.1.2⟩
      have := frs_app (a := [x]) (b := r) hn hx (vOuts_in hv)
      rw [show x :: r = [x] ++ r from rfl, this]
      exact ⟨fun h => ⟨⟨by simp, fun v hv => by obtain rfl := List.mem_singleton.1 hv; exact b2⟩, h⟩, fun h => h.2⟩
theorem sets_iff (tys : List Int) (set : List Bool) (l want : List Int) (hn : set.length = tys.length) :
    ((r8sets tys set l want).1 = true ↔ vOuts tys l want = true ∧ Frs set l) ∧ ((r8sets tys set l want).1 = true → (r8sets tys set l want).2 = marks set l) := by
  unfold r8sets
  by_cases hl : l.length = want.length
  · have e : ((l.length : Int) == want.length) = true := by simp; omega
    rw [if_pos e]
    exact setsGo_iff tys l want set hl hn
  have e : ¬ ((l.length : Int) == want.length) = true := by simp; omega
  rw [if_neg e]
  refine ⟨⟨fun h => (by cases h), fun h => absurd (vOuts_len h.1) hl⟩, fun h => by cases h⟩
structure SForm where
  b : Bool
  want : Option (List Int)
def SForm.run (s : SForm) (tys : List Int) (outs : List Int) (set : List Bool) : Bool × List Bool := match s.want with
  | some wt => andS s.b set (r8sets tys set outs wt)
  | none => (s.b && (outs.length : Int) == 0, set)
def SForm.ok (s : SForm) (tys : List Int) (outs : List Int) : Bool := match s.want with
  | some wt => s.b && vOuts tys outs wt
  | none => s.b && (outs.length : Int) == 0
def sForm (u : Un) (f : Fl) (x : Nd) (seen : List Int) (w : Wh) : SForm :=
  if x.kind == 1 then ⟨r8types f.types seen x.args [], some [1]⟩
  else if x.kind == 2 then ⟨(x.n == 0 || x.n == 1) && r8types f.types seen x.args [], some [2]⟩
  else if x.kind == 3 then ⟨r1IsOne x.op && r8types f.types seen x.args [(r5Operand x.op).1], some [(r5Operand x.op).2]⟩
  else if x.kind == 4 then ⟨r1IsTwo x.op && r8types f.types seen x.args [(r5Operand x.op).1, (r5Operand x.op).1] && f.types.getD (x.args.getD 0 0).toNat 0 == f.types.getD (x.args.getD 1 0).toNat 0, some [(r5Operand x.op).2]⟩
  else if x.kind == 5 then ⟨decide (r8Array x.name u.arrays 0 ≥ 0) && r8types f.types seen x.args [1], some [1]⟩
  else if x.kind == 6 then ⟨decide (r8Array x.name u.arrays 0 ≥ 0) && r8types f.types seen x.args [1, 1], none⟩
  else if x.kind == 7 then (if decide (r8Place x.name u.flows 0 ≥ 0) = true then match u.flows[(r8Place x.name u.flows 0).toNat]? with
      | some g => ⟨r8types f.types seen x.args (g.types.take g.params.toNat), some [g.ty]⟩
      | none => ⟨false, none⟩
    else ⟨false, none⟩)
  else if x.kind == 8 then ⟨(x.args.length : Int) == 0, some [1]⟩
  else if x.kind == 9 then ⟨r8types f.types seen x.args [1], none⟩
  else if x.kind == 12 then ⟨w.If && r8types f.types seen x.args w.Yield, none⟩
  else if x.kind == 13 then ⟨w.Loop && r8types f.types seen x.args w.Next, none⟩
  else if x.kind == 14 then ⟨w.Loop && r8types f.types seen x.args w.Left, none⟩
  else if x.kind == 15 then ⟨r8types f.types seen x.args [f.ty], none⟩
  else ⟨false, none⟩
theorem simple_form (u : Un) (f : Fl) (set : List Bool) (x : Nd) (seen : List Int) (w : Wh) : r8simple u f set x seen w = (sForm u f x seen w).run f.types x.outs set := by
  unfold r8simple sForm r8call
  by_cases k1 : (x.kind == 1) = true
  · rw [if_pos k1, if_pos k1]; rfl
  rw [if_neg k1, if_neg k1]
  by_cases k2 : (x.kind == 2) = true
  · rw [if_pos k2, if_pos k2]; rfl
  rw [if_neg k2, if_neg k2]
  by_cases k3 : (x.kind == 3) = true
  · rw [if_pos k3, if_pos k3]; rfl
  rw [if_neg k3, if_neg k3]
  by_cases k4 : (x.kind == 4) = true
  · rw [if_pos k4, if_pos k4]; rfl
  rw [if_neg k4, if_neg k4]
  by_cases k5 : (x.kind == 5) = true
  · rw [if_pos k5, if_pos k5]; rfl
  rw [if_neg k5, if_neg k5]
  by_cases k6 : (x.kind == 6) = true
  · rw [if_pos k6, if_pos k6]; rfl
  rw [if_neg k6, if_neg k6]
  by_cases k7 : (x.kind == 7) = true
  · rw [if_pos k7, if_pos k7]
    by_cases hp : decide (r8Place x.name u.flows 0 ≥ 0) = true
    · rw [if_pos hp, if_pos hp]
      cases u.flows[(r8Place x.name u.flows 0).toNat]? with
      | none => rfl
      | some g => rfl
    rw [if_neg hp, if_neg hp]; rfl
  rw [if_neg k7, if_neg k7]
  by_cases k8 : (x.kind == 8) = true
  · rw [if_pos k8, if_pos k8]; rfl
  rw [if_neg k8, if_neg k8]
  by_cases k9 : (x.kind == 9) = true
  · rw [if_pos k9, if_pos k9]; rfl
  rw [if_neg k9, if_neg k9]
  by_cases k12 : (x.kind == 12) = true
  · rw [if_pos k12, if_pos k12]; rfl
  rw [if_neg k12, if_neg k12]
  by_cases k13 : (x.kind == 13) = true
  · rw [if_pos k13, if_pos k13]; rfl
  rw [if_neg k13, if_neg k13]
  by_cases k14 : (x.kind == 14) = true
  · rw [if_pos k14, if_pos k14]; rfl
  rw [if_neg k14, if_neg k14]
  by_cases k15 : (x.kind == 15) = true
  · rw [if_pos k15, if_pos k15]; rfl
  rw [if_neg k15, if_neg k15]
  rfl
theorem run_iff {tys outs : List Int} {set : List Bool} (s : SForm) (hn : set.length = tys.length) : ((s.run tys outs set).1 = true ↔ s.ok tys outs = true ∧ Frs set outs) ∧ ((s.run tys outs set).1 = true → (s.run tys outs set).2 = marks set outs) := by
  obtain ⟨b, want⟩ := s
  cases want with
  | some wt =>
    obtain ⟨h1, h2⟩ := sets_iff tys set outs wt hn
    simp only [SForm.run, SForm.ok, andS]
    cases b with
    | false => simp
    | true => simp only [if_true, Bool.true_and]; exact ⟨h1, h2⟩
  | none =>
    simp only [SForm.run, SForm.ok]
    constructor
    · constructor
      · intro h
        refine ⟨h, ?_⟩
        simp only [Bool.and_eq_true, beq_iff_eq] at h
        have : outs = [] := List.eq_nil_of_length_eq_zero (by omega)
        subst this
        exact ⟨by simp, fun v hv => by simp at hv⟩
      exact fun h => h.1
    intro h
    simp only [Bool.and_eq_true, beq_iff_eq] at h
    have : outs = [] := List.eq_nil_of_length_eq_zero (by omega)
    subst this
    rfl
theorem ok_in {tys outs : List Int} {s : SForm} (h : s.ok tys outs = true) : inR tys.length outs := by
  obtain ⟨b, want⟩ := s
  cases want with
  | some wt => simp only [SForm.ok, Bool.and_eq_true] at h; exact vOuts_in h.2
  | none =>
    simp only [SForm.ok, Bool.and_eq_true, beq_iff_eq] at h
    have : outs = [] := List.eq_nil_of_length_eq_zero (by omega)
    subst this
    exact fun v hv => by simp at hv
mutual
def dN : Nd → List Int
  | .mk _ _ _ _ _ outs params ks => params ++ (dK ks ++ outs)
def dL : List Nd → List Int
  | [] => []
  | x :: r => dN x ++ dL r
def dK : List (List Nd) → List Int
  | [] => []
  | l :: r => dL l ++ dK r
end
theorem dN_eq (x : Nd) : dN x = x.params ++ (dK x.kids ++ x.outs) := by cases x; simp [dN, Nd.params, Nd.kids, Nd.outs]
def zer (l : List Int) : List Int := List.replicate l.length 0
def w1 (w : Wh) (f : Fl) (x : Nd) : Wh := ⟨true, w.Loop, r8of f.types x.outs, w.Next, w.Left⟩
def w2 (f : Fl) (x : Nd) : Wh := ⟨false, true, [], r8of f.types x.params, r8of f.types x.outs⟩
def outOk (x : Nd) : Bool := (x.outs.length : Int) == 0 || !r8Closed x
mutual
def vNode (u : Un) (f : Fl) (deep : Int) (w : Wh) (seen : List Int) : Nd → Bool
  | .mk kind op n name args outs params kids =>
    r8bare (.mk kind op n name args outs params kids) &&
    (if kind == 10 then
      match kids with
      | a :: b :: _ => r8types f.types seen args [2] && (!a.isEmpty && vGo u f (deep + 1) (w1 w f (.mk kind op n name args outs params kids)) seen a) && (!b.isEmpty && vGo u f (deep + 1) (w1 w f (.mk kind op n name args outs params kids)) seen b) &&
          outOk (.mk kind op n name args outs params kids) && vOuts f.types outs (zer outs)
      | _ => false
    else if kind == 11 then
      match kids with
      | a :: _ => r8types f.types seen args (r8of f.types params) && vOuts f.types params (zer params) && (!a.isEmpty && vGo u f (deep + 1) (w2 f (.mk kind op n name args outs params kids)) (seen ++ params) a) &&
          outOk (.mk kind op n name args outs params kids) && vOuts f.types outs (zer outs)
      | _ => false
    else (sForm u f (.mk kind op n name args outs params kids) seen w).ok f.types outs)
def vGo (u : Un) (f : Fl) (deep : Int) (w : Wh) (all : List Int) : List Nd → Bool
  | [] => true
  | x :: r => !decide (deep > 100) && vNode u f deep w all x && (r8Closed x == r.isEmpty) && vGo u f deep w (all ++ x.outs) r
end
def vList (u : Un) (f : Fl) (deep : Int) (w : Wh) (all : List Int) (l : List Nd) : Bool := !l.isEmpty && vGo u f deep w all l
theorem vNode_if (u : Un) (f : Fl) (deep : Int) (w : Wh) (seen : List Int) {x : Nd} {a b : List Nd} (h : r8bare x = true) (hk : x.kind = 10) (hx : x.kids = [a, b]) :
    vNode u f deep w seen x = (r8types f.types seen x.args [2] && vList u f (deep + 1) (w1 w f x) seen a && vList u f (deep + 1) (w1 w f x) seen b && outOk x && vOuts f.types x.outs (zer x.outs)) := by
  cases x
  simp only [Nd.kind, Nd.kids] at hk hx
  subst hk hx
  unfold vNode
  simp only [h, Bool.true_and, Nd.args, Nd.outs]
  rfl
theorem vNode_loop (u : Un) (f : Fl) (deep : Int) (w : Wh) (seen : List Int) {x : Nd} {a : List Nd} (h : r8bare x = true) (hk : x.kind = 11) (hx : x.kids = [a]) :
    vNode u f deep w seen x = (r8types f.types seen x.args (r8of f.types x.params) && vOuts f.types x.params (zer x.params) && vList u f (deep + 1) (w2 f x) (seen ++ x.params) a && outOk x && vOuts f.types x.outs (zer x.outs)) := by
  cases x
  simp only [Nd.kind, Nd.kids] at hk hx
  subst hk hx
  unfold vNode
  simp only [h, Bool.true_and, Nd.args, Nd.outs, Nd.params]
  rfl
theorem vNode_simple (u : Un) (f : Fl) (deep : Int) (w : Wh) (seen : List Int) {x : Nd} (h : r8bare x = true) (h1 : (x.kind == 10) = false) (h2 : (x.kind == 11) = false) :
    vNode u f deep w seen x = (sForm u f x seen w).ok f.types x.outs := by
  cases x
  simp only [Nd.kind] at h1 h2
  unfold vNode
  simp only [h, Bool.true_and, Nd.outs, h1, h2, Bool.false_eq_true, if_false]
theorem vNode_bare (u : Un) (f : Fl) (deep : Int) (w : Wh) (seen : List Int) {x : Nd} (h : vNode u f deep w seen x = true) : r8bare x = true := by
  cases x
  unfold vNode at h
  simp only [Bool.and_eq_true] at h
  exact h.1
theorem bare_params {x : Nd} (h : r8bare x = true) (hk : (x.kind == 11) = false) : x.params = [] := by
  simp only [r8bare, Bool.and_eq_true, hk, Bool.false_or, beq_iff_eq] at h
  exact List.eq_nil_of_length_eq_zero (by omega)
theorem bare_kids0 {x : Nd} (h : r8bare x = true) (h1 : (x.kind == 10) = false) (h2 : (x.kind == 11) = false) : x.kids = [] := by
  have := r8bare_kids h
  simp only [r8kn, h1, h2, Bool.false_eq_true, if_false] at this
  exact List.eq_nil_of_length_eq_zero (by omega)
theorem dN_simple {x : Nd} (h : r8bare x = true) (h1 : (x.kind == 10) = false) (h2 : (x.kind == 11) = false) : dN x = x.outs := by
  rw [dN_eq, bare_params h h2, bare_kids0 h h1 h2]; rfl
theorem dN_if {x : Nd} {a b : List Nd} (h : r8bare x = true) (hk : x.kind = 10) (hx : x.kids = [a, b]) : dN x = dL a ++ (dL b ++ x.outs) := by
  rw [dN_eq, bare_params h (by rw [hk]; rfl), hx]; simp [dK]
theorem dN_loop {x : Nd} {a : List Nd} (hx : x.kids = [a]) : dN x = x.params ++ (dL a ++ x.outs) := by
  rw [dN_eq, hx]; simp [dK]
theorem inR_app {n : Nat} {a b : List Int} : inR n (a ++ b) ↔ inR n a ∧ inR n b :=
  ⟨fun h => ⟨fun v hv => h v (by simp [hv]), fun v hv => h v (by simp [hv])⟩, fun h v hv => (List.mem_append.1 hv).elim (h.1 v) (h.2 v)⟩
theorem frs_app3 {n : Nat} {set : List Bool} {a b d : List Int} (hn : set.length = n) (ha : inR n a) (hb : inR n b) (hd : inR n d) : Frs set (a ++ (b ++ d)) ↔ Frs set a ∧ Frs (marks set a) b ∧ Frs (marks (marks set a) b) d := by
  rw [frs_app hn ha (inR_app.2 ⟨hb, hd⟩), frs_app ((marks_length a set).trans hn) hb hd]
/-- What is set is of the flow's values. -/
def RG (u : Un) (f : Fl) (l : List Nd) : Prop := ∀ (deep : Int) (w : Wh) (all : List Int), vGo u f deep w all l = true → inR f.types.length (dL l)
theorem node_in (u : Un) (f : Fl) (x : Nd) (ih : ∀ q ∈ x.kids, RG u f q) (deep : Int) (w : Wh) (seen : List Int) (h : vNode u f deep w seen x = true) : inR f.types.length (dN x) := by
  have hb := vNode_bare u f deep w seen h
  by_cases h10 : x.kind = 10
  · obtain ⟨a, b, hk⟩ := r8bare_if hb h10
    rw [vNode_if u f deep w seen hb h10 hk] at h
    simp only [Bool.and_eq_true, vList] at h
    rw [dN_if hb h10 hk]
    exact inR_app.2 ⟨ih a (by rw [hk]; simp) _ _ _ h.1.1.1.2.2, inR_app.2 ⟨ih b (by rw [hk]; simp) _ _ _ h.1.1.2.2, vOuts_in h.2⟩⟩
  by_cases h11 : x.kind = 11
  · obtain ⟨a, hk⟩ := r8bare_loop hb h11
    rw [vNode_loop u f deep w seen hb h11 hk] at h
    simp only [Bool.and_eq_true, vList] at h
    rw [dN_loop hk]
    exact inR_app.2 ⟨vOuts_in h.1.1.1.2, inR_app.2 ⟨ih a (by rw [hk]; simp) _ _ _ h.1.1.2.2, vOuts_in h.2⟩⟩
  have e10 : (x.kind == 10) = false := by simpa using h10
  have e11 : (x.kind == 11) = false := by simpa using h11
  rw [vNode_simple u f deep w seen hb e10 e11] at h
  rw [dN_simple hb e10 e11]
  exact ok_in h
theorem go_in (u : Un) (f : Fl) : ∀ (l : List Nd), (∀ x ∈ l, ∀ q ∈ x.kids, RG u f q) → RG u f l
  | [], _ => fun _ _ _ _ v hv => by simp [dL] at hv
  | x :: r, ih => fun deep w all h => by
    simp only [vGo, Bool.and_eq_true] at h
    exact inR_app.2 ⟨node_in u f x (ih x (.head _)) _ _ _ h.1.1.2, go_in u f r (fun y hy => ih y (.tail _ hy)) _ _ _ h.2⟩
theorem rg_all (u : Un) (f : Fl) : ∀ (N : Nat) (l : List Nd), SizeOf.sizeOf l < N → RG u f l
  | 0, _, h => absurd h (Nat.not_lt_zero _)
  | N + 1, l, hN => go_in u f l fun x hx q hq => rg_all u f N q (Nat.lt_of_lt_of_le (kid_lt hx rfl hq) (Nat.le_of_lt_succ hN))
theorem rg (u : Un) (f : Fl) (l : List Nd) : RG u f l := rg_all u f _ l (Nat.lt_succ_self _)
/-- The checker, apart. -/
def CH (u : Un) (f : Fl) (l : List Nd) : Prop := ∀ (deep : Int) (w : Wh) (seen : List Int) (set : List Bool), set.length = f.types.length →
  ((r8list u f deep w seen set l).1 = true ↔ vList u f deep w seen l = true ∧ Frs set (dL l)) ∧ ((r8list u f deep w seen set l).1 = true → (r8list u f deep w seen set l).2 = marks set (dL l))
theorem andT_iff {q : Bool × List Bool} {k : List Bool → Bool × List Bool} : ((andT q k).1 = true ↔ q.1 = true ∧ (k q.2).1 = true) ∧ ((andT q k).1 = true → (andT q k).2 = (k q.2).2) := by
  unfold andT
  cases q.1 with
  | false => simp
  | true => simp
theorem end_iff (f : Fl) (x : Nd) (set : List Bool) (hn : set.length = f.types.length) : ((r8end f x set).1 = true ↔ (outOk x = true ∧ vOuts f.types x.outs (zer x.outs) = true) ∧ Frs set x.outs) ∧ ((r8end f x set).1 = true → (r8end f x set).2 = marks set x.outs) := by
  obtain ⟨h1, h2⟩ := sets_iff f.types set x.outs (zer x.outs) hn
  unfold r8end andS
  show ((if outOk x = true then _ else _ : Bool × List Bool).1 = true ↔ _) ∧ _
  by_cases ho : outOk x = true
  · simp only [ho, if_true, true_and]
    exact ⟨h1, fun h => by
      have ho2 : ((x.outs.length : Int) == 0 || !r8Closed x) = true := ho
      rw [if_pos ho2] at h ⊢
      exact h2 h⟩
  have ho2 : ¬ ((x.outs.length : Int) == 0 || !r8Closed x) = true := ho
  rw [if_neg ho, if_neg ho2]
  simp [ho]
theorem node_iff (u : Un) (f : Fl) (x : Nd) (ih : ∀ q ∈ x.kids, CH u f q) (deep : Int) (w : Wh) (seen : List Int) (set : List Bool) (hn : set.length = f.types.length) :
    ((r8node u f deep w seen set x).1 = true ↔ vNode u f deep w seen x = true ∧ Frs set (dN x)) ∧ ((r8node u f deep w seen set x).1 = true → (r8node u f deep w seen set x).2 = marks set (dN x)) := by
  cases hb : r8bare x with
  | false =>
    rw [r8node_bare _ _ _ _ _ _ hb]
    refine ⟨⟨fun h => (by cases h), fun h => ?_⟩, fun h => by cases h⟩
    have := vNode_bare u f deep w seen h.1
    rw [hb] at this; cases this
  | true =>
    by_cases h10 : x.kind = 10
    · obtain ⟨a, b, hk⟩ := r8bare_if hb h10
      rw [r8node_if _ _ _ _ _ _ hb h10 hk, vNode_if u f deep w seen hb h10 hk, dN_if hb h10 hk, show (⟨true, w.Loop, r8of f.types x.outs, w.Next, w.Left⟩ : Wh) = w1 w f x from rfl]
      by_cases ht : r8types f.types seen x.args [2] = true
      · rw [if_pos ht]
        obtain ⟨a1, a2⟩ := ih a (by rw [hk]; simp) (deep + 1) (w1 w f x) seen set hn
        have hna : (marks set (dL a)).length = f.types.length := (marks_length _ _).trans hn
        obtain ⟨b1, b2⟩ := ih b (by rw [hk]; simp) (deep + 1) (w1 w f x) seen (marks set (dL a)) hna
        have hnb : (marks (marks set (dL a)) (dL b)).length = f.types.length := (marks_length _ _).trans hna
        obtain ⟨e1, e2⟩ := end_iff f x (marks (marks set (dL a)) (dL b)) hnb
        have key : (andT (r8list u f (deep + 1) (w1 w f x) seen set a) (fun s1 => andT (r8list u f (deep + 1) (w1 w f x) seen s1 b) fun s2 => r8end f x s2)).1 = true ↔
            (r8list u f (deep + 1) (w1 w f x) seen set a).1 = true ∧ (r8list u f (deep + 1) (w1 w f x) seen (marks set (dL a)) b).1 = true ∧ (r8end f x (marks (marks set (dL a)) (dL b))).1 = true := by
          rw [andT_iff.1]
          refine and_congr_right fun h => ?_
          rw [a2 h, andT_iff.1]
          exact and_congr_right fun h2 => by rw [b2 h2]
        refine ⟨?_, fun h => ?_⟩
        · rw [key, a1, b1, e1]
          simp only [ht, Bool.true_and, Bool.and_eq_true]
          constructor
          · rintro ⟨⟨c1, c2⟩, ⟨c3, c4⟩, ⟨c5, c6⟩, c7⟩
            have ra := rg u f a _ _ _ (by simp only [vList, Bool.and_eq_true] at c1; exact c1.2)
            have rb := rg u f b _ _ _ (by simp only [vList, Bool.and_eq_true] at c3; exact c3.2)
            exact ⟨⟨⟨⟨c1, c3⟩, c5⟩, c6⟩, (frs_app3 hn ra rb (vOuts_in c6)).2 ⟨c2, c4, c7⟩⟩
          rintro ⟨⟨⟨⟨c1, c3⟩, c5⟩, c6⟩, c7⟩
          have ra := rg u f a _ _ _ (by simp only [vList, Bool.and_eq_true] at c1; exact c1.2)
          have rb := rg u f b _ _ _ (by simp only [vList, Bool.and_eq_true] at c3; exact c3.2)
          obtain ⟨d1, d2, d3⟩ := (frs_app3 hn ra rb (vOuts_in c6)).1 c7
          exact ⟨⟨c1, d1⟩, ⟨c3, d2⟩, ⟨c5, c6⟩, d3⟩
        obtain ⟨k1, k2, k3⟩ := key.1 h
        have h' := (andT_iff.1.1 h).2
        rw [andT_iff.2 h, a2 k1]
        rw [a2 k1] at h'
        rw [andT_iff.2 h', b2 k2, e2 k3, marks_app, marks_app]
      rw [if_neg ht]
      refine ⟨⟨fun h => (by cases h), fun h => ?_⟩, fun h => by cases h⟩
      simp only [Bool.and_eq_true] at h
      exact absurd h.1.1.1.1.1 ht
    by_cases h11 : x.kind = 11
    · obtain ⟨a, hk⟩ := r8bare_loop hb h11
      rw [r8node_loop _ _ _ _ _ _ hb h11 hk, vNode_loop u f deep w seen hb h11 hk, dN_loop hk, show (⟨false, true, [], r8of f.types x.params, r8of f.types x.outs⟩ : Wh) = w2 f x from rfl, show List.replicate x.params.length 0 = zer x.params from rfl]
      by_cases ht : r8types f.types seen x.args (r8of f.types x.params) = true
      · rw [if_pos ht]
        obtain ⟨a1, a2⟩ := sets_iff f.types set x.params (zer x.params) hn
        have hna : (marks set x.params).length = f.types.length := (marks_length _ _).trans hn
        obtain ⟨b1, b2⟩ := ih a (by rw [hk]; simp) (deep + 1) (w2 f x) (seen ++ x.params) (marks set x.params) hna
        have hnb : (marks (marks set x.params) (dL a)).length = f.types.length := (marks_length _ _).trans hna
        obtain ⟨e1, e2⟩ := end_iff f x (marks (marks set x.params) (dL a)) hnb
        have key : (andT (r8sets f.types set x.params (zer x.params)) (fun s1 => andT (r8list u f (deep + 1) (w2 f x) (seen ++ x.params) s1 a) fun s2 => r8end f x s2)).1 = true ↔
            (r8sets f.types set x.params (zer x.params)).1 = true ∧ (r8list u f (deep + 1) (w2 f x) (seen ++ x.params) (marks set x.params) a).1 = true ∧ (r8end f x (marks (marks set x.params) (dL a))).1 = true := by
          rw [andT_iff.1]
          refine and_congr_right fun h => ?_
          rw [a2 h, andT_iff.1]
          exact and_congr_right fun h2 => by rw [b2 h2]
        refine ⟨?_, fun h => ?_⟩
        · rw [key, a1, b1, e1]
          simp only [ht, Bool.true_and, Bool.and_eq_true]
          constructor
          · rintro ⟨⟨c1, c2⟩, ⟨c3, c4⟩, ⟨c5, c6⟩, c7⟩
            have rb := rg u f a _ _ _ (by simp only [vList, Bool.and_eq_true] at c3; exact c3.2)
            exact ⟨⟨⟨⟨c1, c3⟩, c5⟩, c6⟩, (frs_app3 hn (vOuts_in c1) rb (vOuts_in c6)).2 ⟨c2, c4, c7⟩⟩
          rintro ⟨⟨⟨⟨c1, c3⟩, c5⟩, c6⟩, c7⟩
          have rb := rg u f a _ _ _ (by simp only [vList, Bool.and_eq_true] at c3; exact c3.2)
          obtain ⟨d1, d2, d3⟩ := (frs_app3 hn (vOuts_in c1) rb (vOuts_in c6)).1 c7
          exact ⟨⟨c1, d1⟩, ⟨c3, d2⟩, ⟨c5, c6⟩, d3⟩
        obtain ⟨k1, k2, k3⟩ := key.1 h
        have h' := (andT_iff.1.1 h).2
        rw [andT_iff.2 h, a2 k1]
        rw [a2 k1] at h'
        rw [andT_iff.2 h', b2 k2, e2 k3, marks_app, marks_app]
      rw [if_neg ht]
      refine ⟨⟨fun h => (by cases h), fun h => ?_⟩, fun h => by cases h⟩
      simp only [Bool.and_eq_true] at h
      exact absurd h.1.1.1.1.1 ht
    have e10 : (x.kind == 10) = false := by simpa using h10
    have e11 : (x.kind == 11) = false := by simpa using h11
    rw [r8node_simple _ _ _ _ _ _ hb e10 e11, vNode_simple u f deep w seen hb e10 e11, dN_simple hb e10 e11, simple_form]
    exact run_iff _ hn
theorem go_iff (u : Un) (f : Fl) (deep : Int) (w : Wh) : ∀ (l : List Nd), (∀ x ∈ l, ∀ q ∈ x.kids, CH u f q) → ∀ (all : List Int) (set : List Bool), set.length = f.types.length →
    ((r8go u f deep w all set l).1 = true ↔ vGo u f deep w all l = true ∧ Frs set (dL l)) ∧ ((r8go u f deep w all set l).1 = true → (r8go u f deep w all set l).2 = marks set (dL l))
  | [], _, all, set, _ => by simp [r8go, vGo, dL, Frs, marks]
  | x :: r, ih, all, set, hn => by
    obtain ⟨n1, n2⟩ := node_iff u f x (ih x (.head _)) deep w all set hn
    have hm : (marks set (dN x)).length = f.types.length := (marks_length _ _).trans hn
    obtain ⟨r1, r2⟩ := go_iff u f deep w r (fun y hy => ih y (.tail _ hy)) (all ++ x.outs) (marks set (dN x)) hm
    unfold r8go vGo
    by_cases hd : deep > 100
    · rw [if_pos hd]
      simp [hd]
    rw [if_neg hd]
    have hdb : (!decide (deep > 100)) = true := by simpa using hd
    by_cases hc : (r8Closed x != r.isEmpty) = true
    · have hcb : (r8Closed x == r.isEmpty) = false := by
        cases hcc : (r8Closed x == r.isEmpty) with
        | false => rfl
        | true => simp [bne, hcc] at hc
      simp only [if_pos hc, hcb, Bool.and_false, Bool.false_and, Bool.false_eq_true, false_and, iff_false, Bool.not_eq_true]
      have : (andT (r8node u f deep w all set x) fun s1 => (false, s1)).1 = false := by
        unfold andT; split <;> rfl
      exact ⟨this, fun h => by rw [this] at h; cases h⟩
    have hcb : (r8Closed x == r.isEmpty) = true := by
      cases hcc : (r8Closed x == r.isEmpty) with
      | true => rfl
      | false => simp [bne, hcc] at hc
    simp only [if_neg hc, hcb, hdb, Bool.true_and, Bool.and_true, Bool.and_eq_true]
    have key : (andT (r8node u f deep w all set x) fun s1 => r8go u f deep w (all ++ x.outs) s1 r).1 = true ↔ (r8node u f deep w all set x).1 = true ∧ (r8go u f deep w (all ++ x.outs) (marks set (dN x)) r).1 = true := by
      rw [andT_iff.1]
      exact and_congr_right fun h => by rw [n2 h]
    refine ⟨?_, fun h => ?_⟩
    · rw [key, n1, r1]
      constructor
      · rintro ⟨⟨c1, c2⟩, c3, c4⟩
        exact ⟨⟨c1, c3⟩, (frs_app hn (node_in u f x (fun q _ => rg u f q) _ _ _ c1) (rg u f r _ _ _ c3)).2 ⟨c2, c4⟩⟩
      rintro ⟨⟨c1, c3⟩, c4⟩
      obtain ⟨d1, d2⟩ := (frs_app hn (node_in u f x (fun q _ => rg u f q) _ _ _ c1) (rg u f r _ _ _ c3)).1 c4
      exact ⟨⟨c1, d1⟩, c3, d2⟩
    obtain ⟨k1, k2⟩ := key.1 h
    rw [andT_iff.2 h, n2 k1, r2 k2]
    show _ = marks set (dN x ++ dL r)
    rw [marks_app]
theorem ch_all (u : Un) (f : Fl) : ∀ (N : Nat) (l : List Nd), SizeOf.sizeOf l < N → CH u f l
  | 0, _, h => absurd h (Nat.not_lt_zero _)
  | N + 1, l, hN => by
    intro deep w seen set hn
    obtain ⟨h1, h2⟩ := go_iff u f deep w l (fun x hx q hq => ch_all u f N q (Nat.lt_of_lt_of_le (kid_lt hx rfl hq) (Nat.le_of_lt_succ hN))) seen set hn
    unfold r8list ne vList
    cases l with
    | nil => simp
    | cons x r => simpa using ⟨h1, h2⟩
/-- THE REFERENCE'S CHECKER OF LISTS: what may be, and what is set (each once, and not before). -/
theorem r8list_iff (u : Un) (f : Fl) (l : List Nd) (deep : Int) (w : Wh) (seen : List Int) (set : List Bool) (hn : set.length = f.types.length) : (r8list u f deep w seen set l).1 = true ↔ vList u f deep w seen l = true ∧ Frs set (dL l) :=
  (ch_all u f _ l (Nat.lt_succ_self _) deep w seen set hn).1
def SubL (a b : List Int) : Prop := ∀ v : Int, a.contains v = true → b.contains v = true
theorem SubL.refl (a : List Int) : SubL a a := fun _ h => h
theorem SubL.app {a b c d : List Int} (h : SubL a b) (h2 : SubL c d) : SubL (a ++ c) (b ++ d) := fun v hv => by
  rw [List.contains_append, Bool.or_eq_true] at hv ⊢
  exact hv.elim (fun h' => .inl (h v h')) (fun h' => .inr (h2 v h'))
theorem SubL.left {a b c : List Int} (h : SubL a b) : SubL a (b ++ c) := fun v hv => by rw [List.contains_append, h v hv]; rfl
theorem typesGo_sub {tys s s' : List Int} : ∀ {l want : List Int}, (∀ v ∈ l, s.contains v = true → s'.contains v = true) → r8typesGo tys s l want = true → r8typesGo tys s' l want = true
  | [], _, _, _ => by simp [r8typesGo]
  | _ :: _, [], _, _ => by simp [r8typesGo]
  | x :: r, w :: ws, hs, h => by
    simp only [r8typesGo, Bool.and_eq_true] at h ⊢
    refine ⟨?_, typesGo_sub (fun v hv => hs v (.tail _ hv)) h.2⟩
    have h1 := h.1
    unfold r8use at h1 ⊢
    cases hc : s.contains x with
    | false => rw [hc] at h1; simp at h1
    | true => rw [hs x (.head _) hc]; rw [hc] at h1; exact h1
theorem types_sub {tys s s' l want : List Int} (hs : ∀ v ∈ l, s.contains v = true → s'.contains v = true) (h : r8types tys s l want = true) : r8types tys s' l want = true := by
  unfold r8types at h ⊢
  simp only [Bool.and_eq_true] at h ⊢
  exact ⟨h.1, typesGo_sub hs h.2⟩
theorem types_mono {tys s s' l want : List Int} (hs : SubL s s') (h : r8types tys s l want = true) : r8types tys s' l want = true := types_sub (fun v _ => hs v) h
theorem hmless_kind {x : Nd} (h : hmless x = true) : (x.kind = 1 ∨ x.kind = 2 ∨ x.kind = 3 ∨ x.kind = 4) := by
  simp only [hmless, Bool.or_eq_true, Bool.and_eq_true, beq_iff_eq] at h
  rcases h with ((h | h) | h) | h
  · exact .inl h
  · exact .inr (.inl h)
  · exact .inr (.inr (.inl h))
  exact .inr (.inr (.inr h.1.1))
theorem hmless_no {x : Nd} (h : hmless x = true) : (x.kind == 10) = false ∧ (x.kind == 11) = false ∧ r8Closed x = false ∧ r8LeavesN x = false := by
  have hk := hmless_kind h
  have h10 : (x.kind == 10) = false := by simp; omega
  have h11 : (x.kind == 11) = false := by simp; omega
  have h14 : (x.kind == 14) = false := by simp; omega
  refine ⟨h10, h11, ?_, ?_⟩
  · simp only [r8Closed, h10, h11, Bool.false_and, Bool.false_eq_true, if_false, r8Ender]
    simp; omega
  rw [r8LeavesN_eq, h10, h14]; rfl
theorem sform_mono {u : Un} {f : Fl} {x : Nd} {s s' : List Int} {w : Wh} {outs : List Int} (hs : SubL s s') (h : (sForm u f x s w).ok f.types outs = true) : (sForm u f x s' w).ok f.types outs = true := by
  have M : ∀ want, r8types f.types s x.args want = true → r8types f.types s' x.args want = true := fun want => types_mono hs
  have F : ∀ (b b' : Bool) (want : Option (List Int)), (b = true → b' = true) → SForm.ok ⟨b, want⟩ f.types outs = true → SForm.ok ⟨b', want⟩ f.types outs = true := fun b b' want hb h => by
    cases want <;> simp only [SForm.ok, Bool.and_eq_true] at h ⊢ <;> exact ⟨hb h.1, h.2⟩
  unfold sForm at h ⊢
  by_cases k1 : (x.kind == 1) = true
  · rw [if_pos k1] at h ⊢
    exact F _ _ _ (fun hb => M _ hb) h
  rw [if_neg k1] at h ⊢
  by_cases k2 : (x.kind == 2) = true
  · rw [if_pos k2] at h ⊢
    exact F _ _ _ (fun hb => by simp only [Bool.and_eq_true] at hb ⊢; exact ⟨hb.1, M _ hb.2⟩) h
  rw [if_neg k2] at h ⊢
  by_cases k3 : (x.kind == 3) = true
  · rw [if_pos k3] at h ⊢
    exact F _ _ _ (fun hb => by simp only [Bool.and_eq_true] at hb ⊢; exact ⟨hb.1, M _ hb.2⟩) h
  rw [if_neg k3] at h ⊢
  by_cases k4 : (x.kind == 4) = true
  · rw [if_pos k4] at h ⊢
    exact F _ _ _ (fun hb => by simp only [Bool.and_eq_true] at hb ⊢; exact ⟨⟨hb.1.1, M _ hb.1.2⟩, hb.2⟩) h
  rw [if_neg k4] at h ⊢
  by_cases k5 : (x.kind == 5) = true
  · rw [if_pos k5] at h ⊢
    exact F _ _ _ (fun hb => by simp only [Bool.and_eq_true] at hb ⊢; exact ⟨hb.1, M _ hb.2⟩) h
  rw [if_neg k5] at h ⊢
  by_cases k6 : (x.kind == 6) = true
  · rw [if_pos k6] at h ⊢
    exact F _ _ _ (fun hb => by simp only [Bool.and_eq_true] at hb ⊢; exact ⟨hb.1, M _ hb.2⟩) h
  rw [if_neg k6] at h ⊢
  by_cases k7 : (x.kind == 7) = true
  · rw [if_pos k7] at h ⊢
    by_cases hp : decide (r8Place x.name u.flows 0 ≥ 0) = true
    · rw [if_pos hp] at h ⊢
      cases hg : u.flows[(r8Place x.name u.flows 0).toNat]? with
      | none => rw [hg] at h; exact h
      | some g => rw [hg] at h; exact F _ _ _ (fun hb => M _ hb) h
    rw [if_neg hp] at h ⊢; exact h
  rw [if_neg k7] at h ⊢
  by_cases k8 : (x.kind == 8) = true
  · rw [if_pos k8] at h ⊢
    exact h
  rw [if_neg k8] at h ⊢
  by_cases k9 : (x.kind == 9) = true
  · rw [if_pos k9] at h ⊢
    exact F _ _ _ (fun hb => M _ hb) h
  rw [if_neg k9] at h ⊢
  by_cases k12 : (x.kind == 12) = true
  · rw [if_pos k12] at h ⊢
    exact F _ _ _ (fun hb => by simp only [Bool.and_eq_true] at hb ⊢; exact ⟨hb.1, M _ hb.2⟩) h
  rw [if_neg k12] at h ⊢
  by_cases k13 : (x.kind == 13) = true
  · rw [if_pos k13] at h ⊢
    exact F _ _ _ (fun hb => by simp only [Bool.and_eq_true] at hb ⊢; exact ⟨hb.1, M _ hb.2⟩) h
  rw [if_neg k13] at h ⊢
  by_cases k14 : (x.kind == 14) = true
  · rw [if_pos k14] at h ⊢
    exact F _ _ _ (fun hb => by simp only [Bool.and_eq_true] at hb ⊢; exact ⟨hb.1, M _ hb.2⟩) h
  rw [if_neg k14] at h ⊢
  by_cases k15 : (x.kind == 15) = true
  · rw [if_pos k15] at h ⊢
    exact F _ _ _ (fun hb => M _ hb) h
  rw [if_neg k15] at h ⊢
  exact h
/-- A harmless node may be wherever its values may be used. -/
theorem sform_moved {u : Un} {f : Fl} {x : Nd} {s s' : List Int} {w w' : Wh} {outs : List Int} (hm : hmless x = true) (hs : ∀ v ∈ x.args, s.contains v = true → s'.contains v = true) (h : (sForm u f x s w).ok f.types outs = true) :
    (sForm u f x s' w').ok f.types outs = true ∧ outs.length = 1 := by
  have M : ∀ want, r8types f.types s x.args want = true → r8types f.types s' x.args want = true := fun want => types_sub hs
  have F : ∀ (b b' : Bool) (t : Int), (b = true → b' = true) → SForm.ok ⟨b, some [t]⟩ f.types outs = true → SForm.ok ⟨b', some [t]⟩ f.types outs = true ∧ outs.length = 1 := fun b b' t hb h => by
    simp only [SForm.ok, Bool.and_eq_true] at h ⊢
    exact ⟨⟨hb h.1, h.2⟩, vOuts_len h.2⟩
  unfold sForm at h ⊢
  by_cases k1 : (x.kind == 1) = true
  · rw [if_pos k1] at h ⊢
    exact F _ _ _ (fun hb => M _ hb) h
  rw [if_neg k1] at h ⊢
  by_cases k2 : (x.kind == 2) = true
  · rw [if_pos k2] at h ⊢
    exact F _ _ _ (fun hb => by simp only [Bool.and_eq_true] at hb ⊢; exact ⟨hb.1, M _ hb.2⟩) h
  rw [if_neg k2] at h ⊢
  by_cases k3 : (x.kind == 3) = true
  · rw [if_pos k3] at h ⊢
    exact F _ _ _ (fun hb => by simp only [Bool.and_eq_true] at hb ⊢; exact ⟨hb.1, M _ hb.2⟩) h
  rw [if_neg k3] at h ⊢
  by_cases k4 : (x.kind == 4) = true
  · rw [if_pos k4] at h ⊢
    exact F _ _ _ (fun hb => by simp only [Bool.and_eq_true] at hb ⊢; exact ⟨⟨hb.1.1, M _ hb.1.2⟩, hb.2⟩) h
  rw [if_neg k4] at h ⊢
  have hk := hmless_kind hm
  simp only [beq_iff_eq] at k1 k2 k3 k4
  omega
theorem dL_app : ∀ (a b : List Nd), dL (a ++ b) = dL a ++ dL b
  | [], _ => rfl
  | x :: r, b => by simp only [List.cons_append, dL, dL_app r b, List.append_assoc]
theorem part_perm : ∀ (l : List Nd) (vs : List Int), List.Perm (dL (hPart vs l).1 ++ dL (hPart vs l).2) (dL l)
  | [], _ => by simp [hPart, dL]
  | x :: r, vs => by
    unfold hPart
    split
    · split
      · have ih := part_perm r (vs ++ [x.outs.headD 0])
        simp only [dL]
        refine (List.perm_append_comm_assoc _ _ _).trans ?_
        exact ih.append_left (dN x)
      have ih := part_perm r vs
      simp only [dL, List.append_assoc]
      exact ih.append_left (dN x)
    simp [dL]
mutual
theorem hNode_perm : ∀ x : Nd, List.Perm (dL (hNode x)) (dN x)
  | .mk kind op n name args outs params ks => by
    have hk := hKids_perm ks
    unfold hNode hOut
    split
    · cases hq : hKids ks with
      | nil =>
        rw [hq] at hk
        simp only [dL, dN, List.append_nil]
        exact (hk.append_right outs).append_left params
      | cons b r =>
        rw [hq] at hk
        simp only [dL_app, dL, dN, dK, List.append_nil] at hk ⊢
        have hp := part_perm b params
        refine (List.perm_append_comm_assoc _ _ _).trans (List.Perm.append_left params ?_)
        rw [← List.append_assoc, ← List.append_assoc]
        refine List.Perm.append_right outs ?_
        refine (List.Perm.append_right (dK r) hp).trans hk
    simp only [dL, dN, List.append_nil]
    exact (hk.append_right outs).append_left params
theorem hList_perm : ∀ l : List Nd, List.Perm (dL (hList l)) (dL l)
  | [] => by simp [hList]
  | x :: r => by
    simp only [hList, dL_app, dL]
    exact (hNode_perm x).append (hList_perm r)
theorem hKids_perm : ∀ ks : List (List Nd), List.Perm (dK (hKids ks)) (dK ks)
  | [] => by simp [hKids]
  | l :: r => by
    simp only [hKids, dK]
    exact (hList_perm l).append (hKids_perm r)
end
theorem Frs.perm {set : List Bool} {a b : List Int} (h : Frs set a) (hp : List.Perm a b) : Frs set b := ⟨hp.nodup_iff.1 h.1, fun v hv => h.2 v (hp.mem_iff.2 hv)⟩
theorem leaves_app : ∀ (a b : List Nd), r8Leaves (a ++ b) = (r8Leaves a || r8Leaves b)
  | [], b => by simp [r8Leaves]
  | x :: r, b => by simp only [List.cons_append, r8Leaves, leaves_app r b, Bool.or_assoc]
theorem leaves_part : ∀ (l : List Nd) (vs : List Int), r8Leaves (hPart vs l).1 = false ∧ r8Leaves (hPart vs l).2 = r8Leaves l
  | [], _ => by simp [hPart, r8Leaves]
  | x :: r, vs => by
    unfold hPart
    split
    · rename_i hm
      obtain ⟨_, _, _, h4⟩ := hmless_no hm
      split
      · obtain ⟨h1, h2⟩ := leaves_part r (vs ++ [x.outs.headD 0])
        exact ⟨h1, by simp only [r8Leaves, h2]⟩
      obtain ⟨h1, h2⟩ := leaves_part r vs
      exact ⟨by simp only [r8Leaves, h1, h4, Bool.or_false], by simp only [r8Leaves, h2, h4, Bool.false_or]⟩
    simp [r8Leaves]
mutual
theorem leaves_node : ∀ x : Nd, r8Leaves (hNode x) = r8LeavesN x
  | .mk kind op n name args outs params ks => by
    have hk := leaves_kids ks
    unfold hNode hOut
    split
    · rename_i h11
      have e11 : kind = 11 := by simpa using h11
      subst e11
      cases hq : hKids ks with
      | nil => simp [r8Leaves, r8LeavesN]
      | cons b r => simp only [leaves_app, (leaves_part b params).1]; simp [r8Leaves, r8LeavesN]
    simp only [r8Leaves, r8LeavesN, hk, Bool.or_false]
theorem leaves_list : ∀ l : List Nd, r8Leaves (hList l) = r8Leaves l
  | [] => by simp [hList]
  | x :: r => by simp only [hList, leaves_app, leaves_node x, leaves_list r, r8Leaves]
theorem leaves_kids : ∀ ks : List (List Nd), r8LeavesK (hKids ks) = r8LeavesK ks
  | [] => by simp [hKids]
  | l :: r => by simp only [hKids, r8LeavesK, leaves_list l, leaves_kids r]
end
theorem hNode_last (x : Nd) : ∃ A y, hNode x = A ++ [y] ∧ y.kind = x.kind := by
  cases x with
  | mk kind op n name args outs params ks =>
    unfold hNode hOut
    split
    · cases hKids ks with
      | nil => exact ⟨[], _, rfl, rfl⟩
      | cons b r => exact ⟨_, _, rfl, rfl⟩
    exact ⟨[], _, rfl, rfl⟩
theorem hList_ne {l : List Nd} (h : l ≠ []) : hList l ≠ [] := by
  cases l with
  | nil => exact absurd rfl h
  | cons x r =>
    obtain ⟨A, y, e, _⟩ := hNode_last x
    simp [hList, e]
theorem last_h : ∀ l : List Nd, r8last (hList l) = r8last l
  | [] => by simp [hList]
  | x :: r => by
    obtain ⟨A, y, e, hk⟩ := hNode_last x
    cases r with
    | nil => simp [hList, e, r8last, hk]
    | cons z r' =>
      have ih := last_h (z :: r')
      have hne : hList (z :: r') ≠ [] := hList_ne (by simp)
      have h1 : (hList (x :: z :: r')).getLast? = (hList (z :: r')).getLast? := by
        rw [show hList (x :: z :: r') = hNode x ++ hList (z :: r') from rfl, List.getLast?_append]
        cases hl : (hList (z :: r')).getLast? with
        | none => exact absurd (List.getLast?_eq_none_iff.1 hl) hne
        | some q => rfl
      unfold r8last at ih ⊢
      rw [h1, ih]
      simp [List.getLast?_cons_cons]
/-- More may be used. -/
def MG (u : Un) (f : Fl) (l : List Nd) : Prop := ∀ (deep : Int) (w : Wh) (all all' : List Int), SubL all all' → vGo u f deep w all l = true → vGo u f deep w all' l = true
theorem MG.list {u : Un} {f : Fl} {l : List Nd} (h : MG u f l) {deep : Int} {w : Wh} {all all' : List Int} (hs : SubL all all') (hv : vList u f deep w all l = true) : vList u f deep w all' l = true := by
  simp only [vList, Bool.and_eq_true] at hv ⊢
  exact ⟨hv.1, h deep w all all' hs hv.2⟩
theorem node_mono (u : Un) (f : Fl) (x : Nd) (ih : ∀ q ∈ x.kids, MG u f q) (deep : Int) (w : Wh) (s s' : List Int) (hs : SubL s s') (h : vNode u f deep w s x = true) : vNode u f deep w s' x = true := by
  have hb := vNode_bare u f deep w s h
  by_cases h10 : x.kind = 10
  · obtain ⟨a, b, hk⟩ := r8bare_if hb h10
    rw [vNode_if u f deep w _ hb h10 hk] at h ⊢
    simp only [Bool.and_eq_true] at h ⊢
    exact ⟨⟨⟨⟨types_mono hs h.1.1.1.1, (ih a (by rw [hk]; simp)).list hs h.1.1.1.2⟩, (ih b (by rw [hk]; simp)).list hs h.1.1.2⟩, h.1.2⟩, h.2⟩
  by_cases h11 : x.kind = 11
  · obtain ⟨a, hk⟩ := r8bare_loop hb h11
    rw [vNode_loop u f deep w _ hb h11 hk] at h ⊢
    simp only [Bool.and_eq_true] at h ⊢
    exact ⟨⟨⟨⟨types_mono hs h.1.1.1.1, h.1.1.1.2⟩, (ih a (by rw [hk]; simp)).list (hs.app (.refl _)) h.1.1.2⟩, h.1.2⟩, h.2⟩
  have e10 : (x.kind == 10) = false := by simpa using h10
  have e11 : (x.kind == 11) = false := by simpa using h11
  rw [vNode_simple u f deep w _ hb e10 e11] at h ⊢
  exact sform_mono hs h
theorem go_mono (u : Un) (f : Fl) : ∀ (l : List Nd), (∀ x ∈ l, ∀ q ∈ x.kids, MG u f q) → MG u f l
  | [], _ => fun _ _ _ _ _ _ => by simp [vGo]
  | x :: r, ih => fun deep w all all' hs h => by
    simp only [vGo, Bool.and_eq_true] at h ⊢
    exact ⟨⟨⟨h.1.1.1, node_mono u f x (ih x (.head _)) _ _ _ _ hs h.1.1.2⟩, h.1.2⟩, go_mono u f r (fun y hy => ih y (.tail _ hy)) _ _ _ _ (hs.app (.refl _)) h.2⟩
theorem mg_all (u : Un) (f : Fl) : ∀ (N : Nat) (l : List Nd), SizeOf.sizeOf l < N → MG u f l
  | 0, _, h => absurd h (Nat.not_lt_zero _)
  | N + 1, l, hN => go_mono u f l fun x hx q hq => mg_all u f N q (Nat.lt_of_lt_of_le (kid_lt hx rfl hq) (Nat.le_of_lt_succ hN))
theorem mg (u : Un) (f : Fl) (l : List Nd) : MG u f l := mg_all u f _ l (Nat.lt_succ_self _)
/-- Nodes that stand ahead of others. -/
def vPre (u : Un) (f : Fl) (deep : Int) (w : Wh) (all : List Int) : List Nd → Bool
  | [] => true
  | x :: r => !decide (deep > 100) && vNode u f deep w all x && !r8Closed x && vPre u f deep w (all ++ x.outs) r
theorem go_app (u : Un) (f : Fl) (deep : Int) (w : Wh) : ∀ (A T : List Nd) (all : List Int), T ≠ [] → vPre u f deep w all A = true → vGo u f deep w (all ++ A.flatMap Nd.outs) T = true → vGo u f deep w all (A ++ T) = true
  | [], T, all, _, _, h => by simpa using h
  | x :: r, T, all, hT, h1, h2 => by
    simp only [vPre, Bool.and_eq_true] at h1
    simp only [List.cons_append, vGo, Bool.and_eq_true]
    refine ⟨⟨h1.1.1, ?_⟩, go_app u f deep w r T (all ++ x.outs) hT h1.2 (by rw [List.flatMap_cons, ← List.append_assoc] at h2; exact h2)⟩
    have hc : r8Closed x = false := by simpa using h1.1.2
    have he : (r ++ T).isEmpty = false := by
      cases r with
      | nil => cases T with
        | nil => exact absurd rfl hT
        | cons _ _ => rfl
      | cons _ _ => rfl
    rw [hc, he]; rfl
theorem contains_headD {l : List Int} (h : l.length = 1) (v : Int) (hv : l.contains v = true) : v = l.headD 0 := by
  match l, h with
  | [a], _ => simpa using hv
/-- What is parted: the nodes ahead may be ahead of the loop, the others in it behind them. -/
theorem part_ok (u : Un) (f : Fl) (dI dO : Int) (wI wO : Wh) (hdO : ¬ dO > 100) : ∀ (l : List Nd) (V S vs : List Int), vGo u f dI wI V l = true → (∀ v, V.contains v = true → S.contains v = true ∨ vs.contains v = true) →
    vPre u f dO wO S (hPart vs l).1 = true ∧ (∀ V', SubL V V' → SubL ((hPart vs l).1.flatMap Nd.outs) V' → vGo u f dI wI V' (hPart vs l).2 = true) ∧ (l ≠ [] → (hPart vs l).2 ≠ [])
  | [], V, S, vs, _, _ => ⟨rfl, fun _ _ _ => rfl, fun h => absurd rfl h⟩
  | x :: r, V, S, vs, h, hV => by
    have h0 := h
    simp only [vGo, Bool.and_eq_true] at h
    obtain ⟨⟨⟨hd, hx⟩, hc⟩, hr⟩ := h
    have hb := vNode_bare u f dI wI V hx
    unfold hPart
    by_cases hm : hmless x = true
    · rw [if_pos hm]
      obtain ⟨e10, e11, hcl, _⟩ := hmless_no hm
      have hne : r ≠ [] := by
        intro e; subst e
        rw [hcl] at hc; simp at hc
      have hx2 := hx
      rw [vNode_simple u f dI wI V hb e10 e11] at hx2
      by_cases ha : x.args.any (fun v => vs.contains v) = true
      · rw [if_pos ha]
        obtain ⟨_, hol⟩ := sform_moved (s' := V) (w' := wI) hm (fun _ _ h => h) hx2
        obtain ⟨i1, i2, i3⟩ := part_ok u f dI dO wI wO hdO r (V ++ x.outs) S (vs ++ [x.outs.headD 0]) hr (fun v hv => by
          rw [List.contains_append, Bool.or_eq_true] at hv
          rw [List.contains_append, Bool.or_eq_true]
          rcases hv with hv | hv
          · exact (hV v hv).imp_right .inl
          · have := contains_headD hol v hv
            exact .inr (.inr (by rw [this]; simp)))
        refine ⟨i1, fun V' h1 h2 => ?_, fun _ => by simp⟩
        have hR := i3 hne
        have hRe : (hPart (vs ++ [x.outs.headD 0]) r).2.isEmpty = false := by
          cases hq : (hPart (vs ++ [x.outs.headD 0]) r).2 with
          | nil => exact absurd hq hR
          | cons _ _ => rfl
        simp only [vGo, Bool.and_eq_true]
        refine ⟨⟨⟨hd, node_mono u f x (fun q _ => mg u f q) _ _ _ _ h1 hx⟩, by rw [hcl, hRe]; rfl⟩, i2 (V' ++ x.outs) (h1.app (.refl _)) (fun v hv => ?_)⟩
        rw [List.contains_append, h2 v hv]; rfl
      rw [if_neg ha]
      have hargs : ∀ v ∈ x.args, V.contains v = true → S.contains v = true := fun v hv hVv => by
        rcases hV v hVv with h | h
        · exact h
        exact absurd (List.any_eq_true.2 ⟨v, hv, h⟩) ha
      obtain ⟨hmv, _⟩ := sform_moved (s' := S) (w' := wO) hm hargs hx2
      obtain ⟨i1, i2, i3⟩ := part_ok u f dI dO wI wO hdO r (V ++ x.outs) (S ++ x.outs) vs hr (fun v hv => by
        rw [List.contains_append, Bool.or_eq_true] at hv
        rw [List.contains_append, Bool.or_eq_true]
        rcases hv with hv | hv
        · exact (hV v hv).imp_left .inl
        · exact .inl (.inr hv))
      refine ⟨?_, fun V' h1 h2 => ?_, fun _ => i3 hne⟩
      · simp only [vPre, Bool.and_eq_true]
        refine ⟨⟨⟨by simpa using hdO, ?_⟩, by rw [hcl]; rfl⟩, i1⟩
        rw [vNode_simple u f dO wO S hb e10 e11]
        exact hmv
      refine i2 V' (fun v hv => ?_) (fun v hv => h2 v (by rw [List.flatMap_cons, List.contains_append, hv, Bool.or_true]))
      rw [List.contains_append, Bool.or_eq_true] at hv
      rcases hv with hv | hv
      · exact h1 v hv
      exact h2 v (by rw [List.flatMap_cons, List.contains_append, hv]; rfl)
    rw [if_neg hm]
    refine ⟨rfl, fun V' h1 _ => mg u f (x :: r) dI wI V V' h1 h0, fun _ => by simp⟩
/-- A list, hoisted, may be. -/
def HP (u : Un) (f : Fl) (l : List Nd) : Prop := ∀ (deep : Int) (w : Wh) (all all' : List Int), SubL all all' → vGo u f deep w all l = true → vGo u f deep w all' (hList l) = true
theorem HP.list {u : Un} {f : Fl} {l : List Nd} (h : HP u f l) {deep : Int} {w : Wh} {all all' : List Int} (hs : SubL all all') (hv : vList u f deep w all l = true) : vList u f deep w all' (hList l) = true := by
  simp only [vList, Bool.and_eq_true] at hv ⊢
  refine ⟨?_, h deep w all all' hs hv.2⟩
  have hne : l ≠ [] := by intro e; subst e; simp at hv
  cases hq : hList l with
  | nil => exact absurd hq (hList_ne hne)
  | cons _ _ => rfl
theorem bare_kidsEq {kind op n : Int} {name : ByteArray} {args outs params : List Int} {ks ks' : List (List Nd)} (h : ks'.length = ks.length) : r8bare (.mk kind op n name args outs params ks') = r8bare (.mk kind op n name args outs params ks) := by
  unfold r8bare r8op r8num r8name r8kn
  simp only [Nd.kind, Nd.op, Nd.n, Nd.name, Nd.kids, Nd.params]
  rw [h]
  rfl
theorem node_h (u : Un) (f : Fl) (x : Nd) (ih : ∀ q ∈ x.kids, HP u f q) (deep : Int) (w : Wh) (all all' : List Int) (hd : ¬ deep > 100) (hs : SubL all all') (h : vNode u f deep w all x = true) :
    ∃ A y, hNode x = A ++ [y] ∧ vPre u f deep w all' A = true ∧ vNode u f deep w (all' ++ A.flatMap Nd.outs) y = true ∧ r8Closed y = r8Closed x ∧ y.outs = x.outs := by
  have hb := vNode_bare u f deep w all h
  by_cases h10 : x.kind = 10
  · obtain ⟨a, b, hk⟩ := r8bare_if hb h10
    rw [vNode_if u f deep w all hb h10 hk] at h
    simp only [Bool.and_eq_true] at h
    have ha := (ih a (by rw [hk]; simp)).list hs h.1.1.1.2
    have hbb := (ih b (by rw [hk]; simp)).list hs h.1.1.2
    have hla := last_h a
    have hlb := last_h b
    cases x with
    | mk kind op n name args outs params ks =>
      simp only [Nd.kind, Nd.kids] at h10 hk
      subst h10 hk
      refine ⟨[], .mk 10 op n name args outs params [hList a, hList b], rfl, rfl, ?_, ?_, rfl⟩
      · rw [List.flatMap_nil, List.append_nil]
        have hb2 : r8bare (.mk 10 op n name args outs params [hList a, hList b]) = true := (bare_kidsEq (ks := [a, b]) (ks' := [hList a, hList b]) rfl).trans hb
        rw [vNode_if u f deep w all' hb2 rfl rfl]
        simp only [Bool.and_eq_true]
        refine ⟨⟨⟨⟨types_mono hs h.1.1.1.1, ha⟩, hbb⟩, ?_⟩, h.2⟩
        have ho := h.1.2
        unfold outOk r8Closed at ho ⊢
        simpa [Nd.kind, Nd.kids, Nd.outs, kid0, kid1, hla, hlb] using ho
      simp [r8Closed, Nd.kind, Nd.kids, kid0, kid1, hla, hlb]
  by_cases h11 : x.kind = 11
  · obtain ⟨a, hk⟩ := r8bare_loop hb h11
    rw [vNode_loop u f deep w all hb h11 hk] at h
    simp only [Bool.and_eq_true] at h
    have hIH := (ih a (by rw [hk]; simp)).list (SubL.refl (all ++ x.params)) h.1.1.2
    simp only [vList, Bool.and_eq_true] at hIH
    have hne : hList a ≠ [] := by intro e; rw [e] at hIH; simp at hIH
    obtain ⟨p1, p2, p3⟩ := part_ok u f (deep + 1) deep (w2 f x) w hd (hList a) (all ++ x.params) all' x.params hIH.2 (fun v hv => by
      rw [List.contains_append, Bool.or_eq_true] at hv
      exact hv.imp_left (hs v))
    obtain ⟨l1, l2⟩ := leaves_part (hList a) x.params
    have l3 := leaves_list a
    cases x with
    | mk kind op n name args outs params ks =>
      simp only [Nd.kind, Nd.kids] at h11 hk
      subst h11 hk
      simp only [Nd.params] at p1 p2 p3 l2 h
      refine ⟨(hPart params (hList a)).1, .mk 11 op n name args outs params [(hPart params (hList a)).2], rfl, p1, ?_, ?_, rfl⟩
      · have hb2 : r8bare (.mk 11 op n name args outs params [(hPart params (hList a)).2]) = true := (bare_kidsEq (ks := [a]) (ks' := [(hPart params (hList a)).2]) rfl).trans hb
        rw [vNode_loop u f deep w _ hb2 rfl rfl]
        simp only [Bool.and_eq_true, vList, Nd.params, Nd.args, Nd.outs] at h ⊢
        refine ⟨⟨⟨⟨types_mono hs.left h.1.1.1.1, h.1.1.1.2⟩, ?_, ?_⟩, ?_⟩, h.2⟩
        · cases hq : (hPart params (hList a)).2 with
          | nil => exact absurd hq (p3 hne)
          | cons _ _ => rfl
        · exact p2 _ (hs.left.app (.refl _)) (fun v hv => by rw [List.contains_append, List.contains_append, hv, Bool.or_true, Bool.true_or])
        have ho := h.1.2
        unfold outOk r8Closed at ho ⊢
        simpa [Nd.kind, Nd.kids, Nd.outs, kid0, l2, l3] using ho
      simp [r8Closed, Nd.kind, Nd.kids, kid0, l2, l3]
  have e10 : (x.kind == 10) = false := by simpa using h10
  have e11 : (x.kind == 11) = false := by simpa using h11
  have hk0 := bare_kids0 hb e10 e11
  have hx : hNode x = [x] := by
    cases x with
    | mk kind op n name args outs params ks =>
      simp only [Nd.kind, Nd.kids] at e11 hk0
      subst hk0
      simp [hNode, hOut, hKids, e11]
  refine ⟨[], x, hx, rfl, ?_, rfl, rfl⟩
  rw [List.flatMap_nil, List.append_nil]
  exact node_mono u f x (fun q _ => mg u f q) _ _ _ _ hs h
theorem go_h (u : Un) (f : Fl) : ∀ (l : List Nd), (∀ x ∈ l, ∀ q ∈ x.kids, HP u f q) → HP u f l
  | [], _ => fun _ _ _ _ _ _ => by simp [hList, vGo]
  | x :: r, ih => fun deep w all all' hs h => by
    simp only [vGo, Bool.and_eq_true] at h
    obtain ⟨⟨⟨hd, hx⟩, hc⟩, hr⟩ := h
    obtain ⟨A, y, e, hA, hy, hcy, hoy⟩ := node_h u f x (ih x (.head _)) deep w all all' (by simpa using hd) hs hx
    rw [show hList (x :: r) = hNode x ++ hList r from rfl, e, List.append_assoc]
    refine go_app u f deep w A _ all' (by simp) hA ?_
    simp only [List.singleton_append, vGo, Bool.and_eq_true]
    refine ⟨⟨⟨hd, hy⟩, ?_⟩, go_h u f r (fun z hz => ih z (.tail _ hz)) deep w (all ++ x.outs) _ (by rw [hoy]; exact hs.left.app (.refl _)) hr⟩
    rw [hcy]
    have he : (hList r).isEmpty = r.isEmpty := by
      cases r with
      | nil => rfl
      | cons z r' =>
        cases hq : hList (z :: r') with
        | nil => exact absurd hq (hList_ne (by simp))
        | cons _ _ => rfl
    rw [he]; exact hc
theorem hp_all (u : Un) (f : Fl) : ∀ (N : Nat) (l : List Nd), SizeOf.sizeOf l < N → HP u f l
  | 0, _, h => absurd h (Nat.not_lt_zero _)
  | N + 1, l, hN => go_h u f l fun x hx q hq => hp_all u f N q (Nat.lt_of_lt_of_le (kid_lt hx rfl hq) (Nat.le_of_lt_succ hN))
theorem vList_hoist (u : Un) (f : Fl) {deep : Int} {w : Wh} {all : List Int} {l : List Nd} (h : vList u f deep w all l = true) : vList u f deep w all (hList l) = true :=
  (hp_all u f _ l (Nat.lt_succ_self _)).list (SubL.refl _) h
theorem place_h (name : ByteArray) : ∀ (l : List Fl) (i : Int), r8Place name (l.map hFlow) i = r8Place name l i
  | [], _ => rfl
  | f :: r, i => by
    have ih := place_h name r (i + 1)
    unfold r8Place
    rw [List.map_cons]
    simp only [ih]
    rfl
theorem sForm_h (u : Un) (f : Fl) (x : Nd) (s : List Int) (w : Wh) : sForm (hUnit u) (hFlow f) x s w = sForm u f x s w := by
  unfold sForm
  simp only [hUnit, hFlow, place_h, List.getElem?_map]
  cases u.flows[(r8Place x.name u.flows 0).toNat]? with
  | none => rfl
  | some g => rfl
mutual
theorem vNode_h (u : Un) (f : Fl) : ∀ (x : Nd) (deep : Int) (w : Wh) (s : List Int), vNode (hUnit u) (hFlow f) deep w s x = vNode u f deep w s x
  | .mk kind op n name args outs params ks, deep, w, s => by
    unfold vNode
    rw [sForm_h]
    match ks with
    | [] => rfl
    | [a] =>
      have h1 := vGo_h u f a (deep + 1) (w2 f (.mk kind op n name args outs params [a])) (s ++ params)
      simp only [show w2 (hFlow f) (.mk kind op n name args outs params [a]) = w2 f (.mk kind op n name args outs params [a]) from rfl, h1]
      rfl
    | a :: b :: r =>
      have h1 := vGo_h u f a (deep + 1) (w2 f (.mk kind op n name args outs params (a :: b :: r))) (s ++ params)
      have h2 := vGo_h u f a (deep + 1) (w1 w f (.mk kind op n name args outs params (a :: b :: r))) s
      have h3 := vGo_h u f b (deep + 1) (w1 w f (.mk kind op n name args outs params (a :: b :: r))) s
      simp only [show w2 (hFlow f) (.mk kind op n name args outs params (a :: b :: r)) = w2 f (.mk kind op n name args outs params (a :: b :: r)) from rfl, show w1 w (hFlow f) (.mk kind op n name args outs params (a :: b :: r)) = w1 w f (.mk kind op n name args outs params (a :: b :: r)) from rfl, h1, h2, h3]
      rfl
theorem vGo_h (u : Un) (f : Fl) : ∀ (l : List Nd) (deep : Int) (w : Wh) (s : List Int), vGo (hUnit u) (hFlow f) deep w s l = vGo u f deep w s l
  | [], _, _, _ => by simp [vGo]
  | x :: r, deep, w, s => by
    unfold vGo
    rw [vNode_h u f x, vGo_h u f r]
end
theorem flow_h {u : Un} {f : Fl} (h : r8Flow u f = true) : r8Flow (hUnit u) (hFlow f) = true := by
  unfold r8Flow at h ⊢
  simp only [Bool.and_eq_true] at h ⊢
  obtain ⟨h1, h2⟩ := h
  refine ⟨h1, ?_⟩
  have hp : f.params.toNat ≤ f.types.length := by
    have a1 := h1.1.1.1.1
    have a2 := h1.1.1.2
    simp only [Bool.not_eq_true', decide_eq_false_iff_not] at a1 a2
    omega
  have hn : (firsts f.params.toNat f.types.length).length = f.types.length := firsts_length hp
  rw [r8list_iff u f f.body 1 r8where0 _ _ hn] at h2
  show (r8list (hUnit u) (hFlow f) 1 r8where0 (iota f.params.toNat) (firsts f.params.toNat f.types.length) (hList f.body)).1 = true
  rw [r8list_iff (hUnit u) (hFlow f) (hList f.body) 1 r8where0 _ _ hn]
  have hv := vList_hoist u f h2.1
  simp only [vList, Bool.and_eq_true] at hv ⊢
  exact ⟨⟨hv.1, by rw [vGo_h]; exact hv.2⟩, h2.2.perm (hList_perm f.body).symm⟩
theorem gA_h (u : Un) : ∀ (l : List Ar) (i : Int), r8gA (hUnit u) l i = r8gA u l i
  | [], _ => rfl
  | a :: r, i => by
    have h1 : gArr (hUnit u) a i = gArr u a i := by simp only [gArr, hUnit, place_h]
    simp only [r8gA, gA_h u r, h1]
theorem gF_h (u : Un) : ∀ (l : List Fl) (i : Int), r8gF (hUnit u) (l.map hFlow) i = r8gF u l i
  | [], _ => rfl
  | a :: r, i => by
    have h1 : gFlw (hUnit u) (hFlow a) i = gFlw u a i := by
      simp only [gFlw, hUnit, place_h]
      rfl
    simp only [List.map_cons, r8gF, gF_h u r, h1]
theorem getD_map_h (l : List Fl) (k : Nat) : ((l.map hFlow).getD k flDef).ty = (l.getD k flDef).ty ∧ ((l.map hFlow).getD k flDef).params = (l.getD k flDef).params := by
  simp only [List.getD_eq_getElem?_getD, List.getElem?_map]
  cases l[k]? with
  | none => exact ⟨rfl, rfl⟩
  | some g => exact ⟨rfl, rfl⟩
theorem globals_h (u : Un) : r8globals (hUnit u) = r8globals u := by
  unfold r8globals
  rw [show (hUnit u).arrays = u.arrays from rfl, show (hUnit u).flows = u.flows.map hFlow from rfl, gA_h, gF_h]
  unfold r8main
  rw [show (hUnit u).flows = u.flows.map hFlow from rfl, place_h, (getD_map_h _ _).1, (getD_map_h _ _).2]
theorem flows_iff (u : Un) : ∀ (l : List Fl) (i : Int), (r8flows u l i).1 = 0 ↔ ∀ f ∈ l, r8Flow u f = true
  | [], _ => by simp [r8flows]
  | f :: r, i => by
    unfold r8flows
    cases h : r8Flow u f with
    | false => simp [h]
    | true => simp [h, flows_iff u r (i + 1)]
theorem flows_zero (u : Un) : ∀ (l : List Fl) (i : Int), (∀ f ∈ l, r8Flow u f = true) → r8flows u l i = (0, 0)
  | [], _, _ => rfl
  | f :: r, i, h => by
    unfold r8flows
    rw [if_pos (h f (.head _))]
    exact flows_zero u r (i + 1) fun g hg => h g (.tail _ hg)
theorem check_iff (u : Un) : (r8Check u).1 = 0 ↔ r8globals u = true ∧ ∀ f ∈ u.flows, r8Flow u f = true := by
  unfold r8Check
  cases h : r8globals u with
  | false => simp
  | true => simp [flows_iff]
/-- WHAT COMES OUT OF HOIST MAY BE. -/
theorem check_hoist {u : Un} (h : (r8Check u).1 = 0) : r8Check (hUnit u) = (0, 0) := by
  obtain ⟨h1, h2⟩ := (check_iff u).1 h
  unfold r8Check
  rw [globals_h, h1, if_pos rfl]
  refine flows_zero (hUnit u) _ 0 fun g hg => ?_
  obtain ⟨f, hf, rfl⟩ := List.mem_map.1 hg
  exact flow_h (h2 f hf)
mutual
theorem okN_valid (u : Un) (f : Fl) : ∀ (x : Nd) (deep : Int) (w : Wh) (s : List Int), vNode u f deep w s x = true → hOkN x = true
  | .mk kind op n name args outs params ks, deep, w, s, h => by
    have hb := vNode_bare u f deep w s h
    simp only [hOkN, Bool.and_eq_true]
    refine ⟨⟨?_, ?_⟩, ?_⟩
    · cases hm : hmless (.mk kind op n name args outs params ks) with
      | false => rfl
      | true =>
        obtain ⟨e10, e11, _, _⟩ := hmless_no hm
        rw [vNode_simple u f deep w s hb e10 e11] at h
        obtain ⟨_, hl⟩ := sform_moved (s' := s) (w' := w) hm (fun _ _ h => h) h
        simp only [Nd.outs] at hl
        cases outs with
        | nil => simp at hl
        | cons _ _ => rfl
    · cases hk : (kind == 11) with
      | false => simp [bne, hk]
      | true =>
        obtain ⟨a, ha⟩ := r8bare_loop hb (show kind = 11 by simpa using hk)
        simp only [Nd.kids] at ha
        simp [ha]
    by_cases h10 : kind = 10
    · obtain ⟨a, b, hk⟩ := r8bare_if hb h10
      rw [vNode_if u f deep w s hb h10 hk] at h
      simp only [Bool.and_eq_true, vList] at h
      simp only [Nd.kids] at hk
      match ks, hk with
      | [a', b'], hk =>
        cases hk
        simp only [hOkK, Bool.and_eq_true, Bool.and_true]
        exact ⟨okL_valid u f a _ _ _ h.1.1.1.2.2, okL_valid u f b _ _ _ h.1.1.2.2⟩
    by_cases h11 : kind = 11
    · obtain ⟨a, hk⟩ := r8bare_loop hb h11
      rw [vNode_loop u f deep w s hb h11 hk] at h
      simp only [Bool.and_eq_true, vList] at h
      simp only [Nd.kids] at hk
      match ks, hk with
      | [a'], hk =>
        cases hk
        simp only [hOkK, Bool.and_true]
        exact okL_valid u f a _ _ _ h.1.1.2.2
    have hk0 := bare_kids0 hb (show (kind == 10) = false by simpa using h10) (show (kind == 11) = false by simpa using h11)
    simp only [Nd.kids] at hk0
    rw [hk0]; rfl
theorem okL_valid (u : Un) (f : Fl) : ∀ (l : List Nd) (deep : Int) (w : Wh) (s : List Int), vGo u f deep w s l = true → hOkL l = true
  | [], _, _, _, _ => rfl
  | x :: r, deep, w, s, h => by
    simp only [vGo, Bool.and_eq_true] at h
    simp only [hOkL, Bool.and_eq_true]
    exact ⟨okN_valid u f x _ _ _ h.1.1.2, okL_valid u f r _ _ _ h.2⟩
end
theorem hok_valid {u : Un} (h : (shCheck u).1 = 0) : ∀ f ∈ u.flows, hOkL f.body = true := by
  rw [shCheck_eq] at h
  intro f hf
  have hF := ((check_iff u).1 h).2 f hf
  unfold r8Flow at hF
  simp only [Bool.and_eq_true] at hF
  obtain ⟨h1, h2⟩ := hF
  have hp : f.params.toNat ≤ f.types.length := by
    have a1 := h1.1.1.1.1
    have a2 := h1.1.1.2
    simp only [Bool.not_eq_true', decide_eq_false_iff_not] at a1 a2
    omega
  have hn : (firsts f.params.toNat f.types.length).length = f.types.length := firsts_length hp
  rw [r8list_iff u f f.body 1 r8where0 _ _ hn] at h2
  have hv := h2.1
  simp only [vList, Bool.and_eq_true] at hv
  exact okL_valid u f f.body _ _ _ hv.2
theorem wtL_app : ∀ (a b : List Nd), wtL (a ++ b) = wtL a + wtL b
  | [], b => by simp [wtL]
  | x :: r, b => by simp only [List.cons_append, wtL, wtL_app r b]; omega
theorem wt_part : ∀ (l : List Nd) (vs : List Int), wtL (hPart vs l).1 + wtL (hPart vs l).2 = wtL l
  | [], _ => rfl
  | x :: r, vs => by
    unfold hPart
    split
    · split
      · have := wt_part r (vs ++ [x.outs.headD 0]); simp only [wtL]; omega
      have := wt_part r vs; simp only [wtL]; omega
    simp [wtL]
mutual
theorem wt_node : ∀ x : Nd, (hNode x).length + wtL (hNode x) = 1 + wtN x
  | .mk kind op n name args outs params ks => by
    have hk := wt_kids ks
    unfold hNode hOut
    split
    · cases hq : hKids ks with
      | nil => rw [hq] at hk; simp only [wtL, wtN, List.length_cons, List.length_nil] at hk ⊢; omega
      | cons b r =>
        rw [hq] at hk
        have h1 := wt_part b params
        have h2 := hPart_len b params
        simp only [wtL_app, wtL, wtN, wtK, List.length_append, List.length_cons, List.length_nil] at hk ⊢
        omega
    simp only [wtL, wtN, List.length_cons, List.length_nil]; omega
theorem wt_list : ∀ l : List Nd, (hList l).length + wtL (hList l) = l.length + wtL l
  | [] => rfl
  | x :: r => by
    have h1 := wt_node x
    have h2 := wt_list r
    simp only [hList, wtL_app, wtL, List.length_append, List.length_cons]
    omega
theorem wt_kids : ∀ ks : List (List Nd), wtK (hKids ks) = wtK ks
  | [] => rfl
  | l :: r => by
    have h1 := wt_list l
    have h2 := wt_kids r
    simp only [hKids, wtK]
    omega
end
theorem wtF_h : ∀ l : List Fl, wtF (l.map hFlow) = wtF l
  | [] => rfl
  | f :: r => by
    have h1 := wt_list f.body
    have h2 := wtF_h r
    simp only [List.map_cons, wtF, r8nodes, hFlow] at h2 ⊢
    omega
theorem weight_h (u : Un) : r8Weight (hUnit u) = r8Weight u := by
  unfold r8Weight
  rw [show (hUnit u).flows = u.flows.map hFlow from rfl, wtF_h, List.length_map]
  rfl
theorem hoistOf_bad {u : Un} (h : (r8Check u).1 ≠ 0) : hoistOf u = (⟨[], []⟩, 1) := by
  have : ((shCheck u).1 == 0) = false := by rw [shCheck_eq]; simpa using h
  simp [hoistOf, this]
theorem hoistOf_good {u : Un} (h : (r8Check u).1 = 0) : hoistOf u = (hUnit u, 0) := by
  have : ((shCheck u).1 == 0) = true := by rw [shCheck_eq]; simpa using h
  simp [hoistOf, this]
theorem hoistOf_weight (u : Un) : r8Weight (hoistOf u).1 ≤ r8Weight u := by
  unfold hoistOf
  split
  · rw [weight_h]; exact Nat.le_refl _
  · simp [r8Weight, wtA, wtF]
theorem same_empty : r8Same ⟨[], []⟩ ⟨[], []⟩ = true := rfl
def fIdle (x : Nd) : Bool := decide (x.kind ≤ 3) || (x.kind == 4 && x.op != 4 && x.op != 5)
def fAny (l m : List Int) : Bool := l.any fun v => m.any fun w => v == w
def fHead (x : Nd) : Bool := x.kind == 11 && (match x.kids with
  | [y :: _] => fIdle y && !fAny y.args x.params
  | _ => false)
mutual
def fineN : Nd → Bool
  | .mk kind op n name args outs params ks => !fHead (.mk kind op n name args outs params ks) && fineK ks
def fineL : List Nd → Bool
  | [] => true
  | x :: r => fineN x && fineL r
def fineK : List (List Nd) → Bool
  | [] => true
  | l :: r => fineL l && fineK r
end
theorem fineN_eq (x : Nd) : fineN x = (!fHead x && fineK x.kids) := by cases x; simp [fineN, Nd.kids]
def fRight (u : Un) : Bool := u.flows.all fun f => fineL f.body
set_option maxRecDepth 8000 in
set_option maxHeartbeats 2000000 in
theorem sc_fits (u : Un) (hW : r8Weight u ≤ 536870912) : SC Tryz.prog 9 [.pv u.enc] [] (fun _ => False) (iBool true) [] := by
  refine SC.of Tryz.func9 rfl (lb rfl) fun F ρ w => ?_
  refine Tr.seq <| Tr.region rfl <| WL.cons rfl rfl rfl ((ok_box rfl rfl)) <| cV rfl (oA rfl) <| WL.nil <| Tr.seq <| Tr.region rfl <| cV rfl (ok_load_ept_agg rfl rfl Tryz.underlying25 rfl tS25 (Nat.le_of_ble_eq_true rfl)) <| WL.cons rfl rfl rfl (ok_callq (sc_Hoist u hW hok_valid) ent11 rfl rfl (Subs.refl _ _) rfl) <| cV rfl (oM rfl) <| cV rfl (ok_extract rfl rfl rfl) <| cV rfl (ok_extract rfl rfl rfl) ?_
  refine WL.cons rfl rfl rfl (ok_alloc (k := 103) rfl tZ25 rfl rfl rfl rfl) <| WL.cons0 rfl rfl (ok_store_box_agg rfl rfl rfl rfl rfl ((fun h => h)) tS25 (firmL_ok rfl) (lb rfl)) <| cV rfl (oA rfl) <| WL.nil <| Tr.seq <| Tr.freezeBox (t := 3) (k := 103) rfl rfl rfl <| Tr.heap (σ' := look []) (fun k => by simp only [look]; cases Nat.beq 103 k <;> rfl) <| Tr.region rfl <| cV rfl (ok_load_ept_agg rfl rfl Tryz.underlying25 rfl tS25 (Nat.le_of_ble_eq_true rfl)) <| WL.cons rfl rfl rfl (ok_callq (sc_r8Check u hW) ent19 rfl rfl (Subs.refl _ _) rfl) <| cV rfl (oM rfl) <| cV rfl (ok_extract rfl rfl rfl) ?_
  refine cV rfl (ok_extract rfl rfl rfl) <| cV rfl (oA rfl) <| cV rfl (oA rfl) <| WL.nil <| Tr.seq <| Tr.seq <| Tr.region rfl <| cV rfl (oM rfl) <| cV rfl (oB rfl rfl rfl) <| WL.nil ?_
  refine Tr.cond rfl (fun hc20 => ?_) (fun hc20 => ?_)
  · refine Tr.seq <| Tr.region rfl <| cV rfl (oM rfl) <| cV rfl (oB rfl rfl rfl) <| cV rfl (oM rfl) ?_
    refine WL.split (t := 23) rfl (fun hb23 => ?_) (fun hb23 => ?_)
    · refine yV rfl rfl (ok_load_ept_agg rfl rfl Tryz.underlying25 rfl tS25 (Nat.le_of_ble_eq_true rfl)) <| yV rfl rfl (ok_build_pure rfl rfl tZ25 tP25 rfl (firmB_ok rfl) rfl) <| WL.yes rfl rfl rfl rfl rfl rfl (ok_callq (sc_r8Same (hoistOf u).1 ⟨[], []⟩) ent15 rfl rfl (Subs.same rfl (Subs.cons (fun _ _ _ _ h => empty_unit h) Subs.nil)) rfl) <| cV rfl (oT rfl rfl) <| cV rfl (oA rfl) <| WL.nil <| Tr.ret ?_
      refine ret_ok rfl ?_ no_post
      have hH := hoistOf_bad (u := u) (by simpa using hc20)
      have h1 : ((hoistOf u).2 == 1) = true := by rw [hH]; rfl
      have h2 : r8Same (hoistOf u).1 ⟨[], []⟩ = true := by rw [hH]; exact same_empty
      refine congrArg (fun b => iBool b) ?_
      exact h2
    refine nV rfl rfl <| nV rfl rfl <| nV rfl rfl <| cV rfl (oF rfl rfl) <| cV rfl (oA rfl) <| WL.nil <| Tr.ret ?_
    refine ret_ok rfl ?_ no_post
    have hH := hoistOf_bad (u := u) (by simpa using hc20)
    have h1 : ((hoistOf u).2 == 1) = true := by rw [hH]; rfl
    have h2 : r8Same (hoistOf u).1 ⟨[], []⟩ = true := by rw [hH]; exact same_empty
    refine congrArg (fun b => iBool b) ?_
    simp_all
  refine Tr.skip <| Tr.seq <| Tr.region rfl <| cV rfl (ok_load_ept_agg rfl rfl Tryz.underlying25 rfl tS25 (Nat.le_of_ble_eq_true rfl)) <| WL.cons rfl rfl rfl (ok_callq (sc_r8Check (hoistOf u).1 (Nat.le_trans (hoistOf_weight u) hW)) ent19 rfl rfl (Subs.refl _ _) rfl) <| cV rfl (oM rfl) <| cV rfl (ok_extract rfl rfl rfl) <| cV rfl (ok_extract rfl rfl rfl) <| cV rfl (oA rfl) <| cV rfl (oA rfl) <| WL.nil <| Tr.seq ?_
  refine Tr.region rfl <| cV rfl (oM rfl) <| cV rfl (oB rfl rfl rfl) <| cV rfl (oM rfl) ?_
  refine WL.split (t := 35) rfl (fun hb35 => ?_) (fun hb35 => ?_)
  · refine yV rfl rfl (oM rfl) <| yV rfl rfl (oB rfl rfl rfl) <| cV rfl (oT rfl rfl) <| cV rfl (oM rfl) ?_
    refine WL.split (t := 39) rfl (fun hb39 => ?_) (fun hb39 => ?_)
    · refine yV rfl rfl (ok_load_ept_agg rfl rfl Tryz.underlying25 rfl tS25 (Nat.le_of_ble_eq_true rfl)) <| yV rfl rfl (ok_load_ept_agg rfl rfl Tryz.underlying25 rfl tS25 (Nat.le_of_ble_eq_true rfl)) <| WL.yes rfl rfl rfl rfl rfl rfl (ok_callq (sc_sameHeads u (hoistOf u).1) ent20 rfl rfl (Subs.refl _ _) rfl) <| cV rfl (oT rfl rfl) <| cV rfl (oA rfl) <| WL.nil <| Tr.ret ?_
      refine ret_ok rfl ?_ no_post
      have hz : (r8Check u).1 = 0 := by simpa using hc20
      have hH := hoistOf_good (u := u) hz
      have hK := check_hoist hz
      have hS := sameHeads_hoist (u := u) (by rw [shCheck_eq]; exact hz)
      have h1 : ((hoistOf u).2 == 0) = true := by rw [hH]; rfl
      have h2 : ((r8Check (hoistOf u).1).1 == 0) = true := by rw [hH, hK]; rfl
      have h3 : sameHeads u (hoistOf u).1 = true := by rw [hH]; exact hS
      refine congrArg (fun b => iBool b) ?_
      exact h3
    refine nV rfl rfl <| nV rfl rfl <| nV rfl rfl <| cV rfl (oF rfl rfl) <| cV rfl (oA rfl) <| WL.nil <| Tr.ret ?_
    refine ret_ok rfl ?_ no_post
    have hz : (r8Check u).1 = 0 := by simpa using hc20
    have hH := hoistOf_good (u := u) hz
    have hK := check_hoist hz
    have hS := sameHeads_hoist (u := u) (by rw [shCheck_eq]; exact hz)
    have h1 : ((hoistOf u).2 == 0) = true := by rw [hH]; rfl
    have h2 : ((r8Check (hoistOf u).1).1 == 0) = true := by rw [hH, hK]; rfl
    have h3 : sameHeads u (hoistOf u).1 = true := by rw [hH]; exact hS
    refine congrArg (fun b => iBool b) ?_
    simp_all
  refine nV rfl rfl <| nV rfl rfl <| cV rfl (oF rfl rfl) <| cV rfl (oM rfl) <| nV rfl rfl <| nV rfl rfl <| nV rfl rfl <| cV rfl (oF rfl rfl) <| cV rfl (oA rfl) <| WL.nil <| Tr.ret ?_
  refine ret_ok rfl ?_ no_post
  have hz : (r8Check u).1 = 0 := by simpa using hc20
  have hH := hoistOf_good (u := u) hz
  have hK := check_hoist hz
  have hS := sameHeads_hoist (u := u) (by rw [shCheck_eq]; exact hz)
  have h1 : ((hoistOf u).2 == 0) = true := by rw [hH]; rfl
  have h2 : ((r8Check (hoistOf u).1).1 == 0) = true := by rw [hH, hK]; rfl
  have h3 : sameHeads u (hoistOf u).1 = true := by rw [hH]; exact hS
  refine congrArg (fun b => iBool b) ?_
  simp_all
set_option maxRecDepth 8000 in
set_option maxHeartbeats 2000000 in
theorem sc_idle (x : Nd) : SC Tryz.prog 40 [.pv (ndv x)] [] (fun _ => False) (iBool (fIdle x)) [] := by
  refine SC.of Tryz.func40 rfl (lb rfl) fun F ρ w => ?_
  refine Tr.seq <| Tr.region rfl <| WL.cons rfl rfl rfl ((ok_box rfl rfl)) <| cV rfl (oA rfl) <| WL.nil <| Tr.seq <| Tr.region rfl <| cV rfl (oFe rfl tF42_0) <| cV rfl (oLe Tryz.underlying3 rfl rfl) <| cV rfl (oB rfl rfl rfl) <| cV rfl (oM rfl) ?_
  refine WL.split (t := 6) rfl (fun hb6 => ?_) (fun hb6 => ?_)
  · refine nV rfl rfl <| nV rfl rfl <| nV rfl rfl <| nV rfl rfl <| WL.noU rfl rfl rfl rfl rfl rfl <| WL.noU rfl rfl rfl rfl rfl rfl <| WL.noU rfl rfl rfl rfl rfl rfl <| nV rfl rfl <| nV rfl rfl <| WL.noU rfl rfl rfl rfl rfl rfl <| WL.noU rfl rfl rfl rfl rfl rfl <| WL.noU rfl rfl rfl rfl rfl rfl ?_
    refine nV rfl rfl <| cV rfl (oT rfl rfl) <| cV rfl (oA rfl) <| WL.nil <| Tr.ret ?_
    refine ret_ok rfl ?_ no_post
    refine congrArg (fun b => iBool b) ?_
    simp_all [fIdle]
  refine yV rfl rfl (oFe rfl tF42_0) <| yV rfl rfl (oLe Tryz.underlying3 rfl rfl) <| yV rfl rfl (oB rfl rfl rfl) <| yV rfl rfl (oM rfl) ?_
  refine WL.split (t := 10) rfl (fun hb10 => ?_) (fun hb10 => ?_)
  · refine yV rfl rfl (oFe rfl tF42_1) <| yV rfl rfl (oLe Tryz.underlying3 rfl rfl) <| yV rfl rfl (oB rfl rfl rfl) <| yV rfl rfl (oT rfl rfl) <| yV rfl rfl (oM rfl) ?_
    refine WL.split (t := 15) rfl (fun hb15 => ?_) (fun hb15 => ?_)
    · refine yV rfl rfl (oFe rfl tF42_1) <| yV rfl rfl (oLe Tryz.underlying3 rfl rfl) <| yV rfl rfl (oB rfl rfl rfl) <| yV rfl rfl (oT rfl rfl) <| cV rfl (oF rfl rfl) <| cV rfl (oA rfl) <| WL.nil <| Tr.ret ?_
      refine ret_ok rfl ?_ no_post
      refine congrArg (fun b => iBool b) ?_
      simp_all [fIdle]
    refine nV rfl rfl <| nV rfl rfl <| nV rfl rfl <| yV rfl rfl (oF rfl rfl) <| cV rfl (oF rfl rfl) <| cV rfl (oA rfl) <| WL.nil <| Tr.ret ?_
    refine ret_ok rfl ?_ no_post
    refine congrArg (fun b => iBool b) ?_
    simp_all [fIdle]
  refine nV rfl rfl <| nV rfl rfl <| nV rfl rfl <| yV rfl rfl (oF rfl rfl) <| yV rfl rfl (oM rfl) <| nV rfl rfl <| nV rfl rfl <| nV rfl rfl <| yV rfl rfl (oF rfl rfl) <| cV rfl (oF rfl rfl) <| cV rfl (oA rfl) <| WL.nil ?_
  refine Tr.ret ?_
  refine ret_ok rfl ?_ no_post
  refine congrArg (fun b => iBool b) ?_
  simp_all [fIdle]
set_option maxRecDepth 8000 in
set_option maxHeartbeats 2000000 in
theorem sc_any (l ms : List Int) : SC Tryz.prog 41 [.pv (ints l), .pv (ints ms)] [] (fun _ => False) (iBool (fAny l ms)) [] := by
  refine SC.of Tryz.func41 rfl (lb rfl) fun F ρ w => ?_
  refine Tr.lenOf (t := 0) rfl (fun hl => ?_)
  simp only [List.length_map] at hl
  refine Tr.lenOf (t := 1) rfl (fun hl2 => ?_)
  simp only [List.length_map] at hl2
  refine Tr.seq <| Tr.region rfl <| cV rfl (oA rfl) <| WL.nil <| Tr.seq <| Tr.seq <| Tr.region rfl <| cV rfl (oA rfl) <| WL.nil <| Tr.block <| Tr.sub (Sub.of (fr' := [(5, iInt 0), (0, .pv (ints l)), (1, .pv (ints ms))]) ⟨rfl, rfl, rfl, trivial⟩) ?_
  refine Tr.loop (fun fr σ m => ∃ (k : Nat), (k ≤ l.length) ∧ (fAny l ms = fAny (l.drop k) ms) ∧ fr = [(5, iInt k), (0, .pv (ints l)), (1, .pv (ints ms))] ∧ σ = look [] ∧ m = l.length - k) (n := l.length - 0) ?_ ?_
  · exact ⟨0, Nat.zero_le _, rfl, rfl, rfl, rfl⟩
  rintro fr σ m ⟨k, hI0, hI1, rfl, rfl, rfl⟩
  refine Tr.seq <| Tr.seq <| Tr.region rfl <| cV rfl (oM rfl) <| cV rfl (oM rfl) <| cV rfl (oSm Tryz.underlying35 rfl) <| cV rfl (oB rfl rfl rfl) <| WL.nil ?_
  refine Tr.cond rfl (fun hc10 => ?_) (fun hc10 => ?_)
  · have hlt : k < l.length := by simpa using hc10
    have hd := List.drop_eq_getElem_cons hlt
    have hm := List.getElem_mem hlt
    have hi := map_get (f := eInt) (List.getElem?_eq_getElem hlt)
    generalize l[k] = x at hd hm hi
    refine Tr.skip <| Tr.seq <| Tr.block <| Tr.seq <| Tr.region rfl <| cV rfl (oA rfl) <| WL.nil <| Tr.block ?_
    have hstart : fAny l ms = ((ms.drop 0).any (fun w => x == w) || fAny (l.drop (k + 1)) ms) := by rw [hI1, hd]; rfl
    refine Tr.sub (Sub.of (fr' := [(6, iInt 0), (5, iInt k), (0, .pv (ints l)), (1, .pv (ints ms))]) ⟨rfl, rfl, rfl, rfl, trivial⟩) ?_
    refine Tr.loop (fun fr σ m => ∃ (i : Nat), (i ≤ ms.length) ∧ (fAny l ms = ((ms.drop i).any (fun w => x == w) || fAny (l.drop (k + 1)) ms)) ∧ fr = [(6, iInt i), (5, iInt k), (0, .pv (ints l)), (1, .pv (ints ms))] ∧ σ = look [] ∧ m = ms.length - i) (n := ms.length - 0) ?_ ?_
    · exact ⟨0, Nat.zero_le _, hstart, rfl, rfl, rfl⟩
    rintro fr σ m ⟨i, hJ0, hJ1, rfl, rfl, rfl⟩
    refine Tr.seq <| Tr.seq <| Tr.region rfl <| cV rfl (oM rfl) <| cV rfl (oM rfl) <| cV rfl (oSm Tryz.underlying35 rfl) <| cV rfl (oB rfl rfl rfl) <| WL.nil ?_
    refine Tr.cond rfl (fun hc16 => ?_) (fun hc16 => ?_)
    · have hlt2 : i < ms.length := by simpa using hc16
      have hd2 := List.drop_eq_getElem_cons hlt2
      have hm2 := List.getElem_mem hlt2
      have hi2 := map_get (f := eInt) (List.getElem?_eq_getElem hlt2)
      generalize ms[i] = y at hd2 hm2 hi2
      refine Tr.skip <| Tr.seq <| Tr.block <| Tr.seq <| Tr.still mixed (by kernel_rfl) rfl <| sV rfl (oM rfl) <| sV rfl (oM rfl) <| sV rfl (ok_index_seq rfl rfl rfl Tryz.underlying35 hi tS3 rfl (by rfl)) <| sV rfl (oLe Tryz.underlying3 rfl rfl) <| sV rfl (oM rfl) <| sV rfl (oM rfl) <| sV rfl (ok_index_seq rfl rfl rfl Tryz.underlying35 hi2 tS3 rfl (by rfl)) ?_
      refine sV rfl (oLe Tryz.underlying3 rfl rfl) <| sV rfl (oB rfl rfl rfl) <| WS.nil ?_
      refine Tr.cond rfl (fun hc27 => ?_) (fun hc27 => ?_)
      · refine Tr.seq <| Tr.region rfl <| cV rfl (oA rfl) <| WL.nil <| Tr.ret ?_
        refine ret_ok rfl ?_ no_post
        have hxy : (x == y) = true := by simpa using hc27
        rw [hJ1, hd2]
        simp only [List.any_cons, hxy, Bool.true_or]
      refine Tr.skip <| Tr.region rfl <| cV rfl (oM rfl) <| cV rfl (oB rfl rfl (i64_add rfl (by omega))) <| cV rfl (oA rfl) <| WL.nil ?_
      refine ⟨_, _, ?_, Sub.of (fr' := [(6, iInt (i + 1)), (5, iInt k), (0, .pv (ints l)), (1, .pv (ints ms))]) ⟨rfl, rfl, rfl, rfl, trivial⟩, (i + 1), ?_, ?_, rfl, rfl, rfl⟩
      · omega
      · omega
      rw [hJ1, hd2]
      have hxy : (x == y) = false := by simpa using hc27
      simp only [List.any_cons, hxy, Bool.false_or]
    refine Tr.exit <| Tr.region rfl <| cV rfl (oM rfl) <| cV rfl (oB rfl rfl (i64_add rfl (by omega))) <| cV rfl (oA rfl) <| WL.nil ?_
    refine ⟨_, _, ?_, Sub.of (fr' := [(5, iInt (k + 1)), (0, .pv (ints l)), (1, .pv (ints ms))]) ⟨rfl, rfl, rfl, trivial⟩, (k + 1), ?_, ?_, rfl, rfl, rfl⟩
    · omega
    · omega
    rw [hJ1, List.drop_eq_nil_of_le (by simpa using hc16)]
    rfl
  refine Tr.exit <| Tr.seq <| Tr.region rfl <| cV rfl (oA rfl) <| WL.nil <| Tr.ret ?_
  refine ret_ok rfl ?_ no_post
  have hge : l.length ≤ k := by simpa using hc10
  rw [hI1, List.drop_eq_nil_of_le hge]
  rfl
set_option maxRecDepth 8000 in
set_option maxHeartbeats 2000000 in
theorem sc_fine_aux (N : Nat) : ∀ (l : List Nd), SizeOf.sizeOf l < N → SC Tryz.prog 24 [.pv (nodes l)] [] (fun _ => False) (iBool (fineL l)) [] := by
  induction N with
  | zero => intro l hN; exact absurd hN (Nat.not_lt_zero _)
  | succ N ih =>
    intro l hN
    refine SC.of Tryz.func24 rfl (lb rfl) fun F ρ w => ?_
    refine Tr.lenOf (t := 0) rfl (fun hl => ?_)
    simp only [List.length_map] at hl
    refine Tr.seq <| Tr.region rfl <| cV rfl (oA rfl) <| WL.nil <| Tr.seq <| Tr.seq <| Tr.region rfl <| cV rfl (oA rfl) <| WL.nil <| Tr.block <| Tr.sub (Sub.of (fr' := [(3, iInt 0), (0, .pv (nodes l))]) ⟨rfl, rfl, trivial⟩) ?_
    refine Tr.loop (fun fr σ m => ∃ (k : Nat), (k ≤ l.length) ∧ (fineL l = fineL (l.drop k)) ∧ fr = [(3, iInt k), (0, .pv (nodes l))] ∧ σ = look [] ∧ m = l.length - k) (n := l.length - 0) ?_ ?_
    · exact ⟨0, Nat.zero_le _, rfl, rfl, rfl, rfl⟩
    rintro fr σ m ⟨k, hI0, hI1, rfl, rfl, rfl⟩
    refine Tr.seq <| Tr.seq <| Tr.region rfl <| cV rfl (oM rfl) <| cV rfl (oM rfl) <| cV rfl (oSm Tryz.underlying43 rfl) <| cV rfl (oB rfl rfl rfl) <| WL.nil ?_
    refine Tr.cond rfl (fun hc9 => ?_) (fun hc9 => ?_)
    · have hlt : k < l.length := by simpa using hc9
      have hd := List.drop_eq_getElem_cons hlt
      have hm := List.getElem_mem hlt
      have hi := nodes_get (List.getElem?_eq_getElem hlt)
      generalize l[k] = x at hd hm hi
      refine Tr.skip <| Tr.seq <| Tr.block <| Tr.seq <| Tr.region rfl <| cV rfl (oM rfl) <| cV rfl (oM rfl) <| cV rfl (ok_index_seq rfl rfl rfl Tryz.underlying43 hi tS42 rfl (by rfl)) <| cV rfl (ok_load_ept_agg rfl rfl Tryz.underlying42 rfl tS42 (Nat.le_of_ble_eq_true rfl)) <| WL.cons rfl rfl rfl (ok_alloc (k := 104) rfl tZ42 rfl rfl rfl rfl) <| WL.cons0 rfl rfl (ok_store_box_agg rfl rfl rfl rfl rfl ((fun h => h)) tS42 (firmL_ok rfl) (lb rfl)) <| WL.nil ?_
      refine Tr.seq <| Tr.seq <| Tr.freezeBox (t := 4) (k := 104) rfl rfl rfl <| Tr.heap (σ' := look []) (fun k => by simp only [look]; cases Nat.beq 104 k <;> rfl) ?_
      refine Tr.cut (fr' := [(54, iBool (fHead x)), (4, .pv (.ept [vInt x.kind, vInt x.op, vInt x.n, vStr x.name, ints x.args, ints x.outs, ints x.params, kids x.kids] 0)), (3, iInt k), (0, .pv (nodes l))]) (σ' := look []) ?_ ?_
      · refine Tr.drawn mixed (fun k => k ∈ ([] : List Nat)) <| WA.run (fuel := 15) [0, 1, 2, 3, 4, 5, 6, 7, 8, 9, 10, 11, 12, 13, 14, 15, 16, 17, 18, 19, 20, 21, 22, 23] (by kernel_rfl) ((fun _ _ _ h => pn h.1)) (by kernel_rfl) <| rV rfl rfl (oFe rfl tF42_0) <| rV rfl rfl (oLe Tryz.underlying3 rfl rfl) <| rV rfl rfl (oB rfl rfl rfl) <| rV rfl rfl (oM rfl) ?_
        refine WR.split (t := 19) rfl (fun hb19 => ?_) (fun hb19 => ?_)
        · refine ryV rfl rfl rfl (oFe rfl tF42_7) <| ryV rfl rfl rfl (oLe Tryz.underlying40 rfl rfl) <| ryV rfl rfl rfl (oSm Tryz.underlying40 rfl) <| ryV rfl rfl rfl (oB rfl rfl rfl) <| rV rfl rfl (oT rfl rfl) <| rV rfl rfl (oM rfl) ?_
          refine WR.split (t := 25) rfl (fun hb25 => ?_) (fun hb25 => ?_)
          · obtain ⟨q0, hq0⟩ : ∃ q, x.kids = [q] := List.length_eq_one_iff.1 (by have := hb25; simp at this; omega)
            have hiq : (x.kids.map eKid)[0]? = some [nodes q0] := by rw [hq0]; rfl
            refine ryV rfl rfl rfl (oFe rfl tF42_7) <| ryV rfl rfl rfl (oLe Tryz.underlying40 rfl rfl) <| ryV rfl rfl rfl (ok_index_seq rfl rfl rfl Tryz.underlying40 hiq tS43 rfl (by rfl)) <| ryV rfl rfl rfl (oLe Tryz.underlying43 rfl rfl) <| ryV rfl rfl rfl (oSm Tryz.underlying43 rfl) <| ryV rfl rfl rfl (oB rfl rfl rfl) <| rV rfl rfl (oT rfl rfl) <| rV rfl rfl (oM rfl) ?_
            refine WR.split (t := 33) rfl (fun hb33 => ?_) (fun hb33 => ?_)
            · obtain ⟨y, yr, hy⟩ : ∃ y yr, q0 = y :: yr := List.exists_cons_of_ne_nil (by intro e; simp_all)
              have hiy := nodes_get (l := q0) (i := 0) (x := y) (by rw [hy]; rfl)
              refine ryV rfl rfl rfl (oFe rfl tF42_7) <| ryV rfl rfl rfl (oLe Tryz.underlying40 rfl rfl) <| ryV rfl rfl rfl (ok_index_seq rfl rfl rfl Tryz.underlying40 hiq tS43 rfl (by rfl)) <| ryV rfl rfl rfl (oLe Tryz.underlying43 rfl rfl) <| ryV rfl rfl rfl (ok_index_seq rfl rfl rfl Tryz.underlying43 hiy tS42 rfl (by rfl)) <| ryV rfl rfl rfl (ok_load_ept_agg rfl rfl Tryz.underlying42 rfl tS42 (Nat.le_of_ble_eq_true rfl)) <| WR.nil <| WA.one (i := 24) (by kernel_rfl) <| WI.opYes rfl rfl rfl rfl rfl rfl (by intro t h; cases h <;> rfl) (fun k (h : _) => h.elim) (fun _ h1 h2 => absurd h1 h2) (fun ρ w => ok_callq (sc_idle y) ent40 rfl rfl (Subs.refl _ _) rfl) <| WA.run (fuel := 3) [25, 26, 27, 28, 29, 30, 31, 32, 33, 34, 35] (by kernel_rfl) ((fun _ _ _ h => pn h.1)) (by kernel_rfl) <| rV rfl rfl (oT rfl rfl) <| rV rfl rfl (oM rfl) ?_
              refine WR.split (t := 42) rfl (fun hb42 => ?_) (fun hb42 => ?_)
              · refine ryV rfl rfl rfl (oFe rfl tF42_7) <| ryV rfl rfl rfl (oLe Tryz.underlying40 rfl rfl) <| ryV rfl rfl rfl (ok_index_seq rfl rfl rfl Tryz.underlying40 hiq tS43 rfl (by rfl)) <| ryV rfl rfl rfl (oLe Tryz.underlying43 rfl rfl) <| ryV rfl rfl rfl (ok_index_seq rfl rfl rfl Tryz.underlying43 hiy tS42 rfl (by rfl)) <| ryV rfl rfl rfl (oFe rfl tF42_4) <| ryV rfl rfl rfl (oLe Tryz.underlying35 rfl rfl) <| ryV rfl rfl rfl (oFe rfl tF42_6) <| ryV rfl rfl rfl (oLe Tryz.underlying35 rfl rfl) <| WR.nil <| WA.one (i := 36) (by kernel_rfl) <| WI.opYes rfl rfl rfl rfl rfl rfl (by intro t h; cases h <;> rfl) (fun k (h : _) => h.elim) (fun _ h1 h2 => absurd h1 h2) (fun ρ w => ok_callq (sc_any y.args x.params) ent41 rfl rfl (Subs.refl _ _) rfl) ?_
                refine WA.run (fuel := 0) [37, 38] (by kernel_rfl) ((fun _ _ _ h => pn h.1)) (by kernel_rfl) <| ryV rfl rfl rfl (oN rfl) <| rV rfl rfl (oT rfl rfl) <| WR.nil <| WA.done (by kernel_rfl) ?_
                refine ⟨rfl, Sub.of ⟨?_, rfl, rfl, rfl, trivial⟩, rfl⟩
                refine congrArg (fun b => some (iBool b)) ?_
                unfold fHead
                simp_all
              refine rnV rfl rfl rfl <| rnV rfl rfl rfl <| rnV rfl rfl rfl <| rnV rfl rfl rfl <| rnV rfl rfl rfl <| rnV rfl rfl rfl <| rnV rfl rfl rfl <| rnV rfl rfl rfl <| rnV rfl rfl rfl <| WR.nil <| WA.takeNo (i := 36) (b := false) rfl (by kernel_rfl) (by kernel_rfl) (by kernel_rfl) ((fun _ _ _ h => pn h.1)) rfl rfl rfl rfl rfl rfl <| WA.run (fuel := 0) [37, 38] (by kernel_rfl) ((fun _ _ _ h => pn h.1)) (by kernel_rfl) ?_
              refine rnV rfl rfl rfl <| rV rfl rfl (oF rfl rfl) <| WR.nil <| WA.done (by kernel_rfl) ?_
              refine ⟨rfl, Sub.of ⟨?_, rfl, rfl, rfl, trivial⟩, rfl⟩
              refine congrArg (fun b => some (iBool b)) ?_
              unfold fHead
              simp_all
            refine rnV rfl rfl rfl <| rnV rfl rfl rfl <| rnV rfl rfl rfl <| rnV rfl rfl rfl <| rnV rfl rfl rfl <| rnV rfl rfl rfl <| WR.nil <| WA.takeNo (i := 24) (b := false) rfl (by kernel_rfl) (by kernel_rfl) (by kernel_rfl) ((fun _ _ _ h => pn h.1)) rfl rfl rfl rfl rfl rfl <| WA.run (fuel := 3) [25, 26, 27, 28, 29, 30, 31, 32, 33, 34, 35] (by kernel_rfl) ((fun _ _ _ h => pn h.1)) (by kernel_rfl) <| rV rfl rfl (oF rfl rfl) <| rV rfl rfl (oM rfl) <| rnV rfl rfl rfl ?_
            refine rnV rfl rfl rfl <| rnV rfl rfl rfl <| rnV rfl rfl rfl <| rnV rfl rfl rfl <| rnV rfl rfl rfl <| rnV rfl rfl rfl <| rnV rfl rfl rfl <| rnV rfl rfl rfl <| WR.nil <| WA.takeNo (i := 36) (b := false) rfl (by kernel_rfl) (by kernel_rfl) (by kernel_rfl) ((fun _ _ _ h => pn h.1)) rfl rfl rfl rfl rfl rfl <| WA.run (fuel := 0) [37, 38] (by kernel_rfl) ((fun _ _ _ h => pn h.1)) (by kernel_rfl) <| rnV rfl rfl rfl ?_
            refine rV rfl rfl (oF rfl rfl) <| WR.nil <| WA.done (by kernel_rfl) ?_
            refine ⟨rfl, Sub.of ⟨?_, rfl, rfl, rfl, trivial⟩, rfl⟩
            refine congrArg (fun b => some (iBool b)) ?_
            unfold fHead
            simp_all
          refine rnV rfl rfl rfl <| rnV rfl rfl rfl <| rnV rfl rfl rfl <| rnV rfl rfl rfl <| rnV rfl rfl rfl <| rnV rfl rfl rfl <| rV rfl rfl (oF rfl rfl) <| rV rfl rfl (oM rfl) <| rnV rfl rfl rfl <| rnV rfl rfl rfl <| rnV rfl rfl rfl <| rnV rfl rfl rfl ?_
          refine rnV rfl rfl rfl <| rnV rfl rfl rfl <| WR.nil <| WA.takeNo (i := 24) (b := false) rfl (by kernel_rfl) (by kernel_rfl) (by kernel_rfl) ((fun _ _ _ h => pn h.1)) rfl rfl rfl rfl rfl rfl <| WA.run (fuel := 3) [25, 26, 27, 28, 29, 30, 31, 32, 33, 34, 35] (by kernel_rfl) ((fun _ _ _ h => pn h.1)) (by kernel_rfl) <| rV rfl rfl (oF rfl rfl) <| rV rfl rfl (oM rfl) <| rnV rfl rfl rfl <| rnV rfl rfl rfl <| rnV rfl rfl rfl <| rnV rfl rfl rfl <| rnV rfl rfl rfl ?_
          refine rnV rfl rfl rfl <| rnV rfl rfl rfl <| rnV rfl rfl rfl <| rnV rfl rfl rfl <| WR.nil <| WA.takeNo (i := 36) (b := false) rfl (by kernel_rfl) (by kernel_rfl) (by kernel_rfl) ((fun _ _ _ h => pn h.1)) rfl rfl rfl rfl rfl rfl <| WA.run (fuel := 0) [37, 38] (by kernel_rfl) ((fun _ _ _ h => pn h.1)) (by kernel_rfl) <| rnV rfl rfl rfl <| rV rfl rfl (oF rfl rfl) <| WR.nil <| WA.done (by kernel_rfl) ?_
          refine ⟨rfl, Sub.of ⟨?_, rfl, rfl, rfl, trivial⟩, rfl⟩
          refine congrArg (fun b => some (iBool b)) ?_
          unfold fHead
          (rcases hxk : x.kids with _ | ⟨_ | ⟨y', r'⟩, _ | ⟨q', r''⟩⟩ <;> simp_all; done)
        refine rnV rfl rfl rfl <| rnV rfl rfl rfl <| rnV rfl rfl rfl <| rnV rfl rfl rfl <| rV rfl rfl (oF rfl rfl) <| rV rfl rfl (oM rfl) <| rnV rfl rfl rfl <| rnV rfl rfl rfl <| rnV rfl rfl rfl <| rnV rfl rfl rfl <| rnV rfl rfl rfl <| rnV rfl rfl rfl ?_
        refine rV rfl rfl (oF rfl rfl) <| rV rfl rfl (oM rfl) <| rnV rfl rfl rfl <| rnV rfl rfl rfl <| rnV rfl rfl rfl <| rnV rfl rfl rfl <| rnV rfl rfl rfl <| rnV rfl rfl rfl <| WR.nil <| WA.takeNo (i := 24) (b := false) rfl (by kernel_rfl) (by kernel_rfl) (by kernel_rfl) ((fun _ _ _ h => pn h.1)) rfl rfl rfl rfl rfl rfl <| WA.run (fuel := 3) [25, 26, 27, 28, 29, 30, 31, 32, 33, 34, 35] (by kernel_rfl) ((fun _ _ _ h => pn h.1)) (by kernel_rfl) <| rV rfl rfl (oF rfl rfl) ?_
        refine rV rfl rfl (oM rfl) <| rnV rfl rfl rfl <| rnV rfl rfl rfl <| rnV rfl rfl rfl <| rnV rfl rfl rfl <| rnV rfl rfl rfl <| rnV rfl rfl rfl <| rnV rfl rfl rfl <| rnV rfl rfl rfl <| rnV rfl rfl rfl <| WR.nil <| WA.takeNo (i := 36) (b := false) rfl (by kernel_rfl) (by kernel_rfl) (by kernel_rfl) ((fun _ _ _ h => pn h.1)) rfl rfl rfl rfl rfl rfl ?_
        refine WA.run (fuel := 0) [37, 38] (by kernel_rfl) ((fun _ _ _ h => pn h.1)) (by kernel_rfl) <| rnV rfl rfl rfl <| rV rfl rfl (oF rfl rfl) <| WR.nil <| WA.done (by kernel_rfl) ?_
        refine ⟨rfl, Sub.of ⟨?_, rfl, rfl, rfl, trivial⟩, rfl⟩
        refine congrArg (fun b => some (iBool b)) ?_
        unfold fHead
        simp_all
      refine Tr.cond rfl (fun hc54 => ?_) (fun hc54 => ?_)
      · refine Tr.seq <| Tr.region rfl <| cV rfl (oA rfl) <| WL.nil <| Tr.ret ?_
        refine ret_ok rfl ?_ no_post
        have hf : fHead x = true := hc54
        rw [hI1, hd]
        simp only [fineL, fineN_eq, hf, Bool.not_true, Bool.false_and]
      refine Tr.skip <| Tr.seq ?_
      have hf : fHead x = false := hc54
      refine Tr.region rfl <| cV rfl (oA rfl) <| WL.nil <| Tr.block <| Tr.sub (Sub.of (fr' := [(5, iInt 0), (4, .pv (.ept [vInt x.kind, vInt x.op, vInt x.n, vStr x.name, ints x.args, ints x.outs, ints x.params, kids x.kids] 0)), (3, iInt k), (0, .pv (nodes l))]) ⟨rfl, rfl, rfl, rfl, trivial⟩) ?_
      refine Tr.loop (fun fr σ m => ∃ (i : Nat), (i ≤ x.kids.length) ∧ (fineK x.kids = fineK (x.kids.drop i)) ∧ fr = [(5, iInt i), (4, .pv (.ept [vInt x.kind, vInt x.op, vInt x.n, vStr x.name, ints x.args, ints x.outs, ints x.params, kids x.kids] 0)), (3, iInt k), (0, .pv (nodes l))] ∧ σ = look [] ∧ m = x.kids.length - i) (n := x.kids.length - 0) ?_ ?_
      · exact ⟨0, Nat.zero_le _, rfl, rfl, rfl, rfl⟩
      rintro fr σ m ⟨i, hJ0, hJ1, rfl, rfl, rfl⟩
      refine Tr.seq <| Tr.seq <| Tr.region rfl <| cV rfl (oM rfl) <| cV rfl (oFe rfl tF42_7) <| cV rfl (oLe Tryz.underlying40 rfl rfl) ?_
      refine WL.lenOf (t := 57) rfl (fun hl2 => ?_)
      simp only [List.length_map] at hl2
      refine cV rfl (oSm Tryz.underlying40 rfl) <| cV rfl (oB rfl rfl rfl) <| WL.nil ?_
      refine Tr.cond rfl (fun hc59 => ?_) (fun hc59 => ?_)
      · have hlt2 : i < x.kids.length := by simpa using hc59
        have hd2 := List.drop_eq_getElem_cons hlt2
        have hm2 := List.getElem_mem hlt2
        have hi2 := map_get (f := eKid) (List.getElem?_eq_getElem hlt2)
        generalize x.kids[i] = q at hd2 hm2 hi2
        have hdec : SizeOf.sizeOf q < N := Nat.lt_of_lt_of_le (kid_lt hm rfl hm2) (Nat.le_of_lt_succ hN)
        refine Tr.skip <| Tr.seq <| Tr.block <| Tr.seq <| Tr.region rfl <| cV rfl (oFe rfl tF42_7) <| cV rfl (oLe Tryz.underlying40 rfl rfl) <| cV rfl (oM rfl) <| cV rfl (ok_index_seq rfl rfl rfl Tryz.underlying40 hi2 tS43 rfl (by rfl)) <| cV rfl (oLe Tryz.underlying43 rfl rfl) <| WL.cons rfl rfl rfl (ok_callq (ih q hdec) ent24 rfl rfl (Subs.refl _ _) rfl) <| cV rfl (oN rfl) ?_
        refine WL.nil ?_
        refine Tr.cond rfl (fun hc68 => ?_) (fun hc68 => ?_)
        · refine Tr.seq <| Tr.region rfl <| cV rfl (oA rfl) <| WL.nil <| Tr.ret ?_
          refine ret_ok rfl ?_ no_post
          have hq : fineL q = false := by simpa using hc68
          rw [hI1, hd]
          simp only [fineL, fineN_eq, hJ1, hd2, fineK, hq, Bool.false_and, Bool.and_false]
        refine Tr.skip <| Tr.region rfl <| cV rfl (oM rfl) <| cV rfl (oB rfl rfl (i64_add rfl (by omega))) <| cV rfl (oA rfl) <| WL.nil ?_
        refine ⟨_, _, ?_, Sub.of (fr' := [(5, iInt (i + 1)), (4, .pv (.ept [vInt x.kind, vInt x.op, vInt x.n, vStr x.name, ints x.args, ints x.outs, ints x.params, kids x.kids] 0)), (3, iInt k), (0, .pv (nodes l))]) ⟨rfl, rfl, rfl, rfl, trivial⟩, (i + 1), ?_, ?_, rfl, rfl, rfl⟩
        · omega
        · omega
        rw [hJ1, hd2]
        have hq : fineL q = true := by simpa using hc68
        simp only [fineK, hq, Bool.true_and]
      have hxf : fineN x = true := by
        have hge : x.kids.length ≤ i := by simpa using hc59
        rw [fineN_eq, hf, hJ1, List.drop_eq_nil_of_le hge]
        rfl
      refine Tr.exit <| Tr.region rfl <| cV rfl (oM rfl) <| cV rfl (oB rfl rfl (i64_add rfl (by omega))) <| cV rfl (oA rfl) <| WL.nil ?_
      refine ⟨_, _, ?_, Sub.of (fr' := [(3, iInt (k + 1)), (0, .pv (nodes l))]) ⟨rfl, rfl, trivial⟩, (k + 1), ?_, ?_, rfl, rfl, rfl⟩
      · omega
      · omega
      rw [hI1, hd]
      simp only [fineL, hxf, Bool.true_and]
    refine Tr.exit <| Tr.seq <| Tr.region rfl <| cV rfl (oA rfl) <| WL.nil <| Tr.ret ?_
    refine ret_ok rfl ?_ no_post
    have hge : l.length ≤ k := by simpa using hc9
    rw [hI1, List.drop_eq_nil_of_le hge]
    rfl
theorem sc_fine (l : List Nd) : SC Tryz.prog 24 [.pv (nodes l)] [] (fun _ => False) (iBool (fineL l)) [] := sc_fine_aux _ l (Nat.lt_succ_self _)
set_option maxRecDepth 8000 in
set_option maxHeartbeats 2000000 in
theorem sc_right (u : Un) : SC Tryz.prog 12 [.pv u.enc] [] (fun _ => False) (iBool (fRight u)) [] := by
  refine SC.of Tryz.func12 rfl (lb rfl) fun F ρ w => ?_
  refine Tr.seq <| Tr.region rfl <| WL.cons rfl rfl rfl ((ok_box rfl rfl)) <| cV rfl (oA rfl) <| WL.nil <| Tr.seq <| Tr.seq <| Tr.region rfl <| cV rfl (oA rfl) <| WL.nil <| Tr.block <| Tr.sub (Sub.of (fr' := [(3, iInt 0), (1, .pv (.ept [arrs u.arrays, flws u.flows] 0))]) ⟨rfl, rfl, trivial⟩) ?_
  refine Tr.loop (fun fr σ m => ∃ (k : Nat), (k ≤ u.flows.length) ∧ (fRight u = (u.flows.drop k).all (fun f => fineL f.body)) ∧ fr = [(3, iInt k), (1, .pv (.ept [arrs u.arrays, flws u.flows] 0))] ∧ σ = look [] ∧ m = u.flows.length - k) (n := u.flows.length - 0) ?_ ?_
  · exact ⟨0, Nat.zero_le _, rfl, rfl, rfl, rfl⟩
  rintro fr σ m ⟨k, hI0, hI1, rfl, rfl, rfl⟩
  refine Tr.seq <| Tr.seq <| Tr.region rfl <| cV rfl (oM rfl) <| cV rfl (oFe rfl tF25_1) <| cV rfl (oLe Tryz.underlying23 rfl rfl) ?_
  refine WL.lenOf (t := 6) rfl (fun hl2 => ?_)
  simp only [List.length_map] at hl2
  refine cV rfl (oSm Tryz.underlying23 rfl) <| cV rfl (oB rfl rfl rfl) <| WL.nil ?_
  refine Tr.cond rfl (fun hc8 => ?_) (fun hc8 => ?_)
  · have hlt : k < u.flows.length := by simpa using hc8
    have hd := List.drop_eq_getElem_cons hlt
    have hm := List.getElem_mem hlt
    have hi := map_get (f := Fl.enc) (List.getElem?_eq_getElem hlt)
    generalize u.flows[k] = x at hd hm hi
    refine Tr.skip <| Tr.seq <| Tr.block <| Tr.seq <| Tr.region rfl <| cV rfl (oFe rfl tF25_1) <| cV rfl (oLe Tryz.underlying23 rfl rfl) <| cV rfl (oM rfl) <| cV rfl (ok_index_seq rfl rfl rfl Tryz.underlying23 hi tS51 rfl (by rfl)) <| cV rfl (oFe rfl tF51_4) <| cV rfl (oLe Tryz.underlying43 rfl rfl) <| WL.cons rfl rfl rfl (ok_callq (sc_fine x.body) ent24 rfl rfl (Subs.refl _ _) rfl) ?_
    refine cV rfl (oN rfl) <| WL.nil ?_
    refine Tr.cond rfl (fun hc18 => ?_) (fun hc18 => ?_)
    · refine Tr.seq <| Tr.region rfl <| cV rfl (oA rfl) <| WL.nil <| Tr.ret ?_
      refine ret_ok rfl ?_ no_post
      have hq : fineL x.body = false := by simpa using hc18
      rw [hI1, hd]
      simp only [List.all_cons, hq, Bool.false_and]
    refine Tr.skip <| Tr.region rfl <| cV rfl (oM rfl) <| cV rfl (oB rfl rfl (i64_add rfl (by omega))) <| cV rfl (oA rfl) <| WL.nil ?_
    refine ⟨_, _, ?_, Sub.of (fr' := [(3, iInt (k + 1)), (1, .pv (.ept [arrs u.arrays, flws u.flows] 0))]) ⟨rfl, rfl, trivial⟩, (k + 1), ?_, ?_, rfl, rfl, rfl⟩
    · omega
    · omega
    rw [hI1, hd]
    have hq : fineL x.body = true := by simpa using hc18
    simp only [List.all_cons, hq, Bool.true_and]
  refine Tr.exit <| Tr.seq <| Tr.region rfl <| cV rfl (oA rfl) <| WL.nil <| Tr.ret ?_
  refine ret_ok rfl ?_ no_post
  have hge : u.flows.length ≤ k := by simpa using hc8
  rw [hI1, List.drop_eq_nil_of_le hge]
  rfl
set_option maxRecDepth 8000 in
set_option maxHeartbeats 2000000 in
theorem sc_unit15 (ts : List Int) (l : List Nd) : SC Tryz.prog 16 [.pv (ints ts), .pv (nodes l)] [] (fun _ => False) (.pv (.agg [.val (.slice none 0 0), flws [⟨mainName, 1, 0, ts, l⟩]])) [] := by
  refine SC.ofC Tryz.func16 rfl (lb rfl) rfl fun F ρ w => ?_
  refine Tr.seq <| Tr.region rfl <| WL.cons rfl rfl rfl (ok_alloc (k := 104) rfl tZ25 rfl rfl rfl rfl) <| WL.nil <| Tr.seq <| Tr.region rfl <| cV rfl (oM rfl) <| cV rfl (oM rfl) <| cV rfl (ok_build_pure rfl rfl tZ51 tP51 rfl (firmB_ok rfl) rfl) <| WL.cons rfl rfl rfl (ok_buildSlice rfl rfl Tryz.underlying23 tZ51 tS51 rfl rfl rfl rfl (firmB_ok rfl) rfl) <| cV rfl (ok_build_pure rfl rfl tZ25 tP25 rfl (firmB_ok rfl) rfl) <| WL.cons0 rfl rfl (ok_store_box_agg rfl rfl rfl rfl rfl ((fun h => h)) tS25 (firmL_ok rfl) (lb rfl)) ?_
  refine WL.nil <| Tr.ret ?_
  refine retC_ok (.inl rfl) (fun _ _ ho => ok_load_box_pure ho rfl rfl Tryz.underlying25 rfl tS25 (lb rfl) rfl trivial) ?_ no_post
  rfl
def w64 (n : Int) : Int := IntKind.i64.wrap n
def andI (a b : Int) : Int := IntKind.i64.wrap (BitVec.ofInt IntKind.i64.bits a &&& BitVec.ofInt IntKind.i64.bits b).toNat
def orI (a b : Int) : Int := IntKind.i64.wrap (BitVec.ofInt IntKind.i64.bits a ||| BitVec.ofInt IntKind.i64.bits b).toNat
def xorI (a b : Int) : Int := IntKind.i64.wrap (BitVec.ofInt IntKind.i64.bits a ^^^ BitVec.ofInt IntKind.i64.bits b).toNat
def mFlag (b : Bool) : Int := if b then 1 else 0
def mOne (op a : Int) : Int :=
  if op == 20 then w64 (0 - a) else if op == 21 then w64 (-1 - a) else if op == 22 then mFlag (a == 0)
  else if op == 26 then andI a 255 else if op == 27 then andI a 65535 else if op == 28 then andI a 4294967295
  else if op == 23 then w64 (xorI (andI a 255) 128 - 128) else if op == 24 then w64 (xorI (andI a 65535) 32768 - 32768)
  else if op == 25 then w64 (xorI (andI a 4294967295) 2147483648 - 2147483648) else 0
def mTwo (op a b : Int) : Int × Bool :=
  if op == 1 then (w64 (a + b), true) else if op == 2 then (w64 (a - b), true) else if op == 3 then (w64 (a * b), true)
  else if op == 4 || op == 5 then (if b == 0 then (0, false) else if op == 4 then (w64 (a.tdiv b), true) else (a.tmod b, true))
  else if op == 6 then (andI a b, true) else if op == 7 then (orI a b, true) else if op == 8 then (xorI a b, true)
  else if op == 9 then (w64 (a * 2 ^ min (andI b 63).toNat IntKind.i64.bits), true) else if op == 10 then (a.fdiv (2 ^ min (andI b 63).toNat IntKind.i64.bits), true)
  else if op == 11 then (w64 ((IntKind.u64.wrap a).fdiv (2 ^ min (andI b 63).toNat IntKind.u64.bits)), true)
  else if op == 12 then (mFlag (decide (a < b)), true) else if op == 13 then (mFlag (decide (a ≤ b)), true) else if op == 14 then (mFlag (decide (a > b)), true)
  else if op == 15 then (mFlag (decide (a ≥ b)), true) else if op == 16 then (mFlag (a == b), true) else if op == 17 then (mFlag (a != b), true) else (0, false)
theorem and63 (b : Int) : 0 ≤ andI b 63 := by
  unfold andI
  have h : (BitVec.ofInt IntKind.i64.bits b &&& BitVec.ofInt IntKind.i64.bits 63).toNat ≤ 63 := by
    rw [BitVec.toNat_and]
    have : (BitVec.ofInt IntKind.i64.bits 63).toNat = 63 := by decide
    rw [this]
    exact Nat.and_le_right
  rw [IntWalk.i64_in _ (by omega)]
  omega
/-- What a run has. -/
structure Rs where
  ins : List Int
  ar : List (List Int)
  st : Int
  code : Int
  out : List Int
  cost : Int
  fuel : Int
  spent : Bool
def mOver (s : Rs) : Bool := s.spent || s.st != 0
def mStep (s : Rs) : Bool × Rs := if mOver s then (false, s) else if s.fuel < 1 then (false, { s with spent := true }) else (true, { s with fuel := w64 (s.fuel - 1) })
def getV (v : List Int) (i : Int) : Option Int := if 0 ≤ i then v[i.toNat]? else none
def setV (v : List Int) (i x : Int) : Option (List Int) := if 0 ≤ i ∧ i.toNat < v.length then some (v.set i.toNat x) else none
def mOf (v : List Int) : List Int → Option (List Int)
  | [] => some []
  | i :: r => (getV v i).bind fun x => (mOf v r).map fun y => x :: y
def mSet (v : List Int) : List Int → List Int → Option (List Int)
  | [], _ => some v
  | _ :: _, [] => none
  | i :: r, x :: n => (setV v i x).bind fun v' => mSet v' r n
def mCell (s : Rs) (k n : Int) : Option (Bool × Rs) :=
  if n < 0 then some (false, { s with st := 3 })
  else if 0 ≤ k then (s.ar[k.toNat]?).bind fun row => if n ≥ row.length then some (false, { s with st := 3 }) else some (true, s) else none
abbrev Rend := Int × List Int
abbrev Rres := Rend × List Int × Rs
/-- What a node that is no list's end does, of what the others do. -/
def mNode (rec : List Nd → List Int → Rs → Option Rres) (recLoop : Nd → List Int → List Int → Rs → Option Rres) (recSum : Nd → List Int → Rs → Option (Int × Rs)) (x : Nd) (a v : List Int) (s : Rs) : Option Rres :=
  if x.kind == 1 || x.kind == 2 then (x.outs[0]?).bind fun o => (setV v o x.n).map fun v' => ((0, []), v', s)
  else if x.kind == 12 || x.kind == 13 || x.kind == 14 || x.kind == 15 then some ((x.kind, a), v, s)
  else if x.kind == 10 then (a[0]?).bind fun a0 => (x.kids[if a0 != 0 then 0 else 1]?).bind fun q => (rec q v s).bind fun r =>
    if !mOver r.2.2 && r.1.1 == 12 then (mSet r.2.1 x.outs r.1.2).map fun v' => ((0, []), v', r.2.2) else some r
  else if x.kind == 11 then recLoop x v a s
  else (recSum x a s).bind fun r => if !mOver r.2 && decide (0 < x.outs.length) then (x.outs[0]?).bind fun o => (setV v o r.1).map fun v' => ((0, []), v', r.2) else some ((0, []), v, r.2)
mutual
def mList (u : Un) : Nat → List Nd → List Int → Rs → Option Rres
  | 0, _, _, _ => none
  | _ + 1, [], v, s => some ((0, []), v, s)
  | d + 1, x :: l, v, s =>
    match mStep s with
    | (false, s) => some ((0, []), v, s)
    | (true, s) => (mOf v x.args).bind fun a => (mNode (mList u d) (mLoop u d) (mSum u d) x a v s).bind fun r =>
      if mOver r.2.2 || r.1.1 != 0 then some r else mList u d l r.2.1 r.2.2
def mLoop (u : Un) : Nat → Nd → List Int → List Int → Rs → Option Rres
  | 0, _, _, _, _ => none
  | d + 1, x, v, a, s => (mSet v x.params a).bind fun v => (x.kids[0]?).bind fun q => (mList u d q v s).bind fun r =>
    if mOver r.2.2 || r.1.1 == 15 then some r
    else if r.1.1 == 14 then (mSet r.2.1 x.outs r.1.2).map fun v => ((0, []), v, r.2.2)
    else mLoop u d x r.2.1 r.1.2 r.2.2
def mSum (u : Un) : Nat → Nd → List Int → Rs → Option (Int × Rs)
  | 0, _, _, _ => none
  | d + 1, x, a, s0 =>
    let s := { s0 with cost := w64 (s0.cost + 1) }
    let k := r8Array x.name u.arrays 0
    if x.kind == 3 then (a[0]?).map fun a0 => (mOne x.op a0, s)
    else if x.kind == 4 then (a[0]?).bind fun a0 => (a[1]?).map fun a1 => ((mTwo x.op a0 a1).1, if (mTwo x.op a0 a1).2 then s else { s with st := 2 })
    else if x.kind == 5 then (a[0]?).bind fun a0 => (mCell s k a0).bind fun r => if r.1 then (s.ar[k.toNat]?).bind fun row => (row[a0.toNat]?).map fun y => (y, s) else some (0, r.2)
    else if x.kind == 6 then (a[0]?).bind fun a0 => (mCell s k a0).bind fun r => if r.1 then (a[1]?).bind fun a1 => (s.ar[k.toNat]?).map fun row => (0, { s with ar := s.ar.set k.toNat (row.set a0.toNat a1) }) else some (0, r.2)
    else if x.kind == 7 then mCall u d (r8Place x.name u.flows 0) a s
    else if x.kind == 9 then (a[0]?).bind fun a0 => if s.out.length < 1073741824 then some (0, { s with out := s.out ++ [a0] }) else none
    else if x.kind == 8 then (match s.ins with | [] => some (0, { s with st := 4 }) | y :: r => some (y, { s with ins := r }))
    else some (0, s)
def mCall (u : Un) : Nat → Int → List Int → Rs → Option (Int × Rs)
  | 0, _, _, _ => none
  | d + 1, k, a, s => if 0 ≤ k then (u.flows[k.toNat]?).bind fun f => if a.length ≤ f.types.length ∧ f.types.length ≤ 1073741824 then
      (mList u d f.body (a ++ List.replicate (f.types.length - a.length) 0) s).bind fun r => if mOver r.2.2 then some (0, r.2.2) else some (r.1.2.headD 0, r.2.2) else none else none
end
def runBox (u : Un) (s : Rs) : HO := .box [.pv (arrs u.arrays), .pv (flws u.flows), .pv (ints s.ins), .pv (.val (.slice none 0 0)), iInt s.st, iInt s.code, .sl 1002 (s.out.map eInt).length, iInt s.cost, iInt s.fuel, iBool s.spent]
def rowI (l : List Int) : HO := .row ⟨3, 1⟩ (l.map eInt)
def runH (u : Un) (s : Rs) : List (Nat × HO) := [(1001, runBox u s), (1002, rowI s.out)]
def runV (u : Un) (s : Rs) (v : List Int) : List (Nat × HO) := [(1001, runBox u s), (1002, rowI s.out), (510, rowI v)]
def endv (e : Rend) : PV := .agg [vInt e.1, ints e.2]
end Go.Proofs.YtfaeemilgahcpaaGreat
