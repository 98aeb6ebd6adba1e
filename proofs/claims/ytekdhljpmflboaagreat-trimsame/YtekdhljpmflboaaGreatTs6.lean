/- Units by numbers: the same unit gives the same by trim, each time, and what comes out may be given again. No conditions. -/
import Derived.Test.YtekdhljpmflboaaGreatTs5
set_option maxRecDepth 8000
set_option maxHeartbeats 2000000
set_option linter.unusedSimpArgs false
set_option linter.unusedVariables false
set_option linter.unusedSectionVars false
namespace Go.Proofs.YtekdhljpmflboaaGreat
open Go
theorem y9y (u : Un) (hW : z1f u <= 536870912) : SC Tryz.prog 37 [.pv u.enc] [] (fun _ => False) (iBool (z4q u)) [] := by
  refine SC.of Tryz.func37 rfl (lb rfl) fun F ρ w => ?_
  have hW2 : z1f u = u.arrays.length + u.flows.length + wtA u.arrays + wtF u.flows := rfl
  have hW3 : (u.arrays.length : Int) + u.flows.length <= 536870912 := by omega
  refine tQ <| tG <| cE rfl (z1y rfl rfl) <| sm 1 rfl <| nL <| tQ <| tG <| cE rfl (zs9 (k := 109) rfl rfl rfl rfl rfl) <| sm 1 rfl <| nL <| tQ <| tQ ?_
  refine tG <| sm 2 rfl ?_
  refine WL.lenOf (t := 11) rfl (fun hl1 => ?_)
  simp only [List.length_map] at hl1
  refine cV rfl (oSm uT22 rfl) <| sm 1 rfl <| nL <| tBk <| Tr.sub (Sub.of (fr' := [(13, iInt 0), (12, iInt u.arrays.length), (11, .pv (arrs u.arrays)), (3, .mp 109), (1, .pv (.ept [arrs u.arrays, flws u.flows] 0))]) ⟨rfl, rfl, rfl, rfl, rfl, trivial⟩) ?_
  refine Tr.loop (fun fr σ m => ∃ (k : Nat) (es : List (Value × PV)), (k <= u.arrays.length) /\ (u.arrays.all z7y = (u.arrays.drop k).all z7y) /\ (zf5 [] u.arrays = zf5 es (u.arrays.drop k)) /\ (Cnt es) /\ fr = [(13, iInt k), (12, iInt u.arrays.length), (11, .pv (arrs u.arrays)), (3, .mp 109), (1, .pv (.ept [arrs u.arrays, flws u.flows] 0))] /\ σ = look [(109, some (.map es))] /\ m = u.arrays.length - k) (n := u.arrays.length - 0) ?_ ?_
  ·exact ⟨0, [], Nat.zero_le _, rfl, rfl, Cnt.nil, rfl, rfl, rfl⟩
  rintro fr σ m ⟨k, es, hI0, hI1, hI2, hI3, rfl, rfl, rfl⟩
  refine tQ <| tG <| sm 1 rfl <| nL <| tQ ?_
  refine tC rfl (fun hc14 => ?_) fun hc14 => ?_
  ·have hlt : k < u.arrays.length := by simpa using hc14
   have hd := List.drop_eq_getElem_cons hlt
   have hm := List.getElem_mem hlt
   have hi := z0d (f := Ar.enc) (List.getElem?_eq_getElem hlt)
   generalize u.arrays[k] = x at hd hm hi
   refine tSk <| tQ <| tBk <| tQ <| tG <| cV rfl (iSq rfl rfl rfl uT22 hi tS49 rfl (by rfl)) <| cV rfl (lEA rfl rfl Tryz.underlying49 rfl tS49 (lb rfl)) <| cE rfl (aLc (k := 105) rfl tZ49 rfl rfl rfl rfl) <| c0 (sBA rfl rfl rfl rfl rfl ((fun h => h)) tS49 (flk rfl) (lb rfl)) <| nL <| tQ <| Tr.freezeBox (t := 5) (k := 105) rfl rfl rfl ?_
   refine Tr.heap (σ' := look [(109, some (.map es))]) (fun k => by
     simp only [look]
     by_cases h : 105 = k
     · subst h; rfl
     · simp [z12 h]) ?_
   obtain ⟨n, hn⟩ := hI3.find (.string x.name)
   have hbump := zu5 hn
   have hes := hI3.1
   refine tG <| sm 3 rfl <| cV rfl (zm2 rfl rfl rfl rfl Tryz.underlying95 uT9 rfl (by assumption) tZ3 trivial) <| WL.sub (Sub.of (fr' := [(20, iInt n), (19, iStr x.name), (17, .mp 109), (5, .pv (.ept [vStr x.name, vInt x.size] 0)), (13, iInt k), (12, iInt u.arrays.length), (11, .pv (arrs u.arrays)), (3, .mp 109), (1, .pv (.ept [arrs u.arrays, flws u.flows] 0))]) ⟨congrArg (fun p => some (IV.pv p)) hn, rfl, rfl, rfl, rfl, rfl, rfl, rfl, rfl, trivial⟩) <| sm 1 rfl <| c0 (z8d rfl rfl rfl rfl rfl ((fun h => h)) Tryz.underlying95 uT9 rfl (by assumption)) <| nL <| tQ <| tG <| sm 2 rfl <| cE rfl (ocq (y1j _) ent59 rfl rfl) <| sm 2 rfl ?_
   refine wS 26 rfl (fun hb26 => ?_) fun hb26 => ?_
   ·refine sm 9 rfl <| nL <| Tr.condT rfl <| tQ <| tG <| sm 1 rfl <| nL <| tRt <| rOk rfl ?_ nPo
    have hx : z7y x = false := by
      clear hd hm hi hI1 hI2 hn
      simp_all [z7y]
    have hA : u.arrays.all z7y = false := by rw [hI1, hd]; simp only [List.all_cons, hx, Bool.false_and]
    simp only [z4q, hA, Bool.false_and]
   refine sm 5 rfl ?_
   refine wS 31 rfl (fun hb31 => ?_) fun hb31 => ?_
   ·refine sm 4 rfl <| nL <| Tr.condT rfl <| tQ <| tG <| sm 1 rfl <| nL <| tRt <| rOk rfl ?_ nPo
    have hx : z7y x = false := by
      clear hd hm hi hI1 hI2 hn
      simp_all [z7y]
    have hA : u.arrays.all z7y = false := by rw [hI1, hd]; simp only [List.all_cons, hx, Bool.false_and]
    simp only [z4q, hA, Bool.false_and]
   refine sm 4 rfl <| nL ?_
   refine tC rfl (fun hc35 => ?_) fun hc35 => ?_
   ·refine tQ <| tG <| sm 1 rfl <| nL <| tRt <| rOk rfl ?_ nPo
    have hx : z7y x = false := by
      clear hd hm hi hI1 hI2 hn
      simp_all [z7y]
    have hA : u.arrays.all z7y = false := by rw [hI1, hd]; simp only [List.all_cons, hx, Bool.false_and]
    simp only [z4q, hA, Bool.false_and]
   refine tSk <| tG <| cV rfl (oB rfl rfl (z05 rfl oM0)) <| sm 1 rfl <| nL ?_
   refine ⟨_, _, ?_, Sub.of (fr' := [(13, iInt (k + 1)), (12, iInt u.arrays.length), (11, .pv (arrs u.arrays)), (3, .mp 109), (1, .pv (.ept [arrs u.arrays, flws u.flows] 0))]) ⟨rfl, rfl, rfl, rfl, rfl, trivial⟩, (k + 1), (bump x.name es), ?_, ?_, ?_, ?_, rfl, (funext fun j => by
   simp only [look, <- hbump]
   by_cases h : 109 = j
   · subst h; rfl
   · simp [z12 h]), rfl⟩
   ·omega
   ·omega
   ·rw [hI1, hd]
    have hx : z7y x = true := by
      clear hd hm hi hI1 hI2 hn
      simp_all [z7y]
    simp only [List.all_cons, hx, Bool.true_and]
   ·rw [hI2, hd]; rfl
   exact hI3.bump _
  refine tEx <| tQ <| tQ ?_
  have hA : u.arrays.all z7y = true := by
    rw [hI1, List.drop_eq_nil_of_le (by simpa using hc14)]; rfl
  have hcA : zf5 [] u.arrays = es := by
    rw [hI2, List.drop_eq_nil_of_le (by simpa using hc14)]; rfl
  generalize es = es0 at hcA hI3 ⊢
  refine tG <| sm 2 rfl ?_
  refine WL.lenOf (t := 38) rfl (fun hl2 => ?_)
  simp only [List.length_map] at hl2
  refine cV rfl (oSm uT23 rfl) <| sm 1 rfl <| nL <| tBk <| Tr.sub (Sub.of (fr' := [(40, iInt 0), (39, iInt u.flows.length), (38, .pv (flws u.flows)), (3, .mp 109), (1, .pv (.ept [arrs u.arrays, flws u.flows] 0))]) ⟨rfl, rfl, rfl, rfl, rfl, trivial⟩) ?_
  refine Tr.loop (fun fr σ m => ∃ (k : Nat) (es : List (Value × PV)), (k <= u.flows.length) /\ (u.flows.all z6i = (u.flows.drop k).all z6i) /\ (zj6 es0 u.flows = zj6 es (u.flows.drop k)) /\ (Cnt es) /\ fr = [(40, iInt k), (39, iInt u.flows.length), (38, .pv (flws u.flows)), (3, .mp 109), (1, .pv (.ept [arrs u.arrays, flws u.flows] 0))] /\ σ = look [(109, some (.map es))] /\ m = u.flows.length - k) (n := u.flows.length - 0) ?_ ?_
  ·exact ⟨0, es0, Nat.zero_le _, rfl, rfl, hI3, rfl, rfl, rfl⟩
  ·rintro fr σ m ⟨k, es, hJ0, hJ1, hJ2, hJ3, rfl, rfl, rfl⟩
   refine tQ <| tG <| sm 1 rfl <| nL <| tQ ?_
   refine tC rfl (fun hc41 => ?_) fun hc41 => ?_
   ·have hlt : k < u.flows.length := by simpa using hc41
    have hd := List.drop_eq_getElem_cons hlt
    have hm := List.getElem_mem hlt
    have hi := z0d (f := Fl.enc) (List.getElem?_eq_getElem hlt)
    generalize u.flows[k] = x at hd hm hi
    refine tSk <| tQ <| tBk <| tQ <| tG <| cV rfl (iSq rfl rfl rfl uT23 hi tS51 rfl (by rfl)) <| cV rfl (lEA rfl rfl Tryz.underlying51 rfl tS51 (lb rfl)) <| cE rfl (aLc (k := 107) rfl tZ51 rfl rfl rfl rfl) <| c0 (sBA rfl rfl rfl rfl rfl ((fun h => h)) tS51 (flk rfl) (lb rfl)) <| nL <| tQ <| Tr.freezeBox (t := 7) (k := 107) rfl rfl rfl ?_
    refine Tr.heap (σ' := look [(109, some (.map es))]) (fun k => by
      simp only [look]
      by_cases h : 107 = k
      · subst h; rfl
      · simp [z12 h]) ?_
    obtain ⟨n, hn⟩ := hJ3.find (.string x.name)
    have hbump := zu5 hn
    have hes := hJ3.1
    refine tG <| sm 3 rfl <| cV rfl (zm2 rfl rfl rfl rfl Tryz.underlying95 uT9 rfl (by assumption) tZ3 trivial) <| WL.sub (Sub.of (fr' := [(47, iInt n), (46, iStr x.name), (44, .mp 109), (7, .pv (.ept [vStr x.name, vInt x.ty, vInt x.params, ints x.types, z0f x.body] 0)), (40, iInt k), (39, iInt u.flows.length), (38, .pv (flws u.flows)), (3, .mp 109), (1, .pv (.ept [arrs u.arrays, flws u.flows] 0))]) ⟨congrArg (fun p => some (IV.pv p)) hn, rfl, rfl, rfl, rfl, rfl, rfl, rfl, rfl, trivial⟩) <| sm 1 rfl <| c0 (z8d rfl rfl rfl rfl rfl ((fun h => h)) Tryz.underlying95 uT9 rfl (by assumption)) <| nL <| tQ <| tG <| sm 2 rfl <| cE rfl (ocq (y1j _) ent59 rfl rfl) <| sm 2 rfl ?_
    refine wS 53 rfl (fun hb53 => ?_) fun hb53 => ?_
    ·refine sm 18 rfl <| nL <| Tr.condT rfl <| tQ <| tG <| sm 1 rfl <| nL <| tRt <| rOk rfl ?_ nPo
     have hx : z6i x = false := by
       clear hd hm hi hJ1 hJ2 hn
       simp_all [z6i]
     have hF : u.flows.all z6i = false := by rw [hJ1, hd]; simp only [List.all_cons, hx, Bool.false_and]
     simp only [z4q, hF, Bool.false_and, Bool.and_false]
    refine sm 2 rfl <| WL.yes rfl rfl rfl rfl rfl rfl (z1q (y9o _) ent60 rfl rfl (sRf _ _) rfl) <| sm 3 rfl ?_
    refine wS 59 rfl (fun hb59 => ?_) fun hb59 => ?_
    ·refine sm 12 rfl <| nL <| Tr.condT rfl <| tQ <| tG <| sm 1 rfl <| nL <| tRt <| rOk rfl ?_ nPo
     have hx : z6i x = false := by
       clear hd hm hi hJ1 hJ2 hn
       simp_all [z6i]
     have hF : u.flows.all z6i = false := by rw [hJ1, hd]; simp only [List.all_cons, hx, Bool.false_and]
     simp only [z4q, hF, Bool.false_and, Bool.and_false]
    refine sm 5 rfl ?_
    refine wS 64 rfl (fun hb64 => ?_) fun hb64 => ?_
    ·refine sm 7 rfl <| nL <| Tr.condT rfl <| tQ <| tG <| sm 1 rfl <| nL <| tRt <| rOk rfl ?_ nPo
     have hx : z6i x = false := by
       clear hd hm hi hJ1 hJ2 hn
       simp_all [z6i]
     have hF : u.flows.all z6i = false := by rw [hJ1, hd]; simp only [List.all_cons, hx, Bool.false_and]
     simp only [z4q, hF, Bool.false_and, Bool.and_false]
    refine sm 4 rfl <| yV rfl rfl (oSm uT35 rfl) <| sm 2 rfl <| nL ?_
    refine tC rfl (fun hc71 => ?_) fun hc71 => ?_
    ·refine tQ <| tG <| sm 1 rfl <| nL <| tRt <| rOk rfl ?_ nPo
     have hx : z6i x = false := by
       clear hd hm hi hJ1 hJ2 hn
       simp_all [z6i]
     have hF : u.flows.all z6i = false := by rw [hJ1, hd]; simp only [List.all_cons, hx, Bool.false_and]
     simp only [z4q, hF, Bool.false_and, Bool.and_false]
    refine tSk <| tG <| cV rfl (oB rfl rfl (z05 rfl oM0)) <| sm 1 rfl <| nL ?_
    refine ⟨_, _, ?_, Sub.of (fr' := [(40, iInt (k + 1)), (39, iInt u.flows.length), (38, .pv (flws u.flows)), (3, .mp 109), (1, .pv (.ept [arrs u.arrays, flws u.flows] 0))]) ⟨rfl, rfl, rfl, rfl, rfl, trivial⟩, (k + 1), (bump x.name es), ?_, ?_, ?_, ?_, rfl, (funext fun j => by
  simp only [look, <- hbump]
  by_cases h : 109 = j
  · subst h; rfl
  · simp [z12 h]), rfl⟩
    ·omega
    ·omega
    ·rw [hJ1, hd]
     have hx : z6i x = true := by
       clear hd hm hi hJ1 hJ2 hn
       simp_all [z6i]
     simp only [List.all_cons, hx, Bool.true_and]
    ·rw [hJ2, hd]; rfl
    exact hJ3.bump _
   refine tEx <| tQ ?_
   have hF : u.flows.all z6i = true := by
     rw [hJ1, List.drop_eq_nil_of_le (by simpa using hc41)]; rfl
   have hcF : zj6 (zf5 [] u.arrays) u.flows = es := by
     rw [hcA, hJ2, List.drop_eq_nil_of_le (by simpa using hc41)]; rfl
   clear hJ1 hJ2 hI1 hI2
   refine tG <| cV rfl (lEA rfl rfl uT25 rfl tS25 (lb rfl)) <| cE rfl (ocq (zt4 u z0e) ent61 rfl rfl) <| sm 1 rfl <| nL <| tQ <| tG <| sm 1 rfl <| cV rfl (zs8 rfl rfl rfl Tryz.underlying95 trivial) <| sm 2 rfl <| cV rfl (oSm uT22 rfl) ?_
   refine WL.lenOf (t := 78) rfl (fun hl1 => ?_)
   simp only [List.length_map] at hl1
   refine sm 2 rfl <| cV rfl (oSm uT23 rfl) ?_
   refine WL.lenOf (t := 81) rfl (fun hl2 => ?_)
   simp only [List.length_map] at hl2
   refine cV rfl (oB rfl rfl (z05 rfl oM0)) <| sm 2 rfl ?_
   refine wS 85 rfl (fun hb85 => ?_) fun hb85 => ?_
   ·refine sm 4 rfl ?_
    refine wS 89 rfl (fun hb89 => ?_) fun hb89 => ?_
    ·have hk0 : z08 z0e u.flows 0 ≥ 0 := by simp_all
     obtain ⟨g, hgk, _⟩ := z8z hk0
     have hgi : (u.flows.map Fl.enc)[(z08 z0e u.flows 0).toNat]? = some g.enc := z0d hgk
     have hgd : u.flows.getD (z08 z0e u.flows 0).toNat y0b = g := by simp [List.getD, hgk]
     refine sm 3 rfl <| yV rfl rfl (iSq rfl rfl rfl uT23 hgi tS51 rfl oM0) <| sm 5 rfl ?_
     refine wS 98 rfl (fun hb98 => ?_) fun hb98 => ?_
     ·refine sm 3 rfl <| yV rfl rfl (iSq rfl rfl rfl uT23 hgi tS51 rfl oM0) <| sm 5 rfl <| nL <| tRt <| rOk rfl ?_ nPo
      refine congrArg (fun b => iBool b) ?_
      simp only [z4q, hA, hF, hcF, z7u, Bool.true_and]
      simp_all
     refine sm 9 rfl <| nL <| tRt <| rOk rfl ?_ nPo
     refine congrArg (fun b => iBool b) ?_
     simp only [z4q, hA, hF, hcF, z7u, Bool.true_and]
     simp_all
    refine sm 18 rfl <| nL <| tRt <| rOk rfl ?_ nPo
    refine congrArg (fun b => iBool b) ?_
    simp only [z4q, hA, hF, hcF, z7u, Bool.true_and]
    (simp_all <;> omega)
   refine sm 22 rfl <| nL <| tRt <| rOk rfl ?_ nPo
   refine congrArg (fun b => iBool b) ?_
   simp only [z4q, hA, hF, hcF, z7u, Bool.true_and]
   simp_all
theorem y6j (u : Un) (hW : z1f u <= 536870912) : SC Tryz.prog 22 [.pv u.enc] [] (fun _ => False) (.tup [iInt (z50 u).1, iInt (z50 u).2]) [] := by
  refine SC.of Tryz.func22 rfl (lb rfl) fun F ρ w => ?_
  refine tQ <| tG <| cE rfl (z1y rfl rfl) <| sm 2 rfl <| nL <| tQ <| tQ <| tG <| cV rfl (lEA rfl rfl uT25 rfl tS25 (lb rfl)) <| cE rfl (ocq (y9y u hW) ent37 rfl rfl) <| sm 1 rfl <| nL ?_
  refine tC rfl (fun hc8 => ?_) fun hc8 => ?_
  ·refine tQ <| tG <| sm 2 rfl <| nL <| tRt <| rOk rfl ?_ nPo
   have hg : z4q u = false := by simpa using hc8
   simp [z50, hg]
  have hg : z4q u = true := by simpa using hc8
  refine tSk <| tQ <| tQ <| tG <| sm 2 rfl ?_
  refine WL.lenOf (t := 10) rfl (fun hl1 => ?_)
  simp only [List.length_map] at hl1
  refine cV rfl (oSm uT23 rfl) <| sm 1 rfl <| nL <| tBk <| Tr.sub (Sub.of (fr' := [(12, iInt 0), (11, iInt u.flows.length), (10, .pv (flws u.flows)), (1, .pv (.ept [arrs u.arrays, flws u.flows] 0))]) ⟨rfl, rfl, rfl, rfl, trivial⟩) ?_
  refine Tr.loop (fun fr σ m => ∃ (k : Nat), (k <= u.flows.length) /\ (z7k u u.flows 0 = z7k u (u.flows.drop k) k) /\ fr = [(12, iInt k), (11, iInt u.flows.length), (10, .pv (flws u.flows)), (1, .pv (.ept [arrs u.arrays, flws u.flows] 0))] /\ σ = look [] /\ m = u.flows.length - k) (n := u.flows.length - 0) ?_ ?_
  ·exact ⟨0, Nat.zero_le _, rfl, rfl, rfl, rfl⟩
  rintro fr σ m ⟨k, hI0, hI1, rfl, rfl, rfl⟩
  refine tQ <| tG <| sm 1 rfl <| nL <| tQ ?_
  refine tC rfl (fun hc13 => ?_) fun hc13 => ?_
  ·have hlt : k < u.flows.length := by simpa using hc13
   have hd := List.drop_eq_getElem_cons hlt
   have hm := List.getElem_mem hlt
   have hi := z0d (f := Fl.enc) (List.getElem?_eq_getElem hlt)
   generalize u.flows[k] = x at hd hm hi
   refine tSk <| tQ <| tBk <| tQ <| tG <| sm 1 rfl <| cV rfl (iSq rfl rfl rfl uT23 hi tS51 rfl (by rfl)) <| cV rfl (lEA rfl rfl Tryz.underlying51 rfl tS51 (lb rfl)) <| cE rfl (aLc (k := 105) rfl tZ51 rfl rfl rfl rfl) <| sm 1 rfl <| c0 (sBA rfl rfl rfl rfl rfl ((fun h => h)) tS51 (flk rfl) (lb rfl)) <| nL ?_
   refine tQ <| Tr.freezeBox (t := 5) (k := 105) rfl rfl rfl <| Tr.heap (σ' := look []) (fun k => by simp only [look]; cases Nat.beq 105 k <;> rfl) <| tG <| cV rfl (lEA rfl rfl uT25 rfl tS25 (lb rfl)) <| cV rfl (lEA rfl rfl Tryz.underlying51 rfl tS51 (lb rfl)) <| cE rfl (ocq (y9w u x (zb8 hg) (zb8 hg x hm) (y2g hW hm)) ent38 rfl rfl) <| sm 1 rfl <| nL ?_
   refine tC rfl (fun hc20 => ?_) fun hc20 => ?_
   ·refine tQ <| tG <| sm 3 rfl <| nL <| tRt <| rOk rfl ?_ nPo
    have hx : z9g u x = false := by simpa using hc20
    simp only [z50, hg, if_true, hI1, hd, z7k, hx, Bool.false_eq_true, if_false]
   refine tSk <| tG <| cV rfl (oB rfl rfl (z05 rfl oM0)) <| sm 1 rfl <| nL ?_
   refine ⟨_, _, ?_, Sub.of (fr' := [(12, iInt (k + 1)), (11, iInt u.flows.length), (10, .pv (flws u.flows)), (1, .pv (.ept [arrs u.arrays, flws u.flows] 0))]) ⟨rfl, rfl, rfl, rfl, trivial⟩, (k + 1), ?_, ?_, rfl, rfl, rfl⟩
   ·omega
   ·omega
   rw [hI1, hd]
   have hx : z9g u x = true := by simpa using hc20
   simp only [z7k, hx, if_true]
   rfl
  refine tEx <| tQ <| tG <| sm 2 rfl <| nL <| tRt <| rOk rfl ?_ nPo
  have hge : u.flows.length <= k := by simpa using hc13
  simp only [z50, hg, if_true, hI1, List.drop_eq_nil_of_le hge, z7k]
set_option maxRecDepth 20000
theorem ya7 (l : List Int) (to : TT) (hb : l.length <= 1073741824) : SC Tryz.prog 39 [wV, .pv (ints l)] (tM to) (fun k => k ∈ [3001]) (.pv (ints (l.map (z1o to)))) (tM to) := by
  refine SC.vc tb { gh := [(1, [.grow 4 104 3 1]), (9, [.fz 4 104])] } [3001] Tryz.func39 rfl rfl ?_
  refine ⟨Nat × List Int, fun (k, acc) => [(11, iInt k), (4, .sl 104 (acc.map eInt).length)], fun (_, acc) => [(104, .row ⟨3, 1⟩ (acc.map eInt))], fun (k, _) => l.length - k, fun (k, acc) => k <= l.length /\ acc = (l.take k).map (z1o to), [], (0, []), ⟨Nat.zero_le _, rfl⟩, ⟨rfl, rfl, trivial⟩, ⟨rfl, trivial⟩, ?_⟩
  rintro ⟨k, acc⟩ ⟨hk, rfl⟩
  refine z0a (fun hc => ?_) fun hc => ?_
  · have hlt := za7 (f := eInt) rfl hc
    obtain ⟨x, hx, ht, _, _⟩ := z83 hlt
    refine ⟨z0d (f := eInt) hx, rfl, rfl, y0k _, y8i x to, z0a (fun h2 => ?_) fun h2 => ?_⟩
    · exact ⟨rfl, y0c rfl, by simp; omega, z05 rfl oM0, (k + 1, (l.take (k + 1)).map (z1o to)), z31 hlt, ⟨hlt, rfl⟩, ⟨rfl, slq (by simp; omega), trivial⟩, ⟨rwq (by rw [y6q h2]; simp [ht, eInt]), trivial⟩, rfl, rfl, rfl, rfl⟩
    · exact ⟨rfl, y0c rfl, by simp; omega, z05 rfl oM0, (k + 1, (l.take (k + 1)).map (z1o to)), z31 hlt, ⟨hlt, rfl⟩, ⟨rfl, slq (by simp; omega), trivial⟩, ⟨rwq (by simp [ht, eInt, y6p h2]), trivial⟩, rfl, rfl, rfl, rfl⟩
  · exact ⟨rfl, sE (by rw [List.take_of_length_le (za3 (f := eInt) rfl hc)]; rfl), rfl, trivial⟩
theorem zx7 (l m : List Int) (to : TT) (h : l.length <= m.length) (hb : l.length <= 1073741824) : SC Tryz.prog 66 [wV, .pv (ints l), .pv (ints m)] (tM to) (fun k => k ∈ []) (.tup []) (tM (z0q l m to)) := by
  refine SC.vc tb {} [] Tryz.func66 rfl rfl ?_
  refine ⟨Nat × TT, fun (k, _) => [(10, iInt k)], fun (_, t) => [(3001, .map (inEs t))], fun (k, _) => l.length - k, fun (k, t) => k <= l.length /\ z0q (l.drop k) (m.drop k) t = z0q l m to, [], (0, to), ⟨Nat.zero_le _, rfl⟩, ⟨rfl, trivial⟩, ⟨rfl, trivial⟩, ?_⟩
  rintro ⟨k, t⟩ ⟨hk, hs⟩
  refine z0a (fun hc => ?_) fun hc => ?_
  · have hlt := za7 (f := eInt) rfl hc
    obtain ⟨x, hx, _, hd, _⟩ := z83 hlt
    obtain ⟨y, hy, _, hd2, _⟩ := z83 (show k < m.length by omega)
    rw [hd, hd2] at hs
    exact ⟨z0d (f := eInt) hx, rfl, z0d (f := eInt) hy, rfl, rfl, y0k _, z05 rfl oM0, (k + 1, aPut x y t), z31 hlt, ⟨hlt, hs⟩, ⟨rfl, trivial⟩, ⟨mpq (y49 _ _ _), trivial⟩, rfl, rfl, rfl, rfl⟩
  · rw [List.drop_eq_nil_of_le (za3 (f := eInt) rfl hc), z0q] at hs
    · exact ⟨sI, by rw [<- hs]; exact ⟨rfl, trivial⟩⟩
    · simp
theorem yc8 {x : Nd} (h : zy6 x = true) (hk : x.kind = 10) : ∃ a b, x.kids = [a, b] := by
  rw [z94] at h
  simp only [Bool.and_eq_true, hk] at h
  have h1 : x.kids.length = 2 := by simpa using h.1.1
  match x.kids, h1 with
  | [a, b], _ => exact ⟨a, b, rfl⟩
theorem y4c {x : Nd} {a b : List Nd} (h : x.kids = [a, b]) : (x.kids.map eKid)[0]? = some [z0f a] /\ (x.kids.map eKid)[1]? = some [z0f b] /\ a ∈ x.kids /\ b ∈ x.kids := by rw [h]; exact ⟨rfl, rfl, .head _, .tail _ (.head _)⟩
theorem zi2 (k : Int) : ∀ (N : Nat) (l : List Nd), SizeOf.sizeOf l < N -> zh2 l = true -> l.length + wtL l <= 1073741824 -> SC Tryz.prog 92 [.pv (z0f l), iInt k] [] (fun k => k ∈ []) (iInt (cnL k l)) []
  | 0, _, h, _, _ => absurd h (Nat.not_lt_zero _)
  | N + 1, l, hN, hok, hb => by
    refine SC.vc tb {} [] Tryz.func92 rfl rfl ?_
    refine ⟨Nat, fun i => [(9, iInt i), (4, iInt (cnL k (l.take i)))], fun _ => [], fun i => l.length - i, fun i => i <= l.length, [], 0, Nat.zero_le _, ⟨rfl, rfl, trivial⟩, trivial, ?_⟩
    intro i hi
    have hle : cnL k l <= 1073741824 := Nat.le_trans (y41 k l) hb
    refine z0a (fun hc => ?_) fun hc => ?_
    · have hlt := za7 (f := Nd.enc) rfl hc
      obtain ⟨x, hx, ht, hd, hm⟩ := z83 hlt
      have happ : cnL k l = cnL k (l.take i) + (cnN k x + cnL k (l.drop (i + 1))) := by
        conv => lhs; rw [<- List.take_append_drop i l, hd]
        rw [z75]; rfl
      have hone : cnL k (l.take (i + 1)) = cnL k (l.take i) + cnN k x := by rw [ht, z75]; rfl
      rw [za0] at happ hone
      have hxok := zp6 hok hm
      have hw := zu1 hm
      have hwa := (z8r x).2.2
      have hif : x.kind = 10 -> ∃ a b, x.kids = [a, b] /\ (x.kids.map eKid)[0]? = some [z0f a] /\ (x.kids.map eKid)[1]? = some [z0f b] /\ cnK k x.kids = cnL k a + cnL k b /\
          SC Tryz.prog 92 [.pv (z0f a), iInt k] [] (fun k => k ∈ []) (iInt (cnL k a)) [] /\ SC Tryz.prog 92 [.pv (z0f b), iInt k] [] (fun k => k ∈ []) (iInt (cnL k b)) [] := fun hk => by
        obtain ⟨a, b, hks⟩ := yc8 hxok hk
        obtain ⟨h0, h1, ha, hb'⟩ := y4c hks
        have hoa := (z8q (by rw [z94] at hxok; simp only [Bool.and_eq_true] at hxok; exact hxok.2) ha).2
        have hob := (z8q (by rw [z94] at hxok; simp only [Bool.and_eq_true] at hxok; exact hxok.2) hb').2
        have hwa' := zq4 ha
        have hwb' := zq4 hb'
        exact ⟨a, b, hks, h0, h1, by rw [hks]; simp [cnK], zi2 k N a (Nat.lt_of_lt_of_le (z61 hm rfl ha) (Nat.le_of_lt_succ hN)) hoa oM0, zi2 k N b (Nat.lt_of_lt_of_le (z61 hm rfl hb') (Nat.le_of_lt_succ hN)) hob oM0⟩
      refine ⟨z0t hx, rfl, z0a (fun h1 => ?_) fun h1 => ?_⟩
      · rw [if_pos (show (x.kind == k) = true from h1)] at happ hone
        refine ⟨z05 rfl oM0, z0a (fun h2 => ?_) fun h2 => ?_⟩
        · rw [if_pos (show (x.kind == 10) = true from h2)] at happ hone
          obtain ⟨a, b, hks, h0, h1', hc2, sa, sb⟩ := hif (by simpa using h2)
          rw [hc2] at happ hone
          exact ⟨h0, rfl, [], sa, sR, trivial, rfl, h1', rfl, [], sb, sR, trivial, rfl, z05 rfl oM0, z05 rfl oM0, z05 rfl oM0, i + 1, z31 hlt, hlt, ⟨rfl, ivq (by rw [hone]; omega), trivial⟩, trivial, rfl, rfl, rfl, rfl⟩
        · rw [if_neg (show ¬ (x.kind == 10) = true by simpa using h2)] at happ hone
          exact ⟨z05 rfl oM0, i + 1, z31 hlt, hlt, ⟨rfl, ivq (by rw [hone]; omega), trivial⟩, trivial, rfl, rfl, rfl, rfl⟩
      · rw [if_neg (show ¬ (x.kind == k) = true by simpa using h1)] at happ hone
        refine z0a (fun h2 => ?_) fun h2 => ?_
        · rw [if_pos (show (x.kind == 10) = true from h2)] at happ hone
          obtain ⟨a, b, hks, h0, h1', hc2, sa, sb⟩ := hif (by simpa using h2)
          rw [hc2] at happ hone
          exact ⟨h0, rfl, [], sa, sR, trivial, rfl, h1', rfl, [], sb, sR, trivial, rfl, z05 rfl oM0, z05 rfl oM0, z05 rfl oM0, i + 1, z31 hlt, hlt, ⟨rfl, ivq (by rw [hone]; omega), trivial⟩, trivial, rfl, rfl, rfl, rfl⟩
        · rw [if_neg (show ¬ (x.kind == 10) = true by simpa using h2)] at happ hone
          exact ⟨z05 rfl oM0, i + 1, z31 hlt, hlt, ⟨rfl, ivq (by rw [hone]; omega), trivial⟩, trivial, rfl, rfl, rfl, rfl⟩
    · exact ⟨sE (by rw [List.take_of_length_le (za3 (f := Nd.enc) rfl hc)]), trivial⟩
theorem sc_once (x : Nd) (a : List Nd) (r : List (List Nd)) (hk : x.kids = a :: r) (hok : zh2 a = true) (hb : a.length + wtL a <= 1073741824) : SC Tryz.prog 65 [.pv (ndv x)] [] (fun k => k ∈ []) (iBool (z2t a)) [] := by
  refine SC.vc tb {} [] Tryz.func65 rfl rfl ?_
  have h0 : (x.kids.map eKid)[0]? = some [z0f a] := by rw [hk]; rfl
  refine ⟨h0, rfl, [], zi2 14 _ a (Nat.lt_succ_self _) hok hb, sR, trivial, rfl, [], zi2 13 _ a (Nat.lt_succ_self _) hok hb, sR, trivial, rfl, z0a (fun h1 => ?_) fun h1 => ?_⟩
  · have h13 : cnL 13 a = 0 := by have := of_decide_eq_true h1; omega
    refine z0a (fun h2 => ?_) fun h2 => ?_
    · have h14 : cnL 14 a = 0 := by have := of_decide_eq_true h2; omega
      exact ⟨sE (by simp [z2t, h13, h14]), trivial⟩
    · have h14 : cnL 14 a ≠ 0 := by have := of_decide_eq_false h2; omega
      refine z0a (fun h3 => ?_) fun h3 => ?_
      · have h15 : cnL 14 a = 1 := by have := of_decide_eq_true h3; omega
        obtain ⟨A, e, he, _, hl, _⟩ := zd6 (l := a) (by intro h; rw [h] at h14; simp [cnL] at h14)
        have hlen : a.length = A.length + 1 := by rw [he]; simp
        have hlen2 : (a.map Nd.enc).length = A.length + 1 := by simp [hlen]
        exact ⟨z2o (z := (A.length : Int)) oM0 oM0, z0t (i := A.length) (x := e) (by rw [he]; simp), rfl, sE (by simp [z2t, h13, h15, hl]), trivial⟩
      · have h15 : cnL 14 a ≠ 1 := by have := of_decide_eq_false h3; omega
        exact ⟨sE (by simp [z2t, h13, h14, h15]), trivial⟩
  · have h13 : cnL 13 a ≠ 0 := by have := of_decide_eq_false h1; omega
    exact ⟨sE (by simp [z2t, h13]), trivial⟩
theorem y9k (l m : List Int) : SC Tryz.prog 93 [.pv (ints l), .pv (ints m)] [] (fun k => k ∈ []) (iBool (l == m)) [] := by
  refine SC.vc tb { gh := [(0, [.len 0])] } [] Tryz.func93 rfl rfl ?_
  intro hl
  simp only [List.length_map] at hl
  refine z0a (fun h1 => ?_) fun h1 => ?_
  · have hne : ¬ (l.length : Int) = m.length := by simpa using h1
    exact ⟨sE (by rw [y7b hne]), trivial⟩
  · have hlm : l.length = m.length := Int.ofNat.inj (by simpa using h1)
    refine ⟨Nat, fun k => [(13, iInt k)], fun _ => [], fun k => l.length - k, fun k => k <= l.length /\ l.take k = m.take k, [], 0, ⟨Nat.zero_le _, rfl⟩, ⟨rfl, trivial⟩, trivial, ?_⟩
    rintro k ⟨hk, he⟩
    refine z0a (fun hc => ?_) fun hc => ?_
    · have hlt := za7 (f := eInt) rfl hc
      obtain ⟨x, hx, ht, hd, _⟩ := z83 hlt
      obtain ⟨y, hy, ht2, hd2, _⟩ := z83 (show k < m.length by omega)
      refine ⟨z0d (f := eInt) hx, rfl, z0d (f := eInt) hy, rfl, z0a (fun h2 => ?_) fun h2 => ?_⟩
      · have hxy : x ≠ y := by simpa using h2
        exact ⟨sE (by
          have : l ≠ m := fun e => by subst e; rw [hx] at hy; exact hxy (Option.some.inj hy)
          simp [this]), trivial⟩
      · have hxy : x = y := by simpa using h2
        exact ⟨z05 rfl oM0, k + 1, z31 hlt, ⟨hlt, by rw [ht, ht2, he, hxy]⟩, ⟨rfl, trivial⟩, trivial, rfl, rfl, rfl, rfl⟩
    · have hge := za3 (f := eInt) rfl hc
      rw [List.take_of_length_le hge, List.take_of_length_le oM0] at he
      exact ⟨sE (by simp [he]), trivial⟩
theorem ya5 (x : Nd) (a b : List Nd) (hk : x.kids = [a, b]) : SC Tryz.prog 67 [.pv (ndv x)] [] (fun k => k ∈ []) (iBool (z35 a b)) [] := by
  refine SC.vc tb {} [] Tryz.func67 rfl rfl ?_
  obtain ⟨h0, h1, _, _⟩ := y4c hk
  have hno : (a.length ≠ 1 ∨ b.length ≠ 1) -> z35 a b = false := fun h => by
    match a, b, h with
    | [], _, _ => rfl
    | [_], [], _ => rfl
    | [_], [_], h => simp at h
    | [_], _ :: _ :: _, _ => rfl
    | _ :: _ :: _, _, _ => rfl
  refine ⟨h0, rfl, h1, rfl, z0a (fun ha => ?_) fun ha => ?_⟩
  · refine z0a (fun hb => ?_) fun hb => ?_
    · obtain ⟨y, rfl⟩ : ∃ y, a = [y] := List.length_eq_one_iff.1 (Int.ofNat.inj (by simpa using ha))
      obtain ⟨z, rfl⟩ : ∃ z, b = [z] := List.length_eq_one_iff.1 (Int.ofNat.inj (by simpa using hb))
      refine ⟨z0t (i := 0) (x := y) rfl, rfl, z0a (fun h2 => ?_) fun h2 => ?_⟩
      · have h2' : (y.kind == 12) = true := h2
        refine ⟨z0t (i := 0) (x := z) rfl, rfl, z0a (fun h3 => ?_) fun h3 => ?_⟩
        · have h3' : (z.kind == 12) = true := h3
          exact ⟨z0t (i := 0) (x := y) rfl, rfl, z0t (i := 0) (x := z) rfl, rfl, [], y9k y.args z.args, sR, trivial, rfl, sE (by simp only [z35, h2', h3', Bool.true_and]), trivial⟩
        · have h3' : (z.kind == 12) = false := h3
          exact ⟨sE (by simp [z35, h2', h3']), trivial⟩
      · have h2' : (y.kind == 12) = false := h2
        exact ⟨sE (by simp [z35, h2']), trivial⟩
    · exact ⟨sE (by rw [hno (.inr (by intro h; rw [List.length_map, h] at hb; cases hb))]), trivial⟩
  · exact ⟨sE (by rw [hno (.inl (by intro h; rw [List.length_map, h] at ha; cases ha))]), trivial⟩
set_option maxRecDepth 20000
theorem z9z (x : Nd) : z02 (z7q x) = z02 x := by
  unfold z7q
  split
  · cases x; rfl
  · rfl
theorem y0n {ks : List (List Nd)} {i : Nat} {q : List Nd} (h : ks.take (i + 1) = ks.take i ++ [q]) : tdK (ks.take (i + 1)) = tdK (ks.take i) ++ [tdL q] := by
  rw [h]
  have : ∀ a b : List (List Nd), tdK (a ++ b) = tdK a ++ tdK b := by
    intro a b
    induction a with
    | nil => rfl
    | cons x r ih => simp only [List.cons_append, tdK, ih]
  rw [this]; rfl
theorem yc2 : ∀ ks : List (List Nd), (tdK ks).length = ks.length
  | [] => rfl
  | l :: r => by simp only [tdK, List.length_cons, yc2 r]
theorem zz5 : ∀ ks : List (List Nd), ks.length <= wtK ks
  | [] => Nat.zero_le _
  | l :: r => by have := zz5 r; simp only [wtK, List.length_cons]; omega
theorem y33 : ∀ (N : Nat) (l : List Nd), SizeOf.sizeOf l < N -> l.length + wtL l <= 1073741824 -> SC Tryz.prog 43 [.pv (z0f l)] [] (fun k => k ∈ []) (.pv (z0f (tdL l))) []
  | 0, _, h, _ => absurd h (Nat.not_lt_zero _)
  | N + 1, l, hN, hb => by
    refine SC.vc tb { gh := [(1, [.grow 2 102 42 8]), (5, [.grow 5 105 43 1]), (10, [.fz 5 105]), (14, [.niC 104 5]), (16, [.fz 2 102]), (18, [.fz 2 102])] } [] Tryz.func43 rfl rfl ?_
    refine ⟨Nat × List Nd, fun (i, out) => [(11, iInt i), (2, .sl 102 (out.map Nd.enc).length)], fun (_, out) => [(102, .row ⟨42, 8⟩ (out.map Nd.enc))], fun (i, _) => l.length - i, fun (i, out) => i <= l.length /\ out.length = i /\ out ++ tdL (l.drop i) = tdL l, [], (0, []), ⟨Nat.zero_le _, rfl, rfl⟩, ⟨rfl, rfl, trivial⟩, ⟨rfl, trivial⟩, ?_⟩
    rintro ⟨i, out⟩ ⟨hi, hol, hout⟩
    refine z0a (fun hc => ?_) fun hc => ?_
    · have hlt := za7 (f := Nd.enc) rfl hc
      obtain ⟨x, hx, ht, hd, hm⟩ := z83 hlt
      have hw := zu1 hm
      have hwa := (z8r x).2.2
      have hkl := zz5 x.kids
      rw [hd] at hout
      refine ⟨z0t hx, rfl, Nat × List (List Nd), fun (j, acc) => [(18, iInt j), (5, .sl 105 (acc.map eKid).length)], fun (_, acc) => [(105, .row ⟨43, 1⟩ (acc.map eKid))], fun (j, _) => x.kids.length - j, fun (j, acc) => j <= x.kids.length /\ acc = tdK (x.kids.take j), [], (0, []), ⟨Nat.zero_le _, rfl⟩, ⟨rfl, rfl, trivial⟩, ⟨rfl, trivial⟩, ?_⟩
      rintro ⟨j, acc⟩ ⟨hj, rfl⟩
      refine z0a (fun hc2 => ?_) fun hc2 => ?_
      · have hlt2 := za7 (f := eKid) rfl hc2
        obtain ⟨q, hq, ht2, _, hm2⟩ := z83 hlt2
        have hwq := zq4 hm2
        have hl2 : (tdK (x.kids.take j)).length = j := by rw [yc2]; simp; omega
        exact ⟨z0d (f := eKid) hq, rfl, [], y33 N q (Nat.lt_of_lt_of_le (z61 hm rfl hm2) (Nat.le_of_lt_succ hN)) oM0, sR, trivial, rfl, rfl, y0c rfl, by simp; omega, z05 rfl oM0, (j + 1, _), z31 hlt2, ⟨hlt2, rfl⟩, ⟨rfl, slq (by rw [y0n ht2]; simp), trivial⟩, ⟨rwq (by rw [y0n ht2]; simp [eKid]), trivial⟩, rfl, rfl, rfl, rfl⟩
      · rw [List.take_of_length_le (za3 (f := eKid) rfl hc2)]
        have hT : tdN x = z7q (.mk x.kind x.op x.n x.name x.args x.outs x.params (tdK x.kids)) := tdN_eq x
        refine ⟨rfl, [], z68 (.mk x.kind x.op x.n x.name x.args x.outs x.params (tdK x.kids)), sR, trivial, rfl, z0a (fun h1 => ?_) fun h1 => ?_⟩
        · have hN : tdN x = .mk x.kind x.op x.n x.name x.args [] x.params (tdK x.kids) := by rw [hT, z7q, if_pos h1]; rfl
          have hC : z02 (tdN x) = true := by rw [hT, z9z]; exact h1
          rw [tdL, if_pos hC, hN] at hout
          exact ⟨rfl, y0c rfl, by simp; omega, z0a (fun _ => ⟨by simp, sE (by rw [<- hout]; simp only [z0f, zu8]; rfl), trivial⟩) fun h => by rw [show z02 _ = true from h1] at h; cases h⟩
        · have hN : tdN x = .mk x.kind x.op x.n x.name x.args x.outs x.params (tdK x.kids) := by rw [hT, z7q, if_neg (by simpa using h1)]
          have hC : z02 (tdN x) = false := by rw [hT, z9z]; exact h1
          rw [tdL, if_neg (by simp [hC]), hN] at hout
          exact ⟨rfl, y0c rfl, by simp; omega, z0a (fun h => by rw [show z02 _ = false from h1] at h; cases h) fun _ => ⟨z05 rfl oM0, (i + 1, out ++ [.mk x.kind x.op x.n x.name x.args x.outs x.params (tdK x.kids)]), z31 hlt, ⟨hlt, by simp; omega, by rw [List.append_assoc]; exact hout⟩, ⟨rfl, slq sI0, trivial⟩, ⟨rwq (by rw [zu8]; rfl), trivial⟩, rfl, rfl, rfl, rfl⟩⟩
    · rw [List.drop_eq_nil_of_le (za3 (f := Nd.enc) rfl hc), tdL, List.append_nil] at hout
      exact ⟨rfl, sE (by rw [hout]; rfl), trivial⟩
set_option maxRecDepth 20000
def TrL (q : List Nd) : Prop := ∀ to : TT, gdR [] to q = true -> SC Tryz.prog 23 [wV, .pv (z0f q)] (tM to) (fun k => k ∈ []) (.pv (z0f (trL to q).1)) (tM (trL to q).2)
theorem y4b (a : List Nd) (r : List (List Nd)) : kid0 (a :: r) = a := rfl
theorem kid1_c (a b : List Nd) (r : List (List Nd)) : kid1 (a :: b :: r) = b := rfl
theorem trL_wt (to : TT) (l : List Nd) : (trL to l).1.length + wtL (trL to l).1 <= l.length + wtL l := by
  have h1 := y24 (trR [] to l).1
  have h2 := y53 l [] to
  simp only [trL, List.length_nil, wtL] at *
  omega
theorem ya6 (x : Nd) (a : List Nd) (to : TT) (hk : x.kids = [a]) (hok : zh2 a = true) (hg : y47 to x = true) (hb : wtN x <= 1073741824) (ih : TrL a) : SC Tryz.prog 40 [wV, .pv (ndv x)] (tM to) (fun k => k ∈ []) (.pv (z0f (z9i to x).1)) (tM (z9i to x).2) := by
  refine SC.vc tb {} [] Tryz.func40 rfl rfl ?_
  obtain ⟨h1, h2, h3⟩ := z8r x
  rw [hk] at h3
  have ha : a.length + wtL a <= 1073741824 := by simp only [wtK] at h3; omega
  have h0 : (x.kids.map eKid)[0]? = some [z0f a] := by rw [hk]; rfl
  unfold y47 at hg
  simp only [hk, zy5, y4b, Bool.and_eq_true, decide_eq_true_eq] at hg
  obtain ⟨⟨_, hpa⟩, hg⟩ := hg
  refine ⟨[], sc_once x a [] hk hok ha, sR, trivial, rfl, z0a (fun hc => ?_) fun hc => ?_⟩
  · have ho : z2t a = false := by simpa using hc
    rw [ho] at hg
    simp only [Bool.false_eq_true, if_false, gdKs, Bool.and_true] at hg
    have hT : z9i to x = ([.mk x.kind x.op x.n x.name x.args x.outs x.params [(trL to a).1]], (trL to a).2) := by
      unfold z9i; simp only [hk, y4b, ho, zy5, Bool.false_eq_true, if_false]
    rw [hT]
    exact ⟨h0, rfl, [], ih to hg, sR, ⟨rfl, trivial⟩, rfl, sE (congrArg IV.pv (by simp only [z0f, List.map_cons, List.map_nil, Nd.enc_eq, Nd.cells_eta]; rfl)), rfl, trivial⟩
  · have ho : z2t a = true := by simpa using hc
    rw [ho] at hg
    simp only [if_true, gdKs, Bool.and_true, Bool.and_eq_true, Bool.not_eq_true'] at hg
    obtain ⟨⟨hg1, hne⟩, hg2⟩ := hg
    have hwt := trL_wt (z0q x.params x.args to) a
    refine ⟨[], zx7 x.params x.args to hpa oM0, sR, ⟨rfl, trivial⟩, rfl, h0, rfl, [], ih _ hg1, sR, ⟨rfl, trivial⟩, rfl, ?_⟩
    have hT0 : z9i to x = if z0s (trL (z0q x.params x.args to) a).1 == 14 then ((trL (z0q x.params x.args to) a).1.dropLast, z0q x.outs (z52 (trL (z0q x.params x.args to) a).1) (trL (z0q x.params x.args to) a).2) else ((trL (z0q x.params x.args to) a).1, (trL (z0q x.params x.args to) a).2) := by
      unfold z9i; simp only [hk, y4b, ho, zy5, if_true]
    rw [hT0]
    generalize trL (z0q x.params x.args to) a = r at hne hg2 hwt
    obtain ⟨l, to2⟩ := r
    obtain ⟨A, e, rfl, hdl, hlk, hla⟩ := zd6 (l := l) (by intro h; rw [h] at hne; cases hne)
    have hlen : ((A ++ [e]).map Nd.enc).length = A.length + 1 := by simp
    rw [hlk, hla] at hg2
    simp only [hlk, hla, hdl]
    simp only [List.length_append, List.length_cons, List.length_nil] at hwt
    refine ⟨z2o (z := (A.length : Int)) (by rw [hlen]; omega) oM0, z0t (i := A.length) (x := e) sI0, rfl, z0a (fun h14 => ?_) fun h14 => ?_⟩
    · have h14' : (e.kind == 14) = true := h14
      simp only [h14', if_true]
      simp only [eq_of_beq h14', bne_self_eq_false, Bool.false_or, decide_eq_true_eq] at hg2
      exact ⟨[], zx7 x.outs e.args to2 hg2 oM0, sR, ⟨rfl, trivial⟩, rfl, z2o (z := (A.length : Int)) (by rw [hlen]; omega) oM0, A.length, rfl, Nat.zero_le _, by simp, y8h, sE (congrArg IV.pv (by simp [z0f])), rfl, trivial⟩
    · have h14' : (e.kind == 14) = false := h14
      simp only [h14', Bool.false_eq_true, if_false]
      exact ⟨sI, rfl, trivial⟩
theorem y3e (x : Nd) (a b : List Nd) (to : TT) (hk : x.kids = [a, b]) (hg : zv1 to x = true) (hb : wtN x <= 1073741824) (iha : TrL a) (ihb : TrL b) : SC Tryz.prog 41 [wV, .pv (ndv x)] (tM to) (fun k => k ∈ []) (.pv (z0f (z7n to x).1)) (tM (z7n to x).2) := by
  refine SC.vc tb {} [] Tryz.func41 rfl rfl ?_
  obtain ⟨h1, h2, h3⟩ := z8r x
  obtain ⟨h0, h1', _, _⟩ := y4c hk
  unfold zv1 at hg
  unfold z7n
  simp only [hk, trKs_two, y4b, kid1_c, gdKs, Bool.and_eq_true, Bool.and_true, decide_eq_true_eq] at hg ⊢
  obtain ⟨⟨_, hga, hgb⟩, hg⟩ := hg
  refine ⟨h0, rfl, [], iha to hga, sR, ⟨rfl, trivial⟩, rfl, h1', rfl, [], ihb (trL to a).2 hgb, sR, ⟨rfl, trivial⟩, rfl, ?_⟩
  generalize (trL (trL to a).2 b).2 = to2 at hg ⊢
  generalize (trL (trL to a).2 b).1 = B at hg ⊢
  generalize (trL to a).1 = A at hg ⊢
  refine ⟨[], ya5 (.mk x.kind x.op x.n x.name x.args x.outs x.params [A, B]) A B rfl, sR, trivial, rfl, z0a (fun hi => ?_) fun hi => ?_⟩
  · have hi' : z35 A B = true := hi
    simp only [hi', Bool.not_true, Bool.false_or, decide_eq_true_eq, if_true] at hg ⊢
    obtain ⟨y, rfl⟩ : ∃ y, A = [y] := by
      match A, B, hi' with
      | [y], [_], _ => exact ⟨y, rfl⟩
    exact ⟨at0, rfl, z0t (i := 0) (x := y) rfl, rfl, [], zx7 x.outs y.args to2 hg oM0, sR, ⟨rfl, trivial⟩, rfl, sN, rfl, trivial⟩
  · have hi' : z35 A B = false := hi
    simp only [hi', Bool.false_eq_true, if_false]
    exact ⟨sE (congrArg IV.pv (by simp only [z0f, List.map_cons, List.map_nil, Nd.enc_eq, Nd.cells_eta]; rfl)), rfl, trivial⟩
theorem trA_wt (to : TT) (x : Nd) : wtN (trA to x) = wtN x := by rw [y51, y51 x]; simp [trA, Nd.name, Nd.args, Nd.outs, Nd.params, Nd.kids]
theorem y1k : ∀ (N : Nat) (l : List Nd), SizeOf.sizeOf l < N -> zh2 l = true -> l.length + wtL l <= 1073741824 -> TrL l
  | 0, _, h, _, _ => absurd h (Nat.not_lt_zero _)
  | N + 1, l, hN, hok, hb => fun to hg => by
    refine SC.vc tb { gh := [(1, [.grow 4 104 42 8]), (13, [.fz 4 104])], jn := [11] } [] Tryz.func23 rfl rfl ?_
    refine ⟨Nat × List Nd × TT, fun (i, out, _) => [(9, iInt i), (4, .sl 104 (out.map Nd.enc).length)], fun (_, out, t) => [(104, .row ⟨42, 8⟩ (out.map Nd.enc)), (3001, .map (inEs t))], fun (i, _, _) => l.length - i, fun (i, out, t) => i <= l.length /\ out.length + wtL out + ((l.drop i).length + wtL (l.drop i)) <= 1073741824 /\ gdR out t (l.drop i) = true /\ trR out t (l.drop i) = trR [] to l, [], (0, [], to), ⟨Nat.zero_le _, by simpa [wtL] using hb, hg, rfl⟩, ⟨rfl, rfl, trivial⟩, ⟨rfl, rfl, trivial⟩, ?_⟩
    rintro ⟨i, out, t⟩ ⟨hi, hw, hgd, hR⟩
    have fin : ∀ o t', trR [] to l = (o, t') -> SubI (.pv (z0f (tdL o))) (.pv (z0f (trL to l).1)) /\ subH ((3001, some (.map (inEs t'))) :: []) (tM (trL to l).2) := fun o t' h => by
      unfold trL; rw [h]; exact ⟨sI, rfl, trivial⟩
    refine z0a (fun hc => ?_) fun hc => ?_
    · have hlt := za7 (f := Nd.enc) rfl hc
      obtain ⟨x, hx, ht, hd, hm⟩ := z83 hlt
      have hwx := zu1 hm
      obtain ⟨hwa, _, _⟩ := z8r x
      have hxok := zp6 hok hm
      rw [hd] at hw hgd hR
      have hwt := wt_trN x t
      simp only [wtL, List.length_cons] at hw
      simp only [gdR, Bool.and_eq_true] at hgd
      obtain ⟨hgx, hgr⟩ := hgd
      have hb2 : (out.map Nd.enc).length + (trN t x).1.length <= 1073741824 := by simp; omega
      have kid : ∀ q ∈ x.kids, TrL q := fun q hq => by
        have h1 := zq4 hq
        have h2 := (z8r x).2.2
        exact y1k N q (Nat.lt_of_lt_of_le (z61 hm rfl hq) (Nat.le_of_lt_succ hN)) (z8q (by rw [z94] at hxok; simp only [Bool.and_eq_true] at hxok; exact hxok.2) hq).2 oM0
      refine ⟨z0t hx, rfl, [3001], ya7 x.args t oM0, sR, ⟨rfl, rfl, trivial⟩, rfl, List Nd × TT, fun (o, _) => [(4, .sl 104 (o.map Nd.enc).length)], fun (o, t) => [(104, .row ⟨42, 8⟩ (o.map Nd.enc)), (3001, .map (inEs t))], fun (o, t') => o = out ++ (trN t x).1 /\ t' = (trN t x).2, [104, 106, 3001], ?_, ?_⟩
      · refine z0a (fun h11 => ?_) fun h11 => ?_
        · have hk : x.kind = 11 := by simpa using h11
          obtain ⟨a, hks⟩ : ∃ a, x.kids = [a] := by
            rw [z94] at hxok
            simp only [hk, Bool.and_eq_true] at hxok
            have h2 := hxok.1.2
            simp only [bne_self_eq_false, Bool.false_or, Bool.and_eq_true, beq_iff_eq] at h2
            exact List.length_eq_one_iff.1 h2.1
          have hN2 := trN_loop (to := t) hk
          refine ⟨[], ya6 (trA t x) a t hks (z8q (by rw [z94] at hxok; simp only [Bool.and_eq_true] at hxok; exact hxok.2) (by rw [hks]; exact .head _)).2 (by rw [<- gdN_loop hk]; exact hgx) (by rw [trA_wt]; omega) (kid a (by rw [hks]; exact .head _)), sR, ⟨rfl, trivial⟩, rfl, rfl, flatM (fun y _ => ⟨y.enc_len, y.enc_one⟩), ?_, (_, _), ⟨rfl, rfl⟩, ⟨slq (by rw [hN2]; simp), trivial⟩, ⟨rwq (by rw [hN2]; simp), by rw [hN2]; rfl, trivial⟩, rfl, rfl, rfl, rfl⟩
          rw [<- hN2]; simpa using (by omega : (out.map Nd.enc).length + (trN t x).1.length <= 68719476736)
        · refine z0a (fun h10 => ?_) fun h10 => ?_
          · have hk : x.kind = 10 := by simpa using h10
            obtain ⟨a, b, hks⟩ := yc8 hxok hk
            have hN2 := y6s (to := t) hk
            refine ⟨[], y3e (trA t x) a b t hks (by rw [<- y5e hk]; exact hgx) (by rw [trA_wt]; omega) (kid a (by rw [hks]; exact .head _)) (kid b (by rw [hks]; exact .tail _ (.head _))), sR, ⟨rfl, trivial⟩, rfl, rfl, flatM (fun y _ => ⟨y.enc_len, y.enc_one⟩), ?_, (_, _), ⟨rfl, rfl⟩, ⟨slq (by rw [hN2]; simp), trivial⟩, ⟨rwq (by rw [hN2]; simp), by rw [hN2]; rfl, trivial⟩, rfl, rfl, rfl, rfl⟩
            rw [<- hN2]; simpa using (by omega : (out.map Nd.enc).length + (trN t x).1.length <= 68719476736)
          · have hN2 := yc6 (to := t) (x := x) h10 h11
            exact ⟨rfl, y0c rfl, by simp; omega, (_, _), ⟨rfl, rfl⟩, ⟨slq (by rw [hN2]; simp), trivial⟩, ⟨rwq (by rw [hN2, zu8]; rfl), by rw [hN2]; rfl, trivial⟩, rfl, rfl, rfl, rfl⟩
      · rintro ⟨o, t'⟩ ⟨rfl, rfl⟩
        simp only [trR] at hR
        generalize hO : out ++ (trN t x).1 = o at hgr hR ⊢
        generalize (trN t x).2 = t' at hgr hR ⊢
        have hol : o.length + wtL o <= out.length + wtL out + ((trN t x).1.length + wtL (trN t x).1) := by rw [<- hO, z7o]; simp; omega
        have next : z1h o = false -> gdR o t' (l.drop (i + 1)) = true /\ trR o t' (l.drop (i + 1)) = trR [] to l := fun h => by
          rw [h] at hgr hR
          exact ⟨by simpa using hgr, by simpa using hR⟩
        refine ⟨rfl, z0a (fun hp => ?_) fun hp => ?_⟩
        · have hpos : 0 < o.length := by simpa using hp
          obtain ⟨A, e, rfl, _⟩ := zd6 (l := o) (by intro h; rw [h] at hpos; cases hpos)
          have hlen : ((A ++ [e]).map Nd.enc).length = A.length + 1 := by simp
          have hlc : z1h (A ++ [e]) = z02 e := by simp [z1h]
          refine ⟨rfl, z2o (z := (A.length : Int)) (by rw [hlen]; omega) (by simp at hol; omega), rfl, (by rw [hlen]; omega : A.length < _), rfl, rfl, rfl, z0t (i := A.length) (x := e) sI0, [], z68 e, sR, trivial, rfl, z0a (fun h1 => ?_) fun h1 => ?_⟩
          · have h1' : z1h (A ++ [e]) = true := hlc.trans h1
            rw [h1', if_pos rfl] at hR
            exact ⟨rfl, [], y33 _ (A ++ [e]) (Nat.lt_succ_self _) oM0, sR, trivial, rfl, (fin _ _ hR.symm).1, (fin _ _ hR.symm).2⟩
          · obtain ⟨n1, n2⟩ := next (hlc.trans h1)
            exact ⟨z05 rfl oM0, (i + 1, A ++ [e], t'), z31 hlt, ⟨hlt, by omega, n1, n2⟩, ⟨rfl, rfl, trivial⟩, ⟨rfl, rfl, trivial⟩, rfl, rfl, rfl, rfl⟩
        · have hz : o = [] := by
            have : ¬ 0 < o.length := by simpa using hp
            exact List.length_eq_zero_iff.1 oM0
          obtain ⟨n1, n2⟩ := next (by rw [hz]; rfl)
          exact ⟨z05 rfl oM0, (i + 1, o, t'), z31 hlt, ⟨hlt, by omega, n1, n2⟩, ⟨rfl, rfl, trivial⟩, ⟨rfl, rfl, trivial⟩, rfl, rfl, rfl, rfl⟩
    · rw [List.drop_eq_nil_of_le (za3 (f := Nd.enc) rfl hc)] at hR hw
      simp only [trR] at hR
      exact ⟨rfl, [], y33 _ out (Nat.lt_succ_self _) (by simp only [List.length_nil, wtL] at hw; omega), sR, trivial, rfl, (fin _ _ hR.symm).1, (fin _ _ hR.symm).2⟩
set_option maxRecDepth 20000
theorem sEmp : SubI (.pv (.agg [.val (.slice none 0 0), .val (.slice none 0 0)])) (.pv (Un.enc ⟨[], []⟩)) := fun _ _ _ _ _ h => y58 h
theorem y7j {u : Un} (h : z1f u <= 536870912) {f : Fl} (hf : f ∈ u.flows) : f.body.length + wtL f.body <= 536870912 := by
  have h1 := y3u hf
  unfold z1f z3r at *
  omega
theorem zx2 (u : Un) (hW : z1f u <= 536870912) : SC Tryz.prog 11 [.pv u.enc] [] (fun k => k ∈ []) (.tup [.pv (z64 trB u).1.enc, iInt (z64 trB u).2]) [] := by
  refine SC.vc tb { gh := [(5, [.growC 106 1 199 51 5]), (11, [.fzC 106 1 199])], ids := [(27, 3001)] } [] Tryz.func11 rfl rfl ?_
  have hW2 : z1f u = u.arrays.length + u.flows.length + wtA u.arrays + wtF u.flows := rfl
  refine ⟨[], y6j u hW, sR, trivial, rfl, z0a (fun hc => ?_) fun hc => ?_⟩
  · have hz : ((z50 u).1 == 0) = false := by simpa using hc
    have hH : z64 trB u = (⟨[], []⟩, 1) := by simp [z64, hz]
    rw [hH]
    exact ⟨sT2 sEmp, trivial⟩
  · have hz : (z50 u).1 = 0 := by simpa using hc
    have hH : z64 trB u = (z3o trB u, 0) := by simp [z64, hz]
    rw [hH]
    refine ⟨Nat × List Fl, fun (k, _) => [(23, iInt k)], fun (_, out) => [(106, .box [.pv (arrs u.arrays), .sl 199 (out.map Fl.enc).length]), (199, .row ⟨51, 5⟩ (out.map Fl.enc))], fun (k, _) => u.flows.length - k, fun (k, out) => k <= u.flows.length /\ out = (u.flows.take k).map (z4t trB), [], (0, []), ⟨Nat.zero_le _, rfl⟩, ⟨rfl, trivial⟩, ⟨rfl, rfl, trivial⟩, ?_⟩
    rintro ⟨k, out⟩ ⟨hk, rfl⟩
    refine z0a (fun hc => ?_) fun hc => ?_
    · have hlt := za7 (f := Fl.enc) rfl hc
      obtain ⟨x, hx, ht, _, hm⟩ := z83 hlt
      obtain ⟨ho, hg⟩ := y6u hz x hm
      have hb := y7j hW hm
      have hl : ((u.flows.take k).map (z4t trB)).length = k := by simp; omega
      have henc : ((u.flows.take (k + 1)).map (z4t trB)).map Fl.enc = ((u.flows.take k).map (z4t trB)).map Fl.enc ++ [[vStr x.name, vInt x.ty, vInt x.params, ints x.types, z0f (trB x.body)]] := by
        rw [ht, List.map_append]; exact y7t trB _ x
      exact ⟨z0d (f := Fl.enc) hx, rfl, [], y1k _ x.body (Nat.lt_succ_self _) ho oM0 [] hg, sR, ⟨rfl, trivial⟩, rfl, rfl, y0c rfl, by simp; omega, by simp, z05 rfl oM0, (k + 1, (u.flows.take (k + 1)).map (z4t trB)), z31 hlt, ⟨hlt, rfl⟩, ⟨rfl, trivial⟩, ⟨by rw [henc]; simp; rfl, by rw [henc]; rfl, trivial⟩, rfl, rfl, rfl, rfl⟩
    · rw [List.take_of_length_le (za3 (f := Fl.enc) rfl hc)]
      exact ⟨rfl, sI, trivial⟩
set_option maxRecDepth 20000
theorem zu7 (k : Int) : ∀ a b : List (List Nd), cnK k (a ++ b) = cnK k a + cnK k b
  | [], b => by simp [cnK]
  | x :: r, b => by simp only [List.cons_append, cnK, zu7 k r b]; omega
theorem zo3 (k : Int) : ∀ (N : Nat) (l : List Nd), SizeOf.sizeOf l < N -> l.length + wtL l <= 1073741824 -> SC Tryz.prog 45 [.pv (z0f l), iInt k] [] (fun k => k ∈ []) (iInt (cnL k l)) []
  | 0, _, h, _ => absurd h (Nat.not_lt_zero _)
  | N + 1, l, hN, hb => by
    refine SC.vc tb { jn := [7] } [] Tryz.func45 rfl rfl ?_
    have hle : cnL k l <= 1073741824 := Nat.le_trans (y41 k l) hb
    refine ⟨Nat, fun i => [(6, iInt i), (5, iInt (cnL k (l.take i)))], fun _ => [], fun i => l.length - i, fun i => i <= l.length, [], 0, Nat.zero_le _, ⟨rfl, rfl, trivial⟩, trivial, ?_⟩
    intro i hi
    refine z0a (fun hc => ?_) fun hc => ?_
    · have hlt := za7 (f := Nd.enc) rfl hc
      obtain ⟨x, hx, ht, hd, hm⟩ := z83 hlt
      have happ : cnL k l = cnL k (l.take i) + (cnN k x + cnL k (l.drop (i + 1))) := by
        conv => lhs; rw [<- List.take_append_drop i l, hd]
        rw [z75]; rfl
      have hone : cnL k (l.take (i + 1)) = cnL k (l.take i) + cnN k x := by rw [ht, z75]; rfl
      rw [za0] at happ hone
      have hw := zu1 hm
      have hwa := (z8r x).2.2
      have hkl := zz5 x.kids
      refine ⟨Unit, fun _ => [(5, iInt ((cnL k (l.take i) + (if x.kind == k then 1 else 0) : Nat) : Int))], fun _ => [], fun _ => True, [], ⟨z0t hx, rfl, z0a (fun h1 => ?_) fun h1 => ?_⟩, ?_⟩
      · have h1' : (x.kind == k) = true := h1
        exact ⟨z05 rfl oM0, (), trivial, ⟨ivq (by simp [h1']), trivial⟩, trivial, rfl, rfl, rfl, rfl⟩
      · have h1' : (x.kind == k) = false := h1
        exact ⟨(), trivial, ⟨ivq (by simp [h1']), trivial⟩, trivial, rfl, rfl, rfl, rfl⟩
      · rintro _ _
        generalize (if x.kind == k then 1 else 0) = e at happ hone ⊢
        have hfit : x.kind == 10 -> ∀ j, cnK k (x.kids.take j) <= cnK k x.kids := fun _ j => by
          conv => rhs; rw [<- List.take_append_drop j x.kids]
          rw [zu7]; omega
        refine ⟨Nat, fun j => [(7, iInt j), (5, iInt ((cnL k (l.take i) + e + cnK k (x.kids.take j) : Nat) : Int))], fun _ => [], fun j => x.kids.length - j, fun j => j <= x.kids.length /\ ((x.kind == 10) = false -> j = 0), [], 0, ⟨Nat.zero_le _, fun _ => rfl⟩, ⟨rfl, rfl, trivial⟩, trivial, ?_⟩
        rintro j ⟨hj, hj0⟩
        have last : (x.kind == 10) = false ∨ x.kids.length <= j -> cnL k (l.take i) + e + cnK k (x.kids.take j) = cnL k (l.take (i + 1)) := fun h => by
          rcases h with h | h
          · rw [hj0 h, hone, h]; simp [cnK]
          · by_cases h10 : (x.kind == 10) = true
            · rw [hone, if_pos h10, List.take_of_length_le h]; omega
            · have h10' : (x.kind == 10) = false := by simpa using h10
              rw [hj0 h10', hone, h10']; simp [cnK]
        refine ⟨z0t hx, rfl, z0a (fun hc2 => ?_) fun hc2 => ?_⟩
        · have hlt2 := za7 (f := eKid) rfl hc2
          obtain ⟨q, hq, ht2, _, hm2⟩ := z83 hlt2
          refine ⟨z0t hx, rfl, z0a (fun h10 => ?_) fun h10 => ?_⟩
          · have h10' : (x.kind == 10) = true := h10
            have h1 := hfit h10' (j + 1)
            rw [if_pos h10'] at happ
            rw [ht2, zu7] at h1
            have hwq := zq4 hm2
            have hs : cnK k [q] = cnL k q := by simp [cnK]
            rw [hs] at h1
            exact ⟨z0t hx, rfl, z0d (f := eKid) hq, rfl, [], zo3 k N q (Nat.lt_of_lt_of_le (z61 hm rfl hm2) (Nat.le_of_lt_succ hN)) oM0, sR, trivial, rfl, z05 rfl oM0, z05 rfl oM0, j + 1, z31 hlt2, ⟨hlt2, fun h => by rw [h] at h10'; cases h10'⟩, ⟨rfl, ivq (by rw [ht2, zu7, hs]; omega), trivial⟩, trivial, rfl, rfl, rfl, rfl⟩
          · exact ⟨z05 rfl oM0, i + 1, z31 hlt, hlt, ⟨rfl, ivq (by rw [last (.inl h10)]), trivial⟩, trivial, rfl, rfl, rfl, rfl⟩
        · exact ⟨z05 rfl oM0, i + 1, z31 hlt, hlt, ⟨rfl, ivq (by rw [last (.inr (za3 (f := eKid) rfl hc2))]), trivial⟩, trivial, rfl, rfl, rfl, rfl⟩
    · exact ⟨sE (by rw [List.take_of_length_le (za3 (f := Nd.enc) rfl hc)]), trivial⟩
set_option maxRecDepth 20000
theorem intne {m n : Nat} (h : ((m : Int) != n) = true) : m ≠ n := fun e => by subst e; simp at h
theorem inteq {m n : Nat} (h : ((m : Int) != n) = false) : m = n := Int.ofNat.inj (by simpa using h)
theorem sc_lIdle (x : Nd) : SC Tryz.prog 44 [.pv (ndv x)] [] (fun k => k ∈ []) (iBool (zv2 x.kids)) [] := by
  refine SC.vc tb { gh := [(9, [.len 57])] } [] Tryz.func44 rfl rfl ?_
  have no : ∀ ks : List (List Nd), ks.length ≠ 2 -> zv2 ks = false := fun ks h => by
    match ks, h with
    | [], _ => rfl
    | [_], _ => rfl
    | [_, _], h => exact absurd rfl h
    | _ :: _ :: _ :: _, _ => rfl
  have no2 : ∀ a b : List Nd, (a.length ≠ 1 ∨ b.length ≠ 1) -> z35 a b = false := fun a b h => by
    match a, b, h with
    | [], _, _ => rfl
    | [_], [], _ => rfl
    | [_], [_], h => simp at h
    | [_], _ :: _ :: _, _ => rfl
    | _ :: _ :: _, _, _ => rfl
  refine z0a (fun h1 => ?_) fun h1 => ?_
  · exact ⟨sE (by rw [no _ (by have := intne h1; simpa using this)]), trivial⟩
  · obtain ⟨a, b, hk⟩ : ∃ a b, x.kids = [a, b] := by
      have h2 : x.kids.length = 2 := by have := inteq h1; simpa using this
      match x.kids, h2 with
      | [a, b], _ => exact ⟨a, b, rfl⟩
    obtain ⟨h0, h1', _, _⟩ := y4c hk
    have hI : zv2 x.kids = z35 a b := by rw [hk]; rfl
    rw [hI]
    refine ⟨h0, rfl, z0a (fun ha => ?_) fun ha => ?_⟩
    · exact ⟨sE (by rw [no2 a b (.inl (by have := intne ha; simpa using this))]), trivial⟩
    · obtain ⟨y, rfl⟩ : ∃ y, a = [y] := List.length_eq_one_iff.1 (by have := inteq ha; simpa using this)
      refine ⟨h1', rfl, z0a (fun hb => ?_) fun hb => ?_⟩
      · exact ⟨sE (by rw [no2 _ b (.inr (by have := intne hb; simpa using this))]), trivial⟩
      · obtain ⟨z, rfl⟩ : ∃ z, b = [z] := List.length_eq_one_iff.1 (by have := inteq hb; simpa using this)
        refine ⟨h0, rfl, z0t (i := 0) (x := y) rfl, rfl, h1', rfl, z0t (i := 0) (x := z) rfl, rfl, z0a (fun hy => ?_) fun hy => ?_⟩
        · have hy' : (y.kind == 12) = false := by simpa using hy
          exact ⟨sE (by simp [z35, hy']), trivial⟩
        · have hy' : (y.kind == 12) = true := by simpa using hy
          refine z0a (fun hz => ?_) fun hz => ?_
          · have hz' : (z.kind == 12) = false := by simpa using hz
            exact ⟨sE (by simp [z35, hz']), trivial⟩
          · have hz' : (z.kind == 12) = true := by simpa using hz
            have hT : z35 [y] [z] = (y.args == z.args) := by simp [z35, hy', hz']
            rw [hT]
            refine z0a (fun hn => ?_) fun hn => ?_
            · exact ⟨sE (by rw [y7b (by have := intne hn; simp at this; omega)]), trivial⟩
            · have hlm : y.args.length = z.args.length := by have := inteq hn; simpa using this
              refine ⟨Nat, fun k => [(5, iInt k)], fun _ => [], fun k => y.args.length - k, fun k => k <= y.args.length /\ y.args.take k = z.args.take k, [], 0, ⟨Nat.zero_le _, rfl⟩, ⟨rfl, trivial⟩, trivial, ?_⟩
              rintro k ⟨hk', he⟩
              refine z0a (fun hc => ?_) fun hc => ?_
              · have hlt := za7 (f := eInt) rfl hc
                obtain ⟨v, hv, ht, _, _⟩ := z83 hlt
                obtain ⟨u, hu, ht2, _, _⟩ := z83 (show k < z.args.length by omega)
                intro hl
                simp only [List.length_map] at hl
                refine ⟨z0d (f := eInt) hv, rfl, z0d (f := eInt) hu, rfl, z0a (fun h2 => ?_) fun h2 => ?_⟩
                · have hvu : v ≠ u := by simpa using h2
                  have hne : (y.args == z.args) = false := by
                    cases hq : y.args == z.args with
                    | false => rfl
                    | true => rw [eq_of_beq hq, hu] at hv; exact absurd (Option.some.inj hv).symm hvu
                  exact ⟨sE (by rw [hne]), trivial⟩
                · have hvu : v = u := by simpa using h2
                  exact ⟨z05 rfl oM0, k + 1, z31 hlt, ⟨hlt, by rw [ht, ht2, he, hvu]⟩, ⟨rfl, trivial⟩, trivial, rfl, rfl, rfl, rfl⟩
              · have hge := za3 (f := eInt) rfl hc
                rw [List.take_of_length_le hge, List.take_of_length_le oM0] at he
                exact ⟨sE (by rw [he]; simp), trivial⟩
theorem onceK_no {ks : List (List Nd)} (h : ks.length ≠ 1) : y5w ks = false := by
  match ks, h with
  | [], _ => rfl
  | [_], h => exact absurd rfl h
  | _ :: _ :: _, _ => rfl
theorem y9l : ∀ (N : Nat) (l : List Nd), SizeOf.sizeOf l < N -> l.length + wtL l <= 1073741824 -> SC Tryz.prog 24 [.pv (z0f l)] [] (fun k => k ∈ []) (iBool (fiL l)) []
  | 0, _, h, _ => absurd h (Nat.not_lt_zero _)
  | N + 1, l, hN, hb => by
    refine SC.vc tb { jn := [7, 12] } [] Tryz.func24 rfl rfl ?_
    refine ⟨Nat, fun i => [(3, iInt i)], fun _ => [], fun i => l.length - i, fun i => i <= l.length /\ fiL l = fiL (l.drop i), [], 0, ⟨Nat.zero_le _, rfl⟩, ⟨rfl, trivial⟩, trivial, ?_⟩
    rintro i ⟨hi, hI⟩
    refine z0a (fun hc => ?_) fun hc => ?_
    · have hlt := za7 (f := Nd.enc) rfl hc
      obtain ⟨x, hx, ht, hd, hm⟩ := z83 hlt
      have hw := zu1 hm
      have hwa := (z8r x).2.2
      have hkl := zz5 x.kids
      rw [hd, fiL, y43] at hI
      have bad : (x.kind == 10 && zv2 x.kids) = true ∨ (x.kind == 11 && y5w x.kids) = true ∨ fiK x.kids = false -> fiL l = false := fun h => by
        rw [hI]
        rcases h with h | h | h <;> rw [h] <;> simp
      refine ⟨z0t hx, rfl, Unit, fun _ => [], fun _ => [], fun _ => (x.kind == 10 && zv2 x.kids) = false, [], ?_, ?_⟩
      · refine z0a (fun h1 => ?_) fun h1 => ?_
        · have h1' : (x.kind == 10) = true := h1
          refine ⟨[], sc_lIdle x, sR, trivial, rfl, z0a (fun h2 => ?_) fun h2 => ?_⟩
          · have h2' : zv2 x.kids = true := h2
            exact ⟨sE (by rw [bad (.inl (by rw [h1', h2']; rfl))]), trivial⟩
          · have h2' : zv2 x.kids = false := h2
            exact ⟨(), by rw [h2', Bool.and_false], trivial, trivial, rfl, rfl, rfl, rfl⟩
        · have h1' : (x.kind == 10) = false := h1
          exact ⟨(), by rw [h1', Bool.false_and], trivial, trivial, rfl, rfl, rfl, rfl⟩
      · intro _ hA
        rw [hA] at hI
        refine ⟨Unit, fun _ => [], fun _ => [], fun _ => (x.kind == 11 && y5w x.kids) = false, [], ?_, ?_⟩
        · refine z0a (fun h1 => ?_) fun h1 => ?_
          · have h1' : (x.kind == 11) = true := h1
            refine z0a (fun h2 => ?_) fun h2 => ?_
            · obtain ⟨a, hks⟩ : ∃ a, x.kids = [a] := List.length_eq_one_iff.1 (Int.ofNat.inj (by simpa using h2))
              have h0 : (x.kids.map eKid)[0]? = some [z0f a] := by rw [hks]; rfl
              have hO : y5w x.kids = (!a.isEmpty && z2t a) := by rw [hks]; rfl
              have hal : a.length + wtL a <= 1073741824 := by rw [hks] at hwa; simp only [wtK] at hwa; omega
              refine ⟨h0, rfl, z0a (fun h3 => ?_) fun h3 => ?_⟩
              · have hpos : 0 < a.length := by simpa using h3
                have hem : a.isEmpty = false := by cases a with
                  | nil => cases hpos
                  | cons _ _ => rfl
                rw [hem, Bool.not_false, Bool.true_and] at hO
                refine ⟨h0, rfl, [], zo3 14 _ a (Nat.lt_succ_self _) hal, sR, trivial, rfl, [], zo3 13 _ a (Nat.lt_succ_self _) hal, sR, trivial, rfl, z0a (fun h4 => ?_) fun h4 => ?_⟩
                · have h13 : cnL 13 a = 0 := by have := of_decide_eq_true h4; omega
                  refine z0a (fun h5 => ?_) fun h5 => ?_
                  · have h14 : cnL 14 a = 0 := by have := of_decide_eq_true h5; omega
                    exact ⟨sE (by rw [bad (.inr (.inl (by rw [h1', hO]; simp [z2t, h13, h14])))]), trivial⟩
                  · have h14 : cnL 14 a ≠ 0 := by have := of_decide_eq_false h5; omega
                    refine z0a (fun h6 => ?_) fun h6 => ?_
                    · have h15 : cnL 14 a = 1 := by have := of_decide_eq_true h6; omega
                      obtain ⟨A, e, he, _, hl, _⟩ := zd6 (l := a) (by intro h; rw [h] at hpos; cases hpos)
                      have hlen2 : (a.map Nd.enc).length = A.length + 1 := by rw [he]; simp
                      refine ⟨z2o (z := (A.length : Int)) (by rw [hlen2]; omega) (by rw [he] at hal; simp at hal; omega), z0t (i := A.length) (x := e) (by rw [he]; simp), rfl, z0a (fun h7 => ?_) fun h7 => ?_⟩
                      · have h7' : (e.kind == 14) = true := h7
                        exact ⟨sE (by rw [bad (.inr (.inl (by rw [h1', hO]; simp only [z2t, h13, h15, hl, h7']; rfl)))]), trivial⟩
                      · have h7' : (e.kind == 14) = false := h7
                        exact ⟨(), by rw [hO]; simp only [z2t, h13, h15, hl, h7']; simp, trivial, trivial, rfl, rfl, rfl, rfl⟩
                    · have h15 : cnL 14 a ≠ 1 := by have := of_decide_eq_false h6; omega
                      exact ⟨(), by rw [hO]; simp [z2t, h13, h14, h15], trivial, trivial, rfl, rfl, rfl, rfl⟩
                · have h13 : cnL 13 a ≠ 0 := by have := of_decide_eq_false h4; omega
                  exact ⟨(), by rw [hO]; simp [z2t, h13], trivial, trivial, rfl, rfl, rfl, rfl⟩
              · have hem : a = [] := by
                  have : ¬ 0 < a.length := by simpa using h3
                  exact List.length_eq_zero_iff.1 oM0
                exact ⟨(), by rw [hO, hem]; simp, trivial, trivial, rfl, rfl, rfl, rfl⟩
            · have hne : x.kids.length ≠ 1 := fun e => by
                simp only [List.length_map, e] at h2; cases h2
              exact ⟨(), by rw [onceK_no hne, Bool.and_false], trivial, trivial, rfl, rfl, rfl, rfl⟩
          · have h1' : (x.kind == 11) = false := h1
            exact ⟨(), by rw [h1', Bool.false_and], trivial, trivial, rfl, rfl, rfl, rfl⟩
        · intro _ hB
          rw [hB] at hI
          simp only [Bool.not_false, Bool.true_and] at hI
          refine ⟨Nat, fun j => [(7, iInt j)], fun _ => [], fun j => x.kids.length - j, fun j => j <= x.kids.length /\ fiK x.kids = fiK (x.kids.drop j), [], 0, ⟨Nat.zero_le _, rfl⟩, ⟨rfl, trivial⟩, trivial, ?_⟩
          rintro j ⟨hj, hJ⟩
          refine z0a (fun hc2 => ?_) fun hc2 => ?_
          · have hlt2 := za7 (f := eKid) rfl hc2
            obtain ⟨q, hq, _, hd2, hm2⟩ := z83 hlt2
            have hwq := zq4 hm2
            rw [hd2, fiK] at hJ
            refine ⟨z0d (f := eKid) hq, rfl, [], y9l N q (Nat.lt_of_lt_of_le (z61 hm rfl hm2) (Nat.le_of_lt_succ hN)) oM0, sR, trivial, rfl, z0a (fun h3 => ?_) fun h3 => ?_⟩
            · have h3' : fiL q = false := by simpa using h3
              exact ⟨sE (by rw [bad (.inr (.inr (by rw [hJ, h3', Bool.false_and])))]), trivial⟩
            · have h3' : fiL q = true := by simpa using h3
              exact ⟨z05 rfl oM0, j + 1, z31 hlt2, ⟨hlt2, by rw [hJ, h3', Bool.true_and]⟩, ⟨rfl, trivial⟩, trivial, rfl, rfl, rfl, rfl⟩
          · rw [List.drop_eq_nil_of_le (za3 (f := eKid) rfl hc2)] at hJ
            have hk1 : fiK x.kids = true := hJ
            exact ⟨z05 rfl oM0, i + 1, z31 hlt, ⟨hlt, by rw [hI, hk1, Bool.true_and]⟩, ⟨rfl, trivial⟩, trivial, rfl, rfl, rfl, rfl⟩
    · rw [List.drop_eq_nil_of_le (za3 (f := Nd.enc) rfl hc)] at hI
      exact ⟨sE (by rw [hI]; rfl), trivial⟩
theorem z3z (b : Bool) : SC Tryz.prog 113 [iBool b] [] (fun _ => False) (iInt (y0s b)) [] := by
  refine SC.of Tryz.func113 rfl (lb rfl) fun F ρ w => ?_
  refine tQ <| tG <| sm 1 rfl <| nL <| tQ <| tQ <| tG <| sm 1 rfl <| nL ?_
  refine tC rfl (fun hc3 => ?_) fun hc3 => ?_
  ·refine tQ <| tG <| sm 1 rfl <| nL <| tRt <| rOk rfl ?_ nPo
   cases b <;> first | rfl | (simp_all; done)
  refine tSk <| tQ <| tG <| sm 1 rfl <| nL <| tRt <| rOk rfl ?_ nPo
  cases b <;> first | rfl | (simp_all; done)
theorem sc_mOne (op a : Int) : SC Tryz.prog 97 [iInt op, iInt a] [] (fun _ => False) (iInt (mOne op a)) [] := by
  refine SC.of Tryz.func97 rfl (lb rfl) fun F ρ w => ?_
  refine tQ <| tG <| sm 1 rfl <| nL <| tQ <| tQ <| tG <| sm 1 rfl <| nL <| tBk <| tQ <| tG ?_
  refine sm 2 rfl <| nL ?_
  refine tC rfl (fun hc6 => ?_) fun hc6 => ?_
  ·refine tQ <| tG <| sm 3 rfl <| nL <| tRt <| rOk rfl ?_ nPo
   (simp only [mOne, *, if_true, Bool.false_eq_true, if_false, Bool.or_true, Bool.true_or, Bool.or_false] <;> rfl)
  refine tQ <| tG <| sm 2 rfl <| nL ?_
  refine tC rfl (fun hc10 => ?_) fun hc10 => ?_
  ·refine tQ <| tG <| sm 3 rfl <| nL <| tRt <| rOk rfl ?_ nPo
   (simp only [mOne, *, if_true, Bool.false_eq_true, if_false, Bool.or_true, Bool.true_or, Bool.or_false] <;> rfl)
  refine tQ <| tG <| sm 2 rfl <| nL ?_
  refine tC rfl (fun hc14 => ?_) fun hc14 => ?_
  ·refine tQ <| tG <| sm 2 rfl <| cE rfl (ocq (z3z _) z6u rfl rfl) <| sm 1 rfl <| nL <| tRt <| rOk rfl ?_ nPo
   (simp only [mOne, *, if_true, Bool.false_eq_true, if_false, Bool.or_true, Bool.true_or, Bool.or_false] <;> rfl)
  refine tQ <| tG <| sm 2 rfl <| nL ?_
  refine tC rfl (fun hc19 => ?_) fun hc19 => ?_
  ·refine tQ <| tG <| sm 3 rfl <| nL <| tRt <| rOk rfl ?_ nPo
   (simp only [mOne, *, if_true, Bool.false_eq_true, if_false, Bool.or_true, Bool.true_or, Bool.or_false] <;> rfl)
  refine tQ <| tG <| sm 2 rfl <| nL ?_
  refine tC rfl (fun hc23 => ?_) fun hc23 => ?_
  ·refine tQ <| tG <| sm 3 rfl <| nL <| tRt <| rOk rfl ?_ nPo
   (simp only [mOne, *, if_true, Bool.false_eq_true, if_false, Bool.or_true, Bool.true_or, Bool.or_false] <;> rfl)
  refine tQ <| tG <| sm 2 rfl <| nL ?_
  refine tC rfl (fun hc27 => ?_) fun hc27 => ?_
  ·refine tQ <| tG <| sm 3 rfl <| nL <| tRt <| rOk rfl ?_ nPo
   (simp only [mOne, *, if_true, Bool.false_eq_true, if_false, Bool.or_true, Bool.true_or, Bool.or_false] <;> rfl)
  refine tQ <| tG <| sm 2 rfl <| nL ?_
  refine tC rfl (fun hc31 => ?_) fun hc31 => ?_
  ·refine tQ <| tG <| sm 5 rfl <| nL <| tRt <| rOk rfl ?_ nPo
   (simp only [mOne, *, if_true, Bool.false_eq_true, if_false, Bool.or_true, Bool.true_or, Bool.or_false] <;> rfl)
  refine tQ <| tG <| sm 2 rfl <| nL ?_
  refine tC rfl (fun hc37 => ?_) fun hc37 => ?_
  ·refine tQ <| tG <| sm 5 rfl <| nL <| tRt <| rOk rfl ?_ nPo
   (simp only [mOne, *, if_true, Bool.false_eq_true, if_false, Bool.or_true, Bool.true_or, Bool.or_false] <;> rfl)
  refine tQ <| tG <| sm 2 rfl <| nL ?_
  refine tC rfl (fun hc43 => ?_) fun hc43 => ?_
  ·refine tQ <| tG <| sm 5 rfl <| nL <| tRt <| rOk rfl ?_ nPo
   (simp only [mOne, *, if_true, Bool.false_eq_true, if_false, Bool.or_true, Bool.true_or, Bool.or_false] <;> rfl)
  refine tSk <| tQ <| tG <| sm 1 rfl <| nL <| tRt <| rOk rfl ?_ nPo
  (simp only [mOne, *, if_true, Bool.false_eq_true, if_false, Bool.or_true, Bool.true_or, Bool.or_false] <;> rfl)
theorem sc_mTwo (op a b : Int) : SC Tryz.prog 98 [iInt op, iInt a, iInt b] [] (fun _ => False) (.tup [iInt (mTwo op a b).1, iBool (mTwo op a b).2]) [] := by
  refine SC.of Tryz.func98 rfl (lb rfl) fun F ρ w => ?_
  refine tQ <| tG <| sm 2 rfl <| nL <| tQ <| tQ <| tG <| sm 1 rfl <| nL <| tBk <| tQ <| tG ?_
  refine sm 2 rfl <| nL ?_
  refine tC rfl (fun hc9 => ?_) fun hc9 => ?_
  ·refine tQ <| tG <| sm 5 rfl <| nL <| tRt <| rOk rfl ?_ nPo
   (simp only [mTwo, *, if_true, Bool.false_eq_true, if_false, Bool.or_true, Bool.true_or, Bool.or_false] <;> rfl)
  refine tQ <| tG <| sm 2 rfl <| nL ?_
  refine tC rfl (fun hc14 => ?_) fun hc14 => ?_
  ·refine tQ <| tG <| sm 5 rfl <| nL <| tRt <| rOk rfl ?_ nPo
   (simp only [mTwo, *, if_true, Bool.false_eq_true, if_false, Bool.or_true, Bool.true_or, Bool.or_false] <;> rfl)
  refine tQ <| tG <| sm 2 rfl <| nL ?_
  refine tC rfl (fun hc19 => ?_) fun hc19 => ?_
  ·refine tQ <| tG <| sm 5 rfl <| nL <| tRt <| rOk rfl ?_ nPo
   (simp only [mTwo, *, if_true, Bool.false_eq_true, if_false, Bool.or_true, Bool.true_or, Bool.or_false] <;> rfl)
  refine tQ <| tQ <| tG <| sm 2 rfl <| nL ?_
  refine tC rfl (fun hc24 => ?_) fun hc24 => ?_
  ·refine tSk ?_
   refine tC rfl (fun hc24 => ?_) fun hc24 => ?_
   ·refine tQ <| tQ <| tG <| sm 2 rfl <| nL ?_
    refine tC rfl (fun hc28 => ?_) fun hc28 => ?_
    ·refine tQ <| tG <| sm 2 rfl <| nL <| tRt <| rOk rfl ?_ nPo
     (simp only [mTwo, *, if_true, Bool.false_eq_true, if_false, Bool.or_true, Bool.true_or, Bool.or_false] <;> rfl)
    refine tSk <| tQ <| tQ <| tG <| sm 2 rfl <| nL ?_
    refine tC rfl (fun hc30 => ?_) fun hc30 => ?_
    ·refine tQ <| tG <| sm 2 rfl <| cV rfl (oB rfl rfl (show z41 .quo .i64 a b = some (.int .i64 (w64 (a.tdiv b))) by simp [z41, w64, show ¬ b = 0 by simpa using hc28])) <| sm 2 rfl <| nL <| tRt <| rOk rfl ?_ nPo
     (simp only [mTwo, *, if_true, Bool.false_eq_true, if_false, Bool.or_true, Bool.true_or, Bool.or_false] <;> rfl)
    refine tSk <| tQ <| tG <| sm 2 rfl <| cV rfl (oB rfl rfl (show z41 .rem .i64 a b = some (.int .i64 (a.tmod b)) by simp [z41, show ¬ b = 0 by simpa using hc28])) <| sm 2 rfl <| nL <| tRt <| rOk rfl ?_ nPo
    (exfalso; simp_all; done)
   refine tQ <| tG <| sm 2 rfl <| nL ?_
   refine tC rfl (fun hc37 => ?_) fun hc37 => ?_
   ·refine tQ <| tG <| sm 5 rfl <| nL <| tRt <| rOk rfl ?_ nPo
    (exfalso; simp_all; done)
   refine tQ <| tG <| sm 2 rfl <| nL ?_
   refine tC rfl (fun hc42 => ?_) fun hc42 => ?_
   ·refine tQ <| tG <| sm 5 rfl <| nL <| tRt <| rOk rfl ?_ nPo
    (exfalso; simp_all; done)
   refine tQ <| tG <| sm 2 rfl <| nL ?_
   refine tC rfl (fun hc47 => ?_) fun hc47 => ?_
   ·refine tQ <| tG <| sm 5 rfl <| nL <| tRt <| rOk rfl ?_ nPo
    (exfalso; simp_all; done)
   refine tQ <| tG <| sm 2 rfl <| nL ?_
   refine tC rfl (fun hc52 => ?_) fun hc52 => ?_
   ·refine tQ <| tG <| sm 3 rfl <| cV rfl (y95 rfl rfl rfl (y54 b)) <| sm 2 rfl <| nL <| tRt <| rOk rfl ?_ nPo
    (exfalso; simp_all; done)
   refine tQ <| tG <| sm 2 rfl <| nL ?_
   refine tC rfl (fun hc58 => ?_) fun hc58 => ?_
   ·refine tQ <| tG <| sm 3 rfl <| cV rfl (y12 rfl rfl rfl (y54 b)) <| sm 2 rfl <| nL <| tRt <| rOk rfl ?_ nPo
    (exfalso; simp_all; done)
   refine tQ <| tG <| sm 2 rfl <| nL ?_
   refine tC rfl (fun hc64 => ?_) fun hc64 => ?_
   ·refine tQ <| tG <| sm 1 rfl <| cV rfl (z4b rfl rfl ⟨_, uT3⟩ Tryz.underlying131) <| sm 2 rfl <| cV rfl (y12 rfl rfl rfl (y54 b)) <| cV rfl (z4b rfl rfl ⟨_, Tryz.underlying131⟩ uT3) <| sm 2 rfl <| nL <| tRt <| rOk rfl ?_ nPo
    (exfalso; simp_all; done)
   refine tQ <| tG <| sm 2 rfl <| nL ?_
   refine tC rfl (fun hc72 => ?_) fun hc72 => ?_
   ·refine tQ <| tG <| sm 3 rfl <| cE rfl (ocq (z3z _) z6u rfl rfl) <| sm 2 rfl <| nL <| tRt <| rOk rfl ?_ nPo
    (exfalso; simp_all; done)
   refine tQ <| tG <| sm 2 rfl <| nL ?_
   refine tC rfl (fun hc78 => ?_) fun hc78 => ?_
   ·refine tQ <| tG <| sm 3 rfl <| cE rfl (ocq (z3z _) z6u rfl rfl) <| sm 2 rfl <| nL <| tRt <| rOk rfl ?_ nPo
    (exfalso; simp_all; done)
   refine tQ <| tG <| sm 2 rfl <| nL ?_
   refine tC rfl (fun hc84 => ?_) fun hc84 => ?_
   ·refine tQ <| tG <| sm 3 rfl <| cE rfl (ocq (z3z _) z6u rfl rfl) <| sm 2 rfl <| nL <| tRt <| rOk rfl ?_ nPo
    (exfalso; simp_all; done)
   refine tQ <| tG <| sm 2 rfl <| nL ?_
   refine tC rfl (fun hc90 => ?_) fun hc90 => ?_
   ·refine tQ <| tG <| sm 3 rfl <| cE rfl (ocq (z3z _) z6u rfl rfl) <| sm 2 rfl <| nL <| tRt <| rOk rfl ?_ nPo
    (exfalso; simp_all; done)
   refine tQ <| tG <| sm 2 rfl <| nL ?_
   refine tC rfl (fun hc96 => ?_) fun hc96 => ?_
   ·refine tQ <| tG <| sm 3 rfl <| cE rfl (ocq (z3z _) z6u rfl rfl) <| sm 2 rfl <| nL <| tRt <| rOk rfl ?_ nPo
    (exfalso; simp_all; done)
   refine tQ <| tG <| sm 2 rfl <| nL ?_
   refine tC rfl (fun hc102 => ?_) fun hc102 => ?_
   ·refine tQ <| tG <| sm 3 rfl <| cE rfl (ocq (z3z _) z6u rfl rfl) <| sm 2 rfl <| nL <| tRt <| rOk rfl ?_ nPo
    (exfalso; simp_all; done)
   refine tSk <| tQ <| tG <| sm 2 rfl <| nL <| tRt <| rOk rfl ?_ nPo
   (exfalso; simp_all; done)
  refine tG <| sm 2 rfl <| nL ?_
  refine tC rfl (fun hc24 => ?_) fun hc24 => ?_
  ·refine tQ <| tQ <| tG <| sm 2 rfl <| nL ?_
   refine tC rfl (fun hc28 => ?_) fun hc28 => ?_
   ·refine tQ <| tG <| sm 2 rfl <| nL <| tRt <| rOk rfl ?_ nPo
    (simp only [mTwo, *, if_true, Bool.false_eq_true, if_false, Bool.or_true, Bool.true_or, Bool.or_false] <;> rfl)
   refine tSk <| tQ <| tQ <| tG <| sm 2 rfl <| nL ?_
   refine tC rfl (fun hc30 => ?_) fun hc30 => ?_
   ·refine tQ <| tG <| sm 2 rfl <| cV rfl (oB rfl rfl (show z41 .quo .i64 a b = some (.int .i64 (w64 (a.tdiv b))) by simp [z41, w64, show ¬ b = 0 by simpa using hc28])) <| sm 2 rfl <| nL <| tRt <| rOk rfl ?_ nPo
    (exfalso; simp_all; done)
   refine tSk <| tQ <| tG <| sm 2 rfl <| cV rfl (oB rfl rfl (show z41 .rem .i64 a b = some (.int .i64 (a.tmod b)) by simp [z41, show ¬ b = 0 by simpa using hc28])) <| sm 2 rfl <| nL <| tRt <| rOk rfl ?_ nPo
   (simp only [mTwo, *, if_true, Bool.false_eq_true, if_false, Bool.or_true, Bool.true_or, Bool.or_false] <;> rfl)
  refine tQ <| tG <| sm 2 rfl <| nL ?_
  refine tC rfl (fun hc37 => ?_) fun hc37 => ?_
  ·refine tQ <| tG <| sm 5 rfl <| nL <| tRt <| rOk rfl ?_ nPo
   (simp only [mTwo, *, if_true, Bool.false_eq_true, if_false, Bool.or_true, Bool.true_or, Bool.or_false] <;> rfl)
  refine tQ <| tG <| sm 2 rfl <| nL ?_
  refine tC rfl (fun hc42 => ?_) fun hc42 => ?_
  ·refine tQ <| tG <| sm 5 rfl <| nL <| tRt <| rOk rfl ?_ nPo
   (simp only [mTwo, *, if_true, Bool.false_eq_true, if_false, Bool.or_true, Bool.true_or, Bool.or_false] <;> rfl)
  refine tQ <| tG <| sm 2 rfl <| nL ?_
  refine tC rfl (fun hc47 => ?_) fun hc47 => ?_
  ·refine tQ <| tG <| sm 5 rfl <| nL <| tRt <| rOk rfl ?_ nPo
   (simp only [mTwo, *, if_true, Bool.false_eq_true, if_false, Bool.or_true, Bool.true_or, Bool.or_false] <;> rfl)
  refine tQ <| tG <| sm 2 rfl <| nL ?_
  refine tC rfl (fun hc52 => ?_) fun hc52 => ?_
  ·refine tQ <| tG <| sm 3 rfl <| cV rfl (y95 rfl rfl rfl (y54 b)) <| sm 2 rfl <| nL <| tRt <| rOk rfl ?_ nPo
   (simp only [mTwo, *, if_true, Bool.false_eq_true, if_false, Bool.or_true, Bool.true_or, Bool.or_false] <;> rfl)
  refine tQ <| tG <| sm 2 rfl <| nL ?_
  refine tC rfl (fun hc58 => ?_) fun hc58 => ?_
  ·refine tQ <| tG <| sm 3 rfl <| cV rfl (y12 rfl rfl rfl (y54 b)) <| sm 2 rfl <| nL <| tRt <| rOk rfl ?_ nPo
   (simp only [mTwo, *, if_true, Bool.false_eq_true, if_false, Bool.or_true, Bool.true_or, Bool.or_false] <;> rfl)
  refine tQ <| tG <| sm 2 rfl <| nL ?_
  refine tC rfl (fun hc64 => ?_) fun hc64 => ?_
  ·refine tQ <| tG <| sm 1 rfl <| cV rfl (z4b rfl rfl ⟨_, uT3⟩ Tryz.underlying131) <| sm 2 rfl <| cV rfl (y12 rfl rfl rfl (y54 b)) <| cV rfl (z4b rfl rfl ⟨_, Tryz.underlying131⟩ uT3) <| sm 2 rfl <| nL <| tRt <| rOk rfl ?_ nPo
   (simp only [mTwo, *, if_true, Bool.false_eq_true, if_false, Bool.or_true, Bool.true_or, Bool.or_false] <;> rfl)
  refine tQ <| tG <| sm 2 rfl <| nL ?_
  refine tC rfl (fun hc72 => ?_) fun hc72 => ?_
  ·refine tQ <| tG <| sm 3 rfl <| cE rfl (ocq (z3z _) z6u rfl rfl) <| sm 2 rfl <| nL <| tRt <| rOk rfl ?_ nPo
   (simp only [mTwo, *, if_true, Bool.false_eq_true, if_false, Bool.or_true, Bool.true_or, Bool.or_false] <;> rfl)
  refine tQ <| tG <| sm 2 rfl <| nL ?_
  refine tC rfl (fun hc78 => ?_) fun hc78 => ?_
  ·refine tQ <| tG <| sm 3 rfl <| cE rfl (ocq (z3z _) z6u rfl rfl) <| sm 2 rfl <| nL <| tRt <| rOk rfl ?_ nPo
   (simp only [mTwo, *, if_true, Bool.false_eq_true, if_false, Bool.or_true, Bool.true_or, Bool.or_false] <;> rfl)
  refine tQ <| tG <| sm 2 rfl <| nL ?_
  refine tC rfl (fun hc84 => ?_) fun hc84 => ?_
  ·refine tQ <| tG <| sm 3 rfl <| cE rfl (ocq (z3z _) z6u rfl rfl) <| sm 2 rfl <| nL <| tRt <| rOk rfl ?_ nPo
   (simp only [mTwo, *, if_true, Bool.false_eq_true, if_false, Bool.or_true, Bool.true_or, Bool.or_false] <;> rfl)
  refine tQ <| tG <| sm 2 rfl <| nL ?_
  refine tC rfl (fun hc90 => ?_) fun hc90 => ?_
  ·refine tQ <| tG <| sm 3 rfl <| cE rfl (ocq (z3z _) z6u rfl rfl) <| sm 2 rfl <| nL <| tRt <| rOk rfl ?_ nPo
   (simp only [mTwo, *, if_true, Bool.false_eq_true, if_false, Bool.or_true, Bool.true_or, Bool.or_false] <;> rfl)
  refine tQ <| tG <| sm 2 rfl <| nL ?_
  refine tC rfl (fun hc96 => ?_) fun hc96 => ?_
  ·refine tQ <| tG <| sm 3 rfl <| cE rfl (ocq (z3z _) z6u rfl rfl) <| sm 2 rfl <| nL <| tRt <| rOk rfl ?_ nPo
   (simp only [mTwo, *, if_true, Bool.false_eq_true, if_false, Bool.or_true, Bool.true_or, Bool.or_false] <;> rfl)
  refine tQ <| tG <| sm 2 rfl <| nL ?_
  refine tC rfl (fun hc102 => ?_) fun hc102 => ?_
  ·refine tQ <| tG <| sm 3 rfl <| cE rfl (ocq (z3z _) z6u rfl rfl) <| sm 2 rfl <| nL <| tRt <| rOk rfl ?_ nPo
   (simp only [mTwo, *, if_true, Bool.false_eq_true, if_false, Bool.or_true, Bool.true_or, Bool.or_false] <;> rfl)
  refine tSk <| tQ <| tG <| sm 2 rfl <| nL <| tRt <| rOk rfl ?_ nPo
  (simp only [mTwo, *, if_true, Bool.false_eq_true, if_false, Bool.or_true, Bool.true_or, Bool.or_false] <;> rfl)
theorem z8l (u : Un) (s : Rs) : SC Tryz.prog 31 [.ptr 1001 0] (runH u s) (fun _ => True) (iBool (z4u s)) (runH u s) := by
  refine SC.of Tryz.func31 rfl (lb rfl) fun F ρ w => ?_
  refine tQ <| tG <| sm 1 rfl <| nL <| tQ <| tG <| sm 1 rfl <| cV rfl (nCk rfl rfl rfl) <| sm 3 rfl ?_
  refine wS 7 rfl (fun hb7 => ?_) fun hb7 => ?_
  ·refine sm 8 rfl <| nL <| tRt <| rOk rfl ?_ (fun _ _ h => h)
   cases hsp : s.spent <;> simp_all [z4u, iBool]
  refine sm 1 rfl <| yV rfl rfl (nCk rfl rfl rfl) <| sm 6 rfl <| nL <| tRt <| rOk rfl ?_ (fun _ _ h => h)
  cases hsp : s.spent <;> simp_all [z4u, iBool]
theorem sc_step (u : Un) (s : Rs) : SC Tryz.prog 71 [.ptr 1001 0] (runH u s) (fun _ => False) (iBool (zd7 s).1) (runH u (zd7 s).2) := by
  refine SC.of Tryz.func71 rfl (lb rfl) fun F ρ w => ?_
  refine tQ <| tG <| sm 1 rfl <| nL <| tQ <| tQ <| tG <| sm 1 rfl <| cE rfl (ocr (z8l u s) y05 rfl (fun _ _ h => h) rfl (fun k (h : _) => .inr trivial) rfl rfl) <| nL ?_
  refine tC rfl (fun hc4 => ?_) fun hc4 => ?_
  ·refine tQ <| tG <| sm 1 rfl <| nL <| tRt ?_
   have e : zd7 s = (false, s) := by simp [zd7, hc4]
   rw [e]
   refine rOk rfl rfl (po2 rfl rfl)
  refine tSk <| tQ <| tQ <| tG <| sm 1 rfl <| cV rfl (nCk rfl rfl rfl) <| sm 4 rfl <| nL ?_
  refine tC rfl (fun hc10 => ?_) fun hc10 => ?_
  ·refine tQ <| tG <| sm 1 rfl <| cV rfl (nCk rfl rfl rfl) <| sm 1 rfl <| c0 (sBx rfl rfl rfl rfl ((fun h => h)) tS4 (rfl) (lb rfl)) <| nL <| tQ <| tG <| sm 1 rfl <| nL <| tRt ?_
   have e : zd7 s = (false, { s with spent := true }) := by
     have h1 : s.fuel < 1 := by simpa using hc10
     simp [zd7, hc4, h1]
   rw [e]
   refine rOk rfl rfl (po2 rfl rfl)
  refine tSk <| tQ <| tG <| sm 2 rfl <| cV rfl (nCk rfl rfl rfl) <| sm 4 rfl <| cV rfl (nCk rfl rfl rfl) <| sm 2 rfl <| c0 (sBx rfl rfl rfl rfl ((fun h => h)) tS3 (rfl) (lb rfl)) <| nL <| tQ <| tG ?_
  refine sm 1 rfl <| nL <| tRt ?_
  have e : zd7 s = (true, { s with fuel := w64 (s.fuel - 1) }) := by
    have h1 : ¬ s.fuel < 1 := by simpa using hc10
    simp [zd7, hc4, h1]
  rw [e]
  refine rOk rfl rfl (po2 rfl rfl)
theorem sc_of (v l o : List Int) (h : mOf v l = some o) (hb : l.length <= 1073741824) : SC Tryz.prog 72 [.sl 510 (v.map eInt).length, .pv (ints l)] [(510, rowI v)] (fun k => k = 510) (.pv (ints o)) [(510, rowI v)] := by
  refine SC.of Tryz.func72 rfl (lb rfl) fun F ρ w => ?_
  refine Tr.lenOf (t := 1) rfl (fun hl => ?_)
  simp only [List.length_map] at hl
  refine tQ <| tG <| sm 1 rfl <| nL <| tQ <| tG <| sm 1 rfl <| nL <| tQ <| tQ <| Tr.grow (t := 5) (k := 105) ⟨3, 1⟩ rfl rfl rfl rfl rfl <| tG ?_
  refine sm 1 rfl <| nL <| tBk <| Tr.sub (Sub.of (fr' := [(6, iInt 0), (5, .sl 105 (([] : List Int).map eInt).length), (0, .sl 510 (v.map eInt).length), (1, .pv (ints l))]) ⟨rfl, rfl, rfl, rfl, trivial⟩) ?_
  refine Tr.heap (σ' := look [(105, some (rowI ([] : List Int))), (510, some (rowI v))]) (by
  intro j
  simp only [look]
  by_cases h1 : 105 = j
  · subst h1; rfl
  · simp [look, up, z12 h1]) ?_
  refine Tr.loop (fun fr σ m => ∃ (k : Nat) (acc : List Int), (k <= l.length) /\ ((mOf v (l.drop k)).map (acc ++ ·) = some o) /\ (acc.length = k) /\ fr = [(6, iInt k), (5, .sl 105 (acc.map eInt).length), (0, .sl 510 (v.map eInt).length), (1, .pv (ints l))] /\ σ = look [(105, some (rowI acc)), (510, some (rowI v))] /\ m = l.length - k) (n := l.length - 0) ?_ ?_
  ·exact ⟨0, ([] : List Int), Nat.zero_le _, (by rw [List.drop_zero, h]; rfl), rfl, rfl, rfl, rfl⟩
  rintro fr σ m ⟨k, acc, hI0, hI1, hI2, rfl, rfl, rfl⟩
  refine tQ <| tQ <| tG <| sm 2 rfl <| cV rfl (oSm uT35 rfl) <| sm 1 rfl <| nL ?_
  refine tC rfl (fun hc10 => ?_) fun hc10 => ?_
  ·have hlt : k < l.length := by simpa using hc10
   have hd := List.drop_eq_getElem_cons hlt
   have hm := List.getElem_mem hlt
   have hi := z0d (f := eInt) (List.getElem?_eq_getElem hlt)
   generalize l[k] = x at hd hm hi
   rw [hd] at hI1
   obtain ⟨y, hy, hO⟩ := mOf_step hI1
   obtain ⟨hx0, hxl, hxg⟩ := y8c hy
   have hal : (acc.map eInt).length = acc.length := by simp
   refine tSk <| tQ <| tBk <| tG <| sm 4 rfl <| cV rfl (iSq rfl rfl rfl uT35 hi tS3 rfl (by rfl)) <| sm 1 rfl <| cV rfl (iRw rfl rfl rfl rfl rfl uT35 tS3 hxl oM0) <| cV rfl (lRw rfl rfl rfl rfl (Nat.add_zero _).symm hxg rfl uT3 rfl trivial) <| cE rfl (bSl rfl rfl uT35 tZ3 tS3 rfl rfl rfl rfl (fbk rfl) rfl) ?_
   refine cE rfl (aPp rfl rfl rfl rfl (by rfl) sI0 uT35 tB3 dC0 (by (simp [z01]; done)) (by (simp [z01, PV.one]; rfl)) (by simp [maxLen, z01]; omega) (by simp [z01]; omega)) ?_
   refine sm 1 rfl <| nL <| tG <| sm 1 rfl <| cV rfl (oB rfl rfl (z05 rfl oM0)) <| sm 1 rfl <| nL ?_
   refine ⟨_, _, ?_, Sub.of (fr' := [(6, iInt (k + 1)), (5, .sl 105 ((acc ++ [y]).map eInt).length), (0, .sl 510 (v.map eInt).length), (1, .pv (ints l))]) ⟨rfl, congrArg (fun z => some (IV.sl _ z)) (by simp [z01, eInt]), rfl, rfl, trivial⟩, (k + 1), (acc ++ [y]), ?_, ?_, ?_, rfl, (funext (by
  intro j
  simp only [look]
  by_cases h1 : 105 = j
  · subst h1; exact congrArg (fun z => some (HO.row _ z)) (by simp [z01, eInt])
  · simp [look, z12 h1])), rfl⟩
   ·omega
   ·omega
   ·exact hO
   simp [hI2]
  refine tEx <| tQ <| Tr.freeze (t := 5) (k := 105) rfl rfl sI0 <| tG <| sm 2 rfl <| nL <| tRt <| rOk rfl ?_ (po1 rfl)
  have hge : l.length <= k := by simpa using hc10
  rw [List.drop_eq_nil_of_le hge] at hI1
  have : acc = o := by simpa [mOf] using hI1
  rw [this]
  rfl
theorem y4t (v l n v' : List Int) (h : mSet v l n = some v') : SC Tryz.prog 73 [.sl 510 (v.map eInt).length, .pv (ints l), .pv (ints n)] [(510, rowI v)] (fun _ => False) (.tup []) [(510, rowI v')] := by
  refine SC.of Tryz.func73 rfl (lb rfl) fun F ρ w => ?_
  refine Tr.lenOf (t := 1) rfl (fun hl => ?_)
  simp only [List.length_map] at hl
  refine Tr.lenOf (t := 2) rfl (fun hl2 => ?_)
  simp only [List.length_map] at hl2
  refine tQ <| tG <| sm 1 rfl <| nL <| tBk <| Tr.sub (Sub.of (fr' := [(6, iInt 0), (0, .sl 510 (v.map eInt).length), (1, .pv (ints l)), (2, .pv (ints n))]) ⟨rfl, rfl, rfl, rfl, trivial⟩) ?_
  refine Tr.loop (fun fr σ m => ∃ (k : Nat) (w1 : List Int) (m1 : List Int), (k <= l.length) /\ (mSet w1 (l.drop k) m1 = some v') /\ (w1.length = v.length) /\ (m1 = n.drop k) /\ fr = [(6, iInt k), (0, .sl 510 (v.map eInt).length), (1, .pv (ints l)), (2, .pv (ints n))] /\ σ = look [(510, some (rowI w1))] /\ m = l.length - k) (n := l.length - 0) ?_ ?_
  ·exact ⟨0, v, n, Nat.zero_le _, h, rfl, rfl, rfl, rfl, rfl⟩
  rintro fr σ m ⟨k, w1, m1, hI0, hI1, hI2, hI3, rfl, rfl, rfl⟩
  refine tQ <| tQ <| tG <| sm 2 rfl <| cV rfl (oSm uT35 rfl) <| sm 1 rfl <| nL ?_
  refine tC rfl (fun hc10 => ?_) fun hc10 => ?_
  ·have hlt : k < l.length := by simpa using hc10
   have hd := List.drop_eq_getElem_cons hlt
   have hm := List.getElem_mem hlt
   have hi := z0d (f := eInt) (List.getElem?_eq_getElem hlt)
   generalize l[k] = x at hd hm hi
   rw [hd] at hI1
   obtain ⟨y, m2, w2, hm1, hs, hO⟩ := y0w hI1
   obtain ⟨hx0, hxl, hw2⟩ := z8p hs
   obtain ⟨z0, hxg⟩ := y17 hxl
   have hwn : (w1.map eInt).length = (v.map eInt).length := by simp [hI2]
   have hxl2 : x.toNat < (v.map eInt).length := by rw [<- hwn]; exact hxl
   have hnk : n[k]? = some y := by
     have h0 := List.getElem?_drop (xs := n) (i := k) (j := 0)
     rw [<- hI3, hm1] at h0
     simpa using h0.symm
   have hi2 := z0d (f := eInt) hnk
   refine tSk <| tQ <| tBk <| tDr z1t (fun k => k ∈ ([] : List Nat)) <| wR 1 [0, 1, 2, 3, 4, 5, 6, 7, 8, 9] kR0 h30 <| smR 3 rfl <| rV rfl rfl (iSq rfl rfl rfl uT35 hi tS3 rfl (by rfl)) <| smR 3 rfl <| rV rfl rfl (iSq rfl rfl rfl uT35 hi2 tS3 rfl (by rfl)) <| smR 1 rfl <| rV rfl rfl (iRw rfl rfl rfl rfl hwn uT35 tS3 hxl2 oM0) <| nR ?_
   refine wO 10 kR0 <| wI rfl rfl nf (nOl rfl) (fun _ _ => z1s rfl rfl rfl rfl hwn (Nat.add_zero _).symm hxg sI0 tS3 rfl sI0) <| wDn kR0 <| tG <| sm 1 rfl <| cV rfl (oB rfl rfl (z05 rfl oM0)) <| sm 1 rfl <| nL ?_
   refine ⟨_, _, ?_, Sub.of (fr' := [(6, iInt (k + 1)), (0, .sl 510 (v.map eInt).length), (1, .pv (ints l)), (2, .pv (ints n))]) ⟨rfl, rfl, rfl, rfl, trivial⟩, (k + 1), w2, m2, ?_, ?_, ?_, ?_, rfl, (funext (by
  intro j
  simp only [look]
  by_cases h1 : 510 = j
  · subst h1; exact congrArg (fun z => some (HO.row _ z)) (by rw [hw2]; exact z4p _ _ _ _ hxg)
  · simp [look, z12 h1])), rfl⟩
   ·omega
   ·omega
   ·exact hO
   ·rw [hw2, List.length_set]; exact hI2
   rw [<- List.drop_drop, <- hI3, hm1]; rfl
  refine tEx ?_
  have hge : l.length <= k := by simpa using hc10
  rw [List.drop_eq_nil_of_le hge] at hI1
  have hw : w1 = v' := by simpa [mSet] using hI1
  subst hw
  refine end_ok rfl rfl (po1 rfl)
section
def z58 (s : Rs) : Rs := { s with cost := w64 (s.cost + 1) }
theorem zx8 {v v' : List Int} {x y : Int} (h : setV v x y = some v') : v'.length = v.length := by
  rw [(z8p h).2.2, List.length_set]
theorem zb0 : ∀ {l n v v' : List Int}, mSet v l n = some v' -> v'.length = v.length
  | [], _, _, _, h => by cases h; rfl
  | _ :: _, _, _, _, h => by
    obtain ⟨y, n', v1, rfl, h1, h2⟩ := y0w h
    rw [zb0 h2, zx8 h1]
theorem y0u {rec : List Nd -> List Int -> Rs -> Option Rres} {recLoop : Nd -> List Int -> List Int -> Rs -> Option Rres} {recSum : Nd -> List Int -> Rs -> Option (Int × Rs)} {x : Nd} {a v : List Int} {s : Rs} {r : Rres}
    (hr : ∀ q v s r, rec q v s = some r -> r.2.1.length = v.length) (hl : ∀ x v a s r, recLoop x v a s = some r -> r.2.1.length = v.length) (h : za8 rec recLoop recSum x a v s = some r) : r.2.1.length = v.length := by
  unfold za8 at h
  split at h
  ·simp only [Option.bind_eq_some_iff, Option.map_eq_some_iff] at h
   obtain ⟨o, _, v', h1, rfl⟩ := h
   exact zx8 h1
  split at h
  ·cases h; rfl
  split at h
  ·simp only [Option.bind_eq_some_iff] at h
   obtain ⟨a0, _, q, _, r1, h1, h2⟩ := h
   have h3 := hr _ _ _ _ h1
   split at h2
   ·simp only [Option.map_eq_some_iff] at h2
    obtain ⟨v', h4, rfl⟩ := h2
    exact (zb0 h4).trans h3
   cases h2; exact h3
  split at h
  ·exact hl _ _ _ _ _ h
  simp only [Option.bind_eq_some_iff] at h
  obtain ⟨r1, h1, h2⟩ := h
  split at h2
  ·simp only [Option.bind_eq_some_iff, Option.map_eq_some_iff] at h2
   obtain ⟨o, _, v', h4, rfl⟩ := h2
   exact zx8 h4
  cases h2; rfl
theorem zv9 (u : Un) : ∀ d, (∀ l v s r, z6h u d l v s = some r -> r.2.1.length = v.length) /\ ∀ x v a s r, zh0 u d x v a s = some r -> r.2.1.length = v.length
  | 0 => ⟨fun _ _ _ _ h => by simp [z6h] at h, fun _ _ _ _ _ h => by simp [zh0] at h⟩
  | d + 1 => by
    obtain ⟨i1, i2⟩ := zv9 u d
    refine ⟨fun l v s r h => ?_, fun x v a s r h => ?_⟩
    ·cases l with
     | nil => simp only [z6h] at h; cases h; rfl
     | cons x l =>
       rw [z6h] at h
       split at h
       ·cases h; rfl
       simp only [Option.bind_eq_some_iff] at h
       obtain ⟨a, _, r1, h1, h2⟩ := h
       have h3 := y0u i1 i2 h1
       split at h2
       ·cases h2; exact h3
       exact (i1 _ _ _ _ h2).trans h3
    rw [zh0] at h
    simp only [Option.bind_eq_some_iff] at h
    obtain ⟨v1, hv1, q, _, r1, h1, h2⟩ := h
    have h3 := (i1 _ _ _ _ h1).trans (zb0 hv1)
    split at h2
    ·cases h2; exact h3
    split at h2
    ·simp only [Option.map_eq_some_iff] at h2
     obtain ⟨v', h4, rfl⟩ := h2
     exact (zb0 h4).trans h3
    exact (i2 _ _ _ _ _ h2).trans h3
theorem y0t {u : Un} {d : Nat} {l : List Nd} {v : List Int} {s : Rs} {r : Rres} (h : z6h u d l v s = some r) : r.2.1.length = v.length := (zv9 u d).1 _ _ _ _ h
theorem y5l {u : Un} {d : Nat} {x : Nd} {v a : List Int} {s : Rs} {r : Rres} (h : zh0 u d x v a s = some r) : ∃ d1 v2 q r1, d = d1 + 1 /\ mSet v x.params a = some v2 /\ x.kids[0]? = some q /\ z6h u d1 q v2 s = some r1 /\
    (if z4u r1.2.2 || r1.1.1 == 15 then some r1 else if r1.1.1 == 14 then (mSet r1.2.1 x.outs r1.1.2).map fun v => ((0, []), v, r1.2.2) else zh0 u d1 x r1.2.1 r1.1.2 r1.2.2) = some r := by
  cases d with
  | zero => simp [zh0] at h
  | succ d =>
    rw [zh0] at h
    simp only [Option.bind_eq_some_iff] at h
    obtain ⟨v2, h1, q, h2, r1, h3, h4⟩ := h
    exact ⟨d, v2, q, r1, rfl, h1, h2, h3, h4⟩
theorem y5k {u : Un} {d : Nat} {x : Nd} {l : List Nd} {v : List Int} {s s2 : Rs} {r : Rres} (hs2 : (zd7 s).2 = s2) (h : z6h u d (x :: l) v s = some r) : ∃ d1, d = d1 + 1 /\ (((zd7 s).1 = false /\ r = ((0, []), v, s2)) ∨
    ((zd7 s).1 = true /\ ∃ a r1, mOf v x.args = some a /\ za8 (z6h u d1) (zh0 u d1) (mSum u d1) x a v s2 = some r1 /\ (if z4u r1.2.2 || r1.1.1 != 0 then some r1 else z6h u d1 l r1.2.1 r1.2.2) = some r)) := by
  cases d with
  | zero => simp [z6h] at h
  | succ d =>
    refine ⟨d, rfl, ?_⟩
    subst hs2
    rw [z6h] at h
    split at h
    ·rename_i s' e; cases h; exact .inl ⟨by rw [e], by rw [e]⟩
    rename_i s' e
    simp only [Option.bind_eq_some_iff] at h
    obtain ⟨a, h1, r1, h2, h3⟩ := h
    exact .inr ⟨by rw [e], a, r1, h1, by rw [e]; exact h2, h3⟩
section
variable {rec : List Nd -> List Int -> Rs -> Option Rres} {recLoop : Nd -> List Int -> List Int -> Rs -> Option Rres} {recSum : Nd -> List Int -> Rs -> Option (Int × Rs)} {x : Nd} {a v : List Int} {s : Rs} {r : Rres}
theorem y0v (h : za8 rec recLoop recSum x a v s = some r) (hk : (x.kind == 1 || x.kind == 2) = true) : ∃ o v2, x.outs[0]? = some o /\ setV v o x.n = some v2 /\ r = ((0, []), v2, s) := by
  unfold za8 at h
  rw [if_pos hk] at h
  simp only [Option.bind_eq_some_iff, Option.map_eq_some_iff] at h
  obtain ⟨o, h1, v2, h2, rfl⟩ := h
  exact ⟨o, v2, h1, h2, rfl⟩
theorem za9 (h : za8 rec recLoop recSum x a v s = some r) (hk : (x.kind == 12 || x.kind == 13 || x.kind == 14 || x.kind == 15) = true) : r = ((x.kind, a), v, s) := by
  unfold za8 at h
  rw [if_neg (by simp only [Bool.or_eq_true, beq_iff_eq] at hk ⊢; omega), if_pos hk] at h
  cases h; rfl
theorem mNode_if (h : za8 rec recLoop recSum x a v s = some r) (hk : (x.kind == 10) = true) : ∃ a0 q r1, a[0]? = some a0 /\ x.kids[if a0 != 0 then 0 else 1]? = some q /\ rec q v s = some r1 /\
    (if !z4u r1.2.2 && r1.1.1 == 12 then (mSet r1.2.1 x.outs r1.1.2).map fun v' => ((0, []), v', r1.2.2) else some r1) = some r := by
  unfold za8 at h
  rw [if_neg (by simp only [Bool.or_eq_true, beq_iff_eq] at hk ⊢; omega), if_neg (by simp only [Bool.or_eq_true, beq_iff_eq] at hk ⊢; omega), if_pos hk] at h
  simp only [Option.bind_eq_some_iff] at h
  obtain ⟨a0, h1, q, h2, r1, h3, h4⟩ := h
  exact ⟨a0, q, r1, h1, h2, h3, h4⟩
theorem y5m (h : za8 rec recLoop recSum x a v s = some r) (hk : (x.kind == 11) = true) : recLoop x v a s = some r := by
  unfold za8 at h
  rw [if_neg (by simp only [Bool.or_eq_true, beq_iff_eq] at hk ⊢; omega), if_neg (by simp only [Bool.or_eq_true, beq_iff_eq] at hk ⊢; omega), if_neg (by simp only [beq_iff_eq] at hk ⊢; omega), if_pos hk] at h
  exact h
theorem y8t (h : za8 rec recLoop recSum x a v s = some r) (h1 : (x.kind == 1 || x.kind == 2) = false) (h2 : (x.kind == 12 || x.kind == 13 || x.kind == 14 || x.kind == 15) = false) (h3 : (x.kind == 10) = false) (h4 : (x.kind == 11) = false) : ∃ r1, recSum x a s = some r1 /\
    (if !z4u r1.2 && decide (0 < x.outs.length) then (x.outs[0]?).bind fun o => (setV v o r1.1).map fun v' => ((0, []), v', r1.2) else some ((0, []), v, r1.2)) = some r := by
  unfold za8 at h
  rw [h1, h2, h3, h4] at h
  simp only [Bool.false_eq_true, if_false, Option.bind_eq_some_iff] at h
  exact h
end
theorem y5j {u : Un} {d : Nat} {k : Int} {a : List Int} {s : Rs} {r : Int × Rs} (h : zl3 u d k a s = some r) : ∃ d1 f r1, d = d1 + 1 /\ 0 <= k /\ u.flows[k.toNat]? = some f /\ a.length <= f.types.length /\ f.types.length <= 1073741824 /\
    z6h u d1 f.body (a ++ List.replicate (f.types.length - a.length) 0) s = some r1 /\ r = (if z4u r1.2.2 then 0 else r1.1.2.headD 0, r1.2.2) := by
  cases d with
  | zero => simp [zl3] at h
  | succ d =>
    rw [zl3] at h
    split at h
    ·rename_i hk
     simp only [Option.bind_eq_some_iff] at h
     obtain ⟨f, hf, h⟩ := h
     split at h
     ·rename_i hl
      simp only [Option.bind_eq_some_iff] at h
      obtain ⟨r1, h1, h2⟩ := h
      refine ⟨d, f, r1, rfl, hk, hf, hl.1, hl.2, h1, ?_⟩
      split at h2 <;> cases h2 <;> simp_all
     cases h
    cases h
variable {u : Un} {d : Nat} {x : Nd} {a : List Int} {s : Rs} {r : Int × Rs}
theorem mSum_pos (h : mSum u d x a s = some r) : ∃ d', d = d' + 1 := by
  cases d with
  | zero => simp [mSum] at h
  | succ d => exact ⟨d, rfl⟩
theorem mSum_one (h : mSum u (d + 1) x a s = some r) (hk : (x.kind == 3) = true) : ∃ a0, a[0]? = some a0 /\ r = (mOne x.op a0, z58 s) := by
  simp only [mSum, hk, if_true, Option.map_eq_some_iff] at h
  obtain ⟨a0, h1, rfl⟩ := h
  exact ⟨a0, h1, rfl⟩
theorem mSum_two (h : mSum u (d + 1) x a s = some r) (hk : (x.kind == 4) = true) : ∃ a0 a1, a[0]? = some a0 /\ a[1]? = some a1 /\ r = ((mTwo x.op a0 a1).1, if (mTwo x.op a0 a1).2 then z58 s else { z58 s with st := 2 }) := by
  have h3 : (x.kind == 3) = false := by have := eq_of_beq hk; rw [this]; rfl
  simp only [mSum, h3, hk, if_true, Bool.false_eq_true, if_false, Option.map_eq_some_iff, Option.bind_eq_some_iff] at h
  obtain ⟨a0, h1, a1, h2, rfl⟩ := h
  exact ⟨a0, a1, h1, h2, rfl⟩
theorem y0r {k n : Int} {q : Bool × Rs} (hk : k < 0) (h : mCell s k n = some q) : n < 0 /\ q = (false, { s with st := 3 }) := by
  unfold mCell at h
  split at h
  ·rename_i h1; cases h; exact ⟨h1, rfl⟩
  rw [if_neg oM0] at h; cases h
theorem y8w (hu : u.arrays = []) (h : mSum u (d + 1) x a s = some r) (hk : (x.kind == 5) = true) : ∃ a0, a[0]? = some a0 /\ a0 < 0 /\ r = (0, { z58 s with st := 3 }) := by
  have h3 : (x.kind == 3) = false := by have := eq_of_beq hk; rw [this]; rfl
  have h4 : (x.kind == 4) = false := by have := eq_of_beq hk; rw [this]; rfl
  simp only [mSum, h3, h4, hk, if_true, Bool.false_eq_true, if_false, Option.bind_eq_some_iff] at h
  obtain ⟨a0, h1, q, h2, h5⟩ := h
  rw [hu] at h2
  obtain ⟨h6, rfl⟩ := y0r (by show (-1 : Int) < 0; decide) h2
  simp only [Bool.false_eq_true, if_false] at h5
  cases h5
  exact ⟨a0, h1, h6, rfl⟩
theorem y5o (hu : u.arrays = []) (h : mSum u (d + 1) x a s = some r) (hk : (x.kind == 6) = true) : ∃ a0, a[0]? = some a0 /\ a0 < 0 /\ r = (0, { z58 s with st := 3 }) := by
  have h3 : (x.kind == 3) = false := by have := eq_of_beq hk; rw [this]; rfl
  have h4 : (x.kind == 4) = false := by have := eq_of_beq hk; rw [this]; rfl
  have h5 : (x.kind == 5) = false := by have := eq_of_beq hk; rw [this]; rfl
  simp only [mSum, h3, h4, h5, hk, if_true, Bool.false_eq_true, if_false, Option.bind_eq_some_iff] at h
  obtain ⟨a0, h1, q, h2, h5⟩ := h
  rw [hu] at h2
  obtain ⟨h6, rfl⟩ := y0r (by show (-1 : Int) < 0; decide) h2
  simp only [Bool.false_eq_true, if_false] at h5
  cases h5
  exact ⟨a0, h1, h6, rfl⟩
theorem y8u (h : mSum u (d + 1) x a s = some r) (hk : (x.kind == 7) = true) : zl3 u d (z08 x.name u.flows 0) a (z58 s) = some r := by
  have e := eq_of_beq hk
  simp only [mSum, e] at h
  exact h
theorem y5n (h : mSum u (d + 1) x a s = some r) (hk : (x.kind == 9) = true) : ∃ a0, a[0]? = some a0 /\ s.out.length < 1073741824 /\ r = (0, { z58 s with out := s.out ++ [a0] }) := by
  have e := eq_of_beq hk
  simp only [mSum, e] at h
  simp only [show ((9 : Int) == 3) = false from rfl, show ((9 : Int) == 4) = false from rfl, show ((9 : Int) == 5) = false from rfl, show ((9 : Int) == 6) = false from rfl, show ((9 : Int) == 7) = false from rfl, show ((9 : Int) == 9) = true from rfl, if_true, Bool.false_eq_true, if_false, Option.bind_eq_some_iff] at h
  obtain ⟨a0, h1, h2⟩ := h
  split at h2
  ·rename_i h3; cases h2; exact ⟨a0, h1, h3, rfl⟩
  cases h2
theorem y8x (h : mSum u (d + 1) x a s = some r) (hk : (x.kind == 8) = true) : (s.ins = [] /\ r = (0, { z58 s with st := 4 })) ∨ ∃ y q, s.ins = y :: q /\ r = (y, { z58 s with ins := q }) := by
  have e := eq_of_beq hk
  simp only [mSum, e] at h
  simp only [show ((8 : Int) == 3) = false from rfl, show ((8 : Int) == 4) = false from rfl, show ((8 : Int) == 5) = false from rfl, show ((8 : Int) == 6) = false from rfl, show ((8 : Int) == 7) = false from rfl, show ((8 : Int) == 9) = false from rfl, show ((8 : Int) == 8) = true from rfl, if_true, Bool.false_eq_true, if_false] at h
  split at h
  ·rename_i h1; cases h; exact .inl ⟨h1, rfl⟩
  rename_i y q h1; cases h; exact .inr ⟨y, q, h1, rfl⟩
theorem y8v (h : mSum u (d + 1) x a s = some r) (h3 : (x.kind == 3) = false) (h4 : (x.kind == 4) = false) (h5 : (x.kind == 5) = false) (h6 : (x.kind == 6) = false) (h7 : (x.kind == 7) = false) (h9 : (x.kind == 9) = false) (h8 : (x.kind == 8) = false) : r = (0, z58 s) := by
  simp only [mSum, h3, h4, h5, h6, h7, h8, h9, Bool.false_eq_true, if_false] at h
  cases h; rfl
end
theorem y4q (u : Un) (s : Rs) (k n : Int) (hn : n < 0) : SC Tryz.prog 99 [.ptr 1001 0, iInt k, iInt n] (runH u s) (fun _ => False) (iBool false) (runH u { s with st := 3 }) := by
  refine SC.of Tryz.func99 rfl (lb rfl) fun F ρ w => ?_
  refine tQ <| tG <| sm 1 rfl <| nL <| tQ <| tQ <| tG <| sm 3 rfl ?_
  refine wS 9 rfl (fun hb9 => ?_) fun hb9 => ?_
  ·refine sm 11 rfl <| nL <| Tr.condT rfl <| tQ <| tG <| sm 1 rfl <| cV rfl (nCk rfl rfl rfl) <| sm 2 rfl <| c0 (sBx rfl rfl rfl rfl ((fun h => h)) tS3 (rfl) (lb rfl)) <| nL <| tQ <| tG ?_
   refine sm 1 rfl <| nL <| tRt <| rOk rfl rfl (po2 rfl rfl)
  exact absurd hn (by simpa using hb9)
def SCC (u : Un) (D : Nat) : Prop := ∀ d, d < D -> ∀ k a s r, zl3 u d k a s = some r -> SC Tryz.prog 29 [.ptr 1001 0, iInt k, .pv (ints a)] (runH u s) (fun _ => False) (iInt r.1) (runH u r.2)
def SCL (u : Un) (D : Nat) : Prop := ∀ d, d < D -> ∀ l v s r, z6h u d l v s = some r -> lsW l <= 1073741824 -> SC Tryz.prog 49 [.ptr 1001 0, .pv (z0f l), .sl 510 (v.map eInt).length] (runV u s v) (fun _ => False) (.pv (endv r.1)) (runV u r.2.2 r.2.1)
theorem sc_sum (u : Un) (hu : u.arrays = []) (D : Nat) (ihC : SCC u D) (d : Nat) (hd : d <= D) (x : Nd) (a : List Int) (s : Rs) (r : Int × Rs) (h : mSum u d x a s = some r) : SC Tryz.prog 75 [.ptr 1001 0, .pv (ndv x), .pv (ints a)] (runH u s) (fun _ => False) (iInt r.1) (runH u r.2) := by
  refine SC.of Tryz.func75 rfl (lb rfl) fun F ρ w => ?_
  obtain ⟨d, rfl⟩ := mSum_pos h
  refine Tr.lenOf (t := 2) rfl (fun hl => ?_)
  simp only [List.length_map] at hl
  refine tQ <| tG <| cE rfl (z1y rfl rfl) <| sm 1 rfl <| nL <| tQ <| tG <| sm 2 rfl <| cV rfl (nCk rfl rfl rfl) <| sm 4 rfl <| cV rfl (nCk rfl rfl rfl) <| sm 2 rfl ?_
  refine c0 (sBx rfl rfl rfl rfl ((fun h => h)) tS3 (rfl) (lb rfl)) <| nL <| tQ <| Tr.heap (σ' := look (up (runH u (z58 s)))) (lkq [1001, 1002] rfl rfl ⟨rfl, rfl, trivial⟩) <| tDr z1t (fun k => k ∈ ([1001] : List Nat)) <| wR 2 [0, 1, 2, 3, 4, 5] kR0 h30 <| smR 1 rfl <| rV rfl rfl (nCk rfl rfl rfl) <| smR 1 rfl <| rV rfl rfl (lBP rfl rfl rfl uT25 rfl tS25 (lb rfl) rfl dC0) <| smR 2 rfl <| nR ?_
  refine wO 6 kR0 <| wI rfl rfl nf nw (fun _ _ => ocq (z91 _ _) ent51 rfl rfl) <| wR 0 [7] kR0 h30 <| smR 1 rfl <| nR <| wDn kR0 <| tQ <| tQ <| tG <| sm 2 rfl <| nL <| tBk ?_
  refine tQ <| tG <| sm 2 rfl <| nL ?_
  refine tC rfl (fun hc30 => ?_) fun hc30 => ?_
  ·obtain ⟨a0, h0, rfl⟩ := mSum_one h hc30
   have hi0 := z0d (f := eInt) h0
   refine tQ <| tDr z1t (fun k => k ∈ ([] : List Nat)) <| wR 2 [0, 1, 2, 3, 4] kR0 h30 <| smR 3 rfl <| rV rfl rfl (iSq rfl rfl rfl uT35 hi0 tS3 rfl (by rfl)) <| smR 1 rfl <| nR <| wO 5 kR0 <| wI rfl rfl nf nw (fun _ _ => ocq (sc_mOne _ _) ent97 rfl rfl) <| wR 0 [6] kR0 h30 <| smR 1 rfl <| nR ?_
   refine wDn kR0 <| tRt <| rOk rfl ?_ (po2 rfl rfl)
   rfl
  refine tQ <| tG <| sm 2 rfl <| nL ?_
  refine tC rfl (fun hc38 => ?_) fun hc38 => ?_
  ·obtain ⟨a0, a1, h0, h1, rfl⟩ := mSum_two h hc38
   have hi0 := z0d (f := eInt) h0
   have hi1 := z0d (f := eInt) h1
   refine tQ <| tDr z1t (fun k => k ∈ ([] : List Nat)) <| wR 6 [0, 1, 2, 3, 4, 5, 6, 7] kR0 h30 <| smR 3 rfl <| rV rfl rfl (iSq rfl rfl rfl uT35 hi0 tS3 rfl (by rfl)) <| smR 2 rfl <| rV rfl rfl (iSq rfl rfl rfl uT35 hi1 tS3 rfl (by rfl)) <| smR 1 rfl <| nR <| wO 8 kR0 <| wI rfl rfl nf nw (fun _ _ => ocq (sc_mTwo _ _ _) ent98 rfl rfl) <| wR 0 [9, 10, 11, 12, 13] kR0 h30 ?_
   refine smR 1 rfl <| rV rfl rfl (z1w rfl rfl rfl) <| rV rfl rfl (z1w rfl rfl rfl) <| smR 2 rfl <| nR <| wDn kR0 <| tQ <| tQ <| tG <| sm 2 rfl <| nL ?_
   refine tC rfl (fun hc53 => ?_) fun hc53 => ?_
   ·have hok : (mTwo x.op a0 a1).2 = false := by simpa using hc53
    refine tG <| sm 1 rfl <| cV rfl (nCk rfl rfl rfl) <| sm 2 rfl <| c0 (sBx rfl rfl rfl rfl ((fun h => h)) tS3 (rfl) (lb rfl)) <| nL <| tQ <| tG <| sm 2 rfl <| nL <| tRt ?_
    rw [hok]
    refine rOk rfl rfl (po2 rfl rfl)
   have hok : (mTwo x.op a0 a1).2 = true := by simpa using hc53
   refine tSk <| tQ <| tG <| sm 2 rfl <| nL <| tRt ?_
   rw [hok]
   refine rOk rfl rfl (po2 rfl rfl)
  refine tQ <| tG <| sm 2 rfl <| nL ?_
  refine tC rfl (fun hc59 => ?_) fun hc59 => ?_
  ·obtain ⟨a0, h0, ha0, rfl⟩ := y8w hu h hc59
   have hi0 := z0d (f := eInt) h0
   refine tQ <| tG <| sm 3 rfl <| cV rfl (iSq rfl rfl rfl uT35 hi0 tS3 rfl (by rfl)) <| sm 1 rfl <| cE rfl (ocr (y4q u (z58 s) _ a0 ha0) ent99 rfl (fun _ _ h => h) rfl (fun k (h : _) => .inr h) rfl rfl) <| nL ?_
   refine tC rfl (fun hc66 => ?_) fun hc66 => ?_
   ·cases hc66
   refine tSk <| tQ <| tG <| sm 1 rfl <| nL <| tRt <| rOk rfl rfl (po2 rfl rfl)
  refine tQ <| tG <| sm 2 rfl <| nL ?_
  refine tC rfl (fun hc79 => ?_) fun hc79 => ?_
  ·obtain ⟨a0, h0, ha0, rfl⟩ := y5o hu h hc79
   have hi0 := z0d (f := eInt) h0
   refine tQ <| tG <| sm 3 rfl <| cV rfl (iSq rfl rfl rfl uT35 hi0 tS3 rfl (by rfl)) <| sm 1 rfl <| cE rfl (ocr (y4q u (z58 s) _ a0 ha0) ent99 rfl (fun _ _ h => h) rfl (fun k (h : _) => .inr h) rfl rfl) <| nL ?_
   refine tC rfl (fun hc86 => ?_) fun hc86 => ?_
   ·cases hc86
   refine tSk <| tQ <| tG <| sm 1 rfl <| nL <| tRt <| rOk rfl rfl (po2 rfl rfl)
  refine tQ <| tG <| sm 2 rfl <| nL ?_
  refine tC rfl (fun hc101 => ?_) fun hc101 => ?_
  ·have hcall := y8u h hc101
   refine tQ <| tDr z1t (fun k => k ∈ ([] : List Nat)) <| wR 4 [0, 1, 2, 3, 5, 6, 8] kR0 h30 <| smR 2 rfl <| rV rfl rfl (nCk rfl rfl rfl) <| smR 4 rfl <| nR <| wO 4 kR0 <| wI rfl rfl nf nw (fun _ _ => OkV.ok (R1 := fun _ => True) ((lBP rfl rfl rfl uT25 rfl tS25 (lb rfl) rfl trivial))) <| wO 7 kR0 <| wI rfl rfl nf nw (fun _ _ => ocq (z5v _ _) y59 rfl rfl) <| wO 9 kR0 ?_
   refine wI rfl rfl nf (nAp rfl) (fun _ _ => ocr (ihC d oM0 _ a (z58 s) r hcall) ent29 rfl (fun _ _ h => h) rfl nl rfl rfl) <| wR 0 [10] kR0 h30 <| smR 1 rfl <| nR <| wDn kR0 <| tRt <| rOk rfl ?_ (po2 rfl rfl)
   rfl
  refine tQ <| tG <| sm 2 rfl <| nL ?_
  refine tC rfl (fun hc113 => ?_) fun hc113 => ?_
  ·obtain ⟨a0, h0, hol, rfl⟩ := y5n h hc113
   have hi0 := z0d (f := eInt) h0
   have hol2 : (z58 s).out.length < 1073741824 := hol
   refine tDr z1t (fun k => k ∈ ([] : List Nat)) <| wR 7 [0, 1, 2, 3, 4, 6, 7, 8] kR0 h30 <| smR 2 rfl <| rV rfl rfl (nCk rfl rfl rfl) <| smR 3 rfl <| rV rfl rfl (iSq rfl rfl rfl uT35 hi0 tS3 rfl (by rfl)) <| smR 1 rfl <| nR <| WA.all (rs := [5, 9]) kR0 sI0 ?_
   refine fmc ⟨?_, fmc ⟨?_, by simp⟩⟩
   ·refine wI rfl rfl nf nw (fun _ _ => OkV.ok (R1 := fun _ => True) ((z0v rfl rfl rfl uT35 rfl rfl trivial))) <| wO 9 kR0 <| wI rfl rfl nf nw (fun _ _ => bSl rfl rfl uT35 tZ3 tS3 rfl rfl rfl rfl (fbk rfl) rfl) <| wO 10 kR0 ?_
    refine wI rfl rfl nf (nOl rfl) (fun _ _ => aPp rfl rfl rfl rfl (by rfl) sI0 uT35 tB3 dC0 (by (simp [z01]; done)) (by (simp [z01, PV.one]; rfl)) (by simp [maxLen, z01]; omega) (by simp [z01]; omega)) ?_
    refine wR 1 [11, 12, 13] kR0 h30 <| rV rfl rfl (nCk rfl rfl rfl) <| smR 2 rfl <| nR <| wO 14 kR0 <| wI rfl rfl nf (nOl rfl) (fun _ _ => sBx rfl rfl rfl rfl sI0 tS35 (⟨_, _, rfl, by simp⟩) (lb rfl)) <| wDn kR0 <| tQ <| tG <| sm 1 rfl <| nL <| tRt <| rOk rfl rfl (z2d (And.intro (congrArg (fun z => some (HO.box z)) (by simp [z01, eInt, z58])) (And.intro (congrArg (fun z => some (HO.row _ z)) (by simp [z01, eInt, z58])) trivial)))
   refine wI rfl rfl nf nw (fun _ _ => bSl rfl rfl uT35 tZ3 tS3 rfl rfl rfl rfl (fbk rfl) rfl) <| wO 5 kR0 <| wI rfl rfl nf nw (fun _ _ => OkV.ok (R1 := fun _ => True) ((z0v rfl rfl rfl uT35 rfl rfl trivial))) <| wO 10 kR0 ?_
   refine wI rfl rfl nf (nOl rfl) (fun _ _ => aPp rfl rfl rfl rfl (by rfl) sI0 uT35 tB3 dC0 (by (simp [z01]; done)) (by (simp [z01, PV.one]; rfl)) (by simp [maxLen, z01]; omega) (by simp [z01]; omega)) ?_
   refine wR 1 [11, 12, 13] kR0 h30 <| rV rfl rfl (nCk rfl rfl rfl) <| smR 2 rfl <| nR <| wO 14 kR0 <| wI rfl rfl nf (nOl rfl) (fun _ _ => sBx rfl rfl rfl rfl sI0 tS35 (⟨_, _, rfl, by simp⟩) (lb rfl)) <| wDn kR0 <| tQ <| tG <| sm 1 rfl <| nL <| tRt <| rOk rfl rfl (z2d (And.intro (congrArg (fun z => some (HO.box z)) (by simp [z01, eInt, z58])) (And.intro (congrArg (fun z => some (HO.row _ z)) (by simp [z01, eInt, z58])) trivial)))
  refine tQ <| tG <| sm 2 rfl <| nL ?_
  refine tC rfl (fun hc129 => ?_) fun hc129 => ?_
  ·have hrd := y8x h hc129
   refine tQ <| tQ <| tG <| sm 1 rfl <| cV rfl (nCk rfl rfl rfl) <| sm 2 rfl <| cV rfl (oSm uT35 rfl) <| sm 1 rfl <| nL ?_
   refine tC rfl (fun hc136 => ?_) fun hc136 => ?_
   ·obtain ⟨hin, rfl⟩ : s.ins = [] /\ r = (0, { z58 s with st := 4 }) := by
      rcases hrd with h1 | ⟨y, q, h1, _⟩
      ·exact h1
      simp [z58, h1] at hc136
      omega
    refine tQ <| tG <| sm 1 rfl <| cV rfl (nCk rfl rfl rfl) <| sm 2 rfl <| c0 (sBx rfl rfl rfl rfl ((fun h => h)) tS3 (rfl) (lb rfl)) <| nL <| tQ <| tG <| sm 1 rfl <| nL <| tRt <| rOk rfl ?_ (po2 rfl rfl)
    rfl
   obtain ⟨y, q, hin, rfl⟩ : ∃ y q, s.ins = y :: q /\ r = (y, { z58 s with ins := q }) := by
     rcases hrd with ⟨h1, _⟩ | h1
     ·simp [z58, h1] at hc136
     exact h1
   have hil : (z58 s).ins = y :: q := hin
   have hi0 : ((z58 s).ins.map eInt)[0]? = some (eInt y) := by show (s.ins.map eInt)[0]? = _; rw [hin]; rfl
   refine tSk <| tQ <| tG <| sm 1 rfl <| cV rfl (nCk rfl rfl rfl) <| sm 2 rfl <| cV rfl (iSq rfl rfl rfl uT35 hi0 tS3 rfl (by rfl)) <| sm 2 rfl <| nL <| tQ <| tG <| sm 2 rfl ?_
   refine cV rfl (nCk rfl rfl rfl) <| sm 2 rfl ?_
   refine cV rfl (z8f (i := 1) (j := (y :: q).length) rfl (show _ = some (IV.pv (ints (z58 s).ins)) from rfl) uT35 tS3 (.inr ⟨_, _, rfl, rfl⟩) (.inl ⟨rfl, by simp [hil]⟩) sI0 (by simp [hil]) z56) ?_
   refine cV rfl (nCk rfl rfl rfl) <| sm 1 rfl <| c0 (sBx rfl rfl rfl rfl ((fun h => h)) tS35 (rfl) (lb rfl)) <| nL <| tQ <| tG <| sm 2 rfl <| nL <| tRt <| rOk rfl rfl (z2d (And.intro (congrArg (fun z => some (HO.box z)) (by (simp [hil, ints, List.take_of_length_le]; done))) (And.intro rfl trivial)))
  obtain rfl := y8v h hc30 hc38 hc59 hc79 hc101 hc113 hc129
  refine tSk <| tQ <| tG <| sm 1 rfl <| nL <| tRt <| rOk rfl rfl (po2 rfl rfl)
theorem zk1 : PSub (.agg [vInt 0, .val (.slice none 0 0)]) (endv (0, [])) := PSub.agg (ps := [vInt 0, .val (.slice none 0 0)]) (qs := [vInt 0, .seq []]) (And.intro (PSub.refl _) (And.intro PSub.nil trivial))
theorem sc_loop (u : Un) (D : Nat) (ihL : SCL u D) (d : Nat) (hd : d <= D) (x : Nd) (hx : ndW x <= 1073741824) (v a : List Int) (s : Rs) (r : Rres) (h : zh0 u d x v a s = some r) : SC Tryz.prog 74 [.ptr 1001 0, .pv (ndv x), .sl 510 (v.map eInt).length, .pv (ints a)] (runV u s v) (fun _ => False) (.pv (endv r.1)) (runV u r.2.2 r.2.1) := by
  refine SC.ofC Tryz.func74 rfl (lb rfl) rfl fun F ρ w => ?_
  refine tQ <| tG <| cE rfl (z1y rfl rfl) <| cE rfl (aLc (k := 108) rfl tZ82 rfl rfl rfl rfl) <| nL <| tBk <| Tr.sub (Sub.of (fr' := [(8, .ptr 108 0), (5, .pv (.ept [vInt x.kind, vInt x.op, vInt x.n, vStr x.name, ints x.args, ints x.outs, ints x.params, kids x.kids] 0)), (0, .ptr 1001 0), (2, .sl 510 (v.map eInt).length), (3, .pv (ints a))]) ⟨rfl, rfl, rfl, rfl, rfl, trivial⟩) <| Tr.heap (σ' := look [(108, some (.box [iInt 0, .pv (.val (.slice none 0 0))])), (1001, some (z5k u s)), (1002, some (rowI (s).out)), (510, some (rowI v))]) (lkq [108, 1001, 1002, 510] rfl rfl ⟨rfl, rfl, rfl, rfl, trivial⟩) ?_
  refine Tr.loop (fun fr σ m => ∃ (d0 : Nat) (v1 : List Int) (a1 : List Int) (s1 : Rs), (d0 <= d) /\ (zh0 u d0 x v1 a1 s1 = some r) /\ ((v1.map eInt).length = (v.map eInt).length) /\ fr = [(8, .ptr 108 0), (5, .pv (.ept [vInt x.kind, vInt x.op, vInt x.n, vStr x.name, ints x.args, ints x.outs, ints x.params, kids x.kids] 0)), (0, .ptr 1001 0), (2, .sl 510 (v.map eInt).length), (3, .pv (ints a1))] /\ σ = look [(108, some (.box [iInt 0, .pv (.val (.slice none 0 0))])), (1001, some (z5k u s1)), (1002, some (rowI (s1).out)), (510, some (rowI v1))] /\ m = d0) (n := d) ?_ ?_
  ·exact ⟨d, v, a, s, Nat.le_refl _, h, rfl, rfl, rfl, rfl⟩
  rintro fr σ m ⟨d0, v1, a1, s1, hI0, hI1, hI2, rfl, rfl, rfl⟩
  obtain ⟨d1, v2, q, r1, rfl, hset, hq, hlist, hrest⟩ := y5l hI1
  have hi0 := z0d (f := eKid) hq
  have hqb : lsW q <= 1073741824 := by have := zl1 (List.mem_of_getElem? hq); have := zg0 x; omega
  have hl2 : (v2.map eInt).length = (v.map eInt).length := by rw [<- hI2]; simp [zb0 hset]
  have hl3 : (r1.2.1.map eInt).length = (v.map eInt).length := by rw [<- hl2]; simp [y0t hlist]
  refine tBk <| tQ <| tG <| sm 4 rfl <| cE rfl (cRr (y4t v1 x.params a1 v2 hset) ent73 rfl rfl (sSm (congrArg (fun n => IV.sl 510 n) hI2.symm) (sRf _ _)) (po1 rfl) (by rfl) (fun k (h : _) => .inr h) rfl (by rfl)) <| nL <| tQ <| Tr.heap (σ' := look [(108, some (.box [iInt 0, .pv (.val (.slice none 0 0))])), (1001, some (z5k u s1)), (1002, some (rowI (s1).out)), (510, some (rowI v2))]) (lkq [108, 1001, 1002, 510] rfl rfl ⟨rfl, rfl, rfl, rfl, trivial⟩) <| tG <| sm 3 rfl <| cV rfl (iSq rfl rfl rfl uT40 hi0 tS43 rfl (by rfl)) <| sm 2 rfl ?_
  refine cE rfl (cRr (ihL d1 oM0 q v2 s1 r1 hlist hqb) ent49 rfl rfl (sSm rfl (sSm rfl (sSm (congrArg (fun n => IV.sl 510 n) hl2.symm) Subs.nil))) (po3 rfl rfl rfl) (by rfl) (fun k (h : _) => .inr h) rfl (by rfl)) <| cE rfl (aLc (k := 109) rfl tZ82 rfl rfl rfl rfl) <| c0 (sBA rfl rfl rfl rfl rfl ((fun h => h)) tS82 (flk rfl) (lb rfl)) <| nL <| tQ <| tBk <| tQ <| Tr.freezeBox (t := 9) (k := 109) rfl rfl rfl <| Tr.heap (σ' := look [(108, some (.box [iInt 0, .pv (.val (.slice none 0 0))])), (1001, some (z5k u r1.2.2)), (1002, some (rowI (r1.2.2).out)), (510, some (rowI r1.2.1))]) (lkq [109, 108, 1001, 1002, 510] rfl rfl ⟨rfl, rfl, rfl, rfl, rfl, trivial⟩) <| tG <| sm 1 rfl <| cE rfl (ocr (z8l u r1.2.2) y05 rfl (po2 rfl rfl) rfl (fun k (h : _) => .inr trivial) rfl rfl) ?_
  refine sm 1 rfl ?_
  refine wS 25 rfl (fun hb25 => ?_) fun hb25 => ?_
  ·refine sm 5 rfl <| nL <| Tr.condT rfl <| tQ <| tG <| cV rfl (lEA rfl rfl Tryz.underlying82 rfl tS82 (lb rfl)) <| c0 (sBA rfl rfl rfl rfl rfl ((fun h => h)) tS82 (flk rfl) (lb rfl)) <| nL <| tRt ?_
   have hov : (z4u r1.2.2 || r1.1.1 == 15) = true := by first | (rw [hb25]; rfl) | (rw [hc22, Bool.or_true])
   rw [if_pos hov] at hrest
   obtain rfl : r1 = r := by injection hrest
   refine rCk (.inl rfl) (fun _ _ ho => lBP ho rfl rfl Tryz.underlying82 rfl tS82 (lb rfl) rfl trivial) rfl (po3 rfl rfl rfl)
  refine sm 5 rfl <| nL ?_
  refine tC rfl (fun hc22 => ?_) fun hc22 => ?_
  ·refine tQ <| tG <| cV rfl (lEA rfl rfl Tryz.underlying82 rfl tS82 (lb rfl)) <| c0 (sBA rfl rfl rfl rfl rfl ((fun h => h)) tS82 (flk rfl) (lb rfl)) <| nL <| tRt ?_
   have hov : (z4u r1.2.2 || r1.1.1 == 15) = true := by first | (rw [hb25]; rfl) | (rw [hc22, Bool.or_true])
   rw [if_pos hov] at hrest
   obtain rfl : r1 = r := by injection hrest
   refine rCk (.inl rfl) (fun _ _ ho => lBP ho rfl rfl Tryz.underlying82 rfl tS82 (lb rfl) rfl trivial) rfl (po3 rfl rfl rfl)
  rw [if_neg (by rw [hb25, hc22]; decide)] at hrest
  refine tQ <| tG <| sm 4 rfl <| nL ?_
  refine tC rfl (fun hc31 => ?_) fun hc31 => ?_
  ·rw [if_pos hc31, Option.map_eq_some_iff] at hrest
   obtain ⟨v3, hset2, rfl⟩ := hrest
   refine tQ <| tG <| sm 5 rfl <| cE rfl (cRr (y4t r1.2.1 x.outs r1.1.2 v3 hset2) ent73 rfl rfl (sSm (congrArg (fun n => IV.sl 510 n) hl3.symm) (sRf _ _)) (po1 rfl) (by rfl) (fun k (h : _) => .inr h) rfl (by rfl)) <| nL <| tQ <| tG <| cV rfl (bPu rfl rfl tZ82 tP82 rfl (fbk rfl) rfl) <| WL.sub (Sub.cons2 (fun _ _ _ _ h => z42 zk1 h) Sub.rfl') <| c0 (sBA rfl rfl rfl rfl rfl ((fun h => h)) tS82 (flk rfl) (lb rfl)) <| nL <| tRt <| rCk (.inl rfl) (fun _ _ ho => lBP ho rfl rfl Tryz.underlying82 rfl tS82 (lb rfl) rfl trivial) rfl (po3 rfl rfl rfl)
  rw [if_neg (by rw [hc31]; decide)] at hrest
  have hrest3 := hrest
  refine tSk <| tG <| sm 3 rfl <| nL ?_
  refine ⟨_, _, ?_, Sub.of (fr' := [(8, .ptr 108 0), (5, .pv (.ept [vInt x.kind, vInt x.op, vInt x.n, vStr x.name, ints x.args, ints x.outs, ints x.params, kids x.kids] 0)), (0, .ptr 1001 0), (2, .sl 510 (v.map eInt).length), (3, .pv (ints r1.1.2))]) ⟨rfl, rfl, rfl, rfl, rfl, trivial⟩, d1, r1.2.1, r1.1.2, r1.2.2, ?_, ?_, ?_, rfl, (funext (lkq [108, 1001, 1002, 510] rfl rfl ⟨rfl, rfl, rfl, rfl, trivial⟩)), rfl⟩
  ·omega
  ·omega
  ·exact hrest3
  exact hl3
theorem y8s {u : Un} {d : Nat} {v : List Int} {s : Rs} {r : Rres} (h : z6h u d [] v s = some r) : r = ((0, []), v, s) := by
  cases d with
  | zero => simp [z6h] at h
  | succ d => simp only [z6h] at h; cases h; rfl
theorem sc_list0 (u : Un) (hu : u.arrays = []) (D : Nat) (ihC : SCC u D) (ihL : SCL u D) (d : Nat) (hd : d <= D) (l : List Nd) (v : List Int) (s : Rs) (r : Rres) (h : z6h u d l v s = some r) (hb : lsW l <= 1073741824) : SC Tryz.prog 49 [.ptr 1001 0, .pv (z0f l), .sl 510 (v.map eInt).length] (runV u s v) (fun _ => False) (.pv (endv r.1)) (runV u r.2.2 r.2.1) := by
  refine SC.ofC Tryz.func49 rfl (lb rfl) rfl fun F ρ w => ?_
  refine Tr.lenOf (t := 1) rfl (fun hl => ?_)
  simp only [List.length_map] at hl
  refine tQ <| tG <| cE rfl (aLc (k := 106) rfl tZ82 rfl rfl rfl rfl) <| nL <| tQ <| tQ <| Tr.subBox (k := 106) [.pv (vInt 0), .pv (ints [])] rfl ⟨ISub.refl _, ISub.pv PSub.nil, trivial⟩ (fun h => h) <| tG <| sm 1 rfl <| nL <| tBk <| Tr.sub (Sub.of (fr' := [(7, iInt 0), (6, .ptr 106 0), (0, .ptr 1001 0), (1, .pv (z0f l)), (2, .sl 510 (v.map eInt).length)]) ⟨rfl, rfl, rfl, rfl, rfl, trivial⟩) ?_
  refine Tr.heap (σ' := look [(106, some (.box [.pv (vInt 0), .pv (ints [])])), (1001, some (z5k u s)), (1002, some (rowI (s).out)), (510, some (rowI v))]) (lkq [106, 1001, 1002, 510] rfl rfl ⟨rfl, rfl, rfl, rfl, trivial⟩) ?_
  refine Tr.loop (fun fr σ m => ∃ (k : Nat) (d0 : Nat) (v1 : List Int) (s1 : Rs), (k <= l.length) /\ (d0 <= d) /\ (z6h u d0 (l.drop k) v1 s1 = some r) /\ ((v1.map eInt).length = (v.map eInt).length) /\ fr = [(7, iInt k), (6, .ptr 106 0), (0, .ptr 1001 0), (1, .pv (z0f l)), (2, .sl 510 (v.map eInt).length)] /\ σ = look [(106, some (.box [.pv (vInt 0), .pv (ints [])])), (1001, some (z5k u s1)), (1002, some (rowI (s1).out)), (510, some (rowI v1))] /\ m = l.length - k) (n := l.length - 0) ?_ ?_
  ·exact ⟨0, d, v, s, Nat.zero_le _, Nat.le_refl _, h, rfl, rfl, rfl, rfl⟩
  rintro fr σ m ⟨k, d0, v1, s1, hIk, hI1, hI2, hI3, rfl, rfl, rfl⟩
  refine tQ <| tQ <| tG <| sm 2 rfl <| cV rfl (oSm uT43 rfl) <| sm 1 rfl <| nL ?_
  refine tC rfl (fun hc16 => ?_) fun hc16 => ?_
  ·have hlt : k < l.length := by simpa using hc16
   have hd2 := List.drop_eq_getElem_cons hlt
   have hm := List.getElem_mem hlt
   have hi := z0t (List.getElem?_eq_getElem hlt)
   generalize l[k] = x at hd2 hm hi
   rw [hd2] at hI2
   obtain ⟨s2, hs2⟩ : ∃ s2, (zd7 s1).2 = s2 := ⟨_, rfl⟩
   obtain ⟨d1, rfl, hst⟩ := y5k hs2 hI2
   have hxb : ndW x <= 1073741824 := by have := y2q hm; omega
   refine tSk <| tQ <| tBk <| tQ <| tG <| sm 2 rfl <| cV rfl (iSq rfl rfl rfl uT43 hi tS42 rfl (by rfl)) <| cV rfl (lEA rfl rfl uT42 rfl tS42 (lb rfl)) <| cE rfl (aLc (k := 108) rfl tZ42 rfl rfl rfl rfl) <| c0 (sBA rfl rfl rfl rfl rfl ((fun h => h)) tS42 (flk rfl) (lb rfl)) <| nL <| tQ ?_
   refine tQ <| Tr.freezeBox (t := 8) (k := 108) rfl rfl rfl <| Tr.heap (σ' := look [(106, some (.box [.pv (vInt 0), .pv (ints [])])), (1001, some (z5k u s1)), (1002, some (rowI (s1).out)), (510, some (rowI v1))]) (lkq [108, 106, 1001, 1002, 510] rfl rfl ⟨rfl, rfl, rfl, rfl, rfl, trivial⟩) <| tG <| sm 1 rfl <| cE rfl (ocr (sc_step u s1) ent71 rfl (po2 rfl rfl) rfl (fun k (h : _) => .inr h) rfl rfl) ?_
   rw [hs2]
   refine sm 1 rfl <| nL ?_
   refine tC rfl (fun hc25 => ?_) fun hc25 => ?_
   ·refine tQ <| tG <| cV rfl (bPu rfl rfl tZ82 tP82 rfl (fbk rfl) rfl) <| WL.sub (Sub.cons2 (fun _ _ _ _ h => z42 zk1 h) Sub.rfl') <| c0 (sBA rfl rfl rfl rfl rfl ((fun h => h)) tS82 (flk rfl) (lb rfl)) <| nL <| tRt ?_
    obtain rfl : r = ((0, []), v1, s2) := by
      rcases hst with ⟨_, e⟩ | ⟨e, _⟩
      ·exact e
      rw [e] at hc25; exact absurd hc25 dC0
    refine rCk (.inl rfl) (fun _ _ ho => lBP ho rfl rfl Tryz.underlying82 rfl tS82 (lb rfl) rfl trivial) rfl (po3 rfl rfl rfl)
   obtain ⟨hst1, a, r1, hof, hnode, hrest⟩ := hst.resolve_left (fun hh => by rw [hh.1] at hc25; exact absurd hc25 dC0)
   have hl1 : (r1.2.1.map eInt).length = (v.map eInt).length := by
     have := y0u (fun _ _ _ _ h => (zv9 u d1).1 _ _ _ _ h) (fun _ _ _ _ _ h => (zv9 u d1).2 _ _ _ _ _ h) hnode
     rw [<- hI3, List.length_map, List.length_map, this]
   refine Tr.heap (σ' := look [(106, some (.box [.pv (vInt 0), .pv (ints [])])), (1001, some (z5k u s2)), (1002, some (rowI (s2).out)), (510, some (rowI v1))]) (lkq [106, 1001, 1002, 510] rfl rfl ⟨rfl, rfl, rfl, rfl, trivial⟩) <| tSk <| tQ <| tG <| sm 3 rfl <| cE rfl (cRr (sc_of v1 x.args a hof (by have := zg0 x; omega)) ent72 rfl rfl (sSm (congrArg (fun n => IV.sl 510 n) hI3.symm) (sRf _ _)) (po1 rfl) (by rfl) (fun k (h : _) => (show False from h).elim) rfl (by rfl)) <| sm 1 rfl <| nL <| tQ <| tG <| cE rfl (aLc (k := 110) rfl tZ82 rfl rfl rfl rfl) <| nL ?_
   refine tQ <| tQ <| Tr.subBox (k := 110) [.pv (vInt 0), .pv (ints [])] rfl ⟨ISub.refl _, ISub.pv PSub.nil, trivial⟩ (fun h => h) <| Tr.heap (σ' := look [(110, some (.box [.pv (vInt (((0, []) : Rend)).1), .pv (ints (((0, []) : Rend)).2)])), (106, some (.box [.pv (vInt 0), .pv (ints [])])), (1001, some (z5k u s2)), (1002, some (rowI (s2).out)), (510, some (rowI v1))]) (lkq [110, 106, 1001, 1002, 510] rfl rfl ⟨rfl, rfl, rfl, rfl, rfl, trivial⟩) <| tG <| sm 2 rfl <| nL ?_
   refine Tr.cutR (fr' := [(10, .ptr 110 0), (7, iInt k), (6, .ptr 106 0), (0, .ptr 1001 0), (1, .pv (z0f l)), (2, .sl 510 (v.map eInt).length)]) (σ' := look [(110, some (.box [.pv (vInt (r1.1).1), .pv (ints (r1.1).2)])), (106, some (.box [.pv (vInt 0), .pv (ints [])])), (1001, some (z5k u r1.2.2)), (1002, some (rowI (r1.2.2).out)), (510, some (rowI r1.2.1))]) ?_ ?_
   ·refine tBk <| tQ <| tQ <| tG <| sm 2 rfl <| nL ?_
    refine tC rfl (fun hc53 => ?_) fun hc53 => ?_
    ·refine tSk ?_
     refine tC rfl (fun hd53 => ?_) fun hd53 => ?_
     ·have hk : (x.kind == 1 || x.kind == 2) = true := by first | (rw [hc53]; rfl) | (rw [hc53, Bool.or_true])
      obtain ⟨o, v2, ho, hv0, rfl⟩ := y0v hnode hk
      obtain ⟨hx0, hxl, hv2⟩ := z8p hv0
      obtain ⟨z0, hxg⟩ := y17 hxl
      have hi2 := z0d (f := eInt) ho
      have hxl2 : o.toNat < (v.map eInt).length := by rw [<- hI3]; exact hxl
      refine tDr z1t (fun k => k ∈ ([] : List Nat)) <| wR 1 [0, 1, 2, 3, 4, 5, 6, 7] kR0 (fun _ _ _ h => h.elim (fun g => pn g.1) (fun g => g.2)) <| smR 3 rfl <| rV rfl rfl (iSq rfl rfl rfl uT35 hi2 tS3 rfl (by rfl)) <| smR 3 rfl <| rV rfl rfl (iRw rfl rfl rfl rfl hI3 uT35 tS3 hxl2 oM0) <| nR <| wO 8 kR0 <| wI rfl rfl nf (nOl rfl) (fun _ _ => z1s rfl rfl rfl rfl hI3 (Nat.add_zero _).symm hxg sI0 tS3 rfl sI0) <| wDn kR0 <| Or.inl ?_
      refine ⟨rfl, Sub.of ⟨rfl, rfl, rfl, rfl, rfl, rfl, trivial⟩, funext (lkq [110, 106, 1001, 1002, 510] rfl rfl ⟨rfl, rfl, rfl, rfl, (by first | rfl | exact congrArg (fun z => some (HO.row _ z)) (by rw [hv2]; exact z4p _ _ _ _ hxg)), trivial⟩)⟩
     exact absurd (hc53.symm.trans hd53) dC0
    have hk1 := hc53
    refine tG <| sm 2 rfl <| nL ?_
    refine tC rfl (fun hc53 => ?_) fun hc53 => ?_
    ·have hk : (x.kind == 1 || x.kind == 2) = true := by first | (rw [hc53]; rfl) | (rw [hc53, Bool.or_true])
     obtain ⟨o, v2, ho, hv0, rfl⟩ := y0v hnode hk
     obtain ⟨hx0, hxl, hv2⟩ := z8p hv0
     obtain ⟨z0, hxg⟩ := y17 hxl
     have hi2 := z0d (f := eInt) ho
     have hxl2 : o.toNat < (v.map eInt).length := by rw [<- hI3]; exact hxl
     refine tDr z1t (fun k => k ∈ ([] : List Nat)) <| wR 1 [0, 1, 2, 3, 4, 5, 6, 7] kR0 (fun _ _ _ h => h.elim (fun g => pn g.1) (fun g => g.2)) <| smR 3 rfl <| rV rfl rfl (iSq rfl rfl rfl uT35 hi2 tS3 rfl (by rfl)) <| smR 3 rfl <| rV rfl rfl (iRw rfl rfl rfl rfl hI3 uT35 tS3 hxl2 oM0) <| nR <| wO 8 kR0 <| wI rfl rfl nf (nOl rfl) (fun _ _ => z1s rfl rfl rfl rfl hI3 (Nat.add_zero _).symm hxg sI0 tS3 rfl sI0) <| wDn kR0 <| Or.inl ?_
     refine ⟨rfl, Sub.of ⟨rfl, rfl, rfl, rfl, rfl, rfl, trivial⟩, funext (lkq [110, 106, 1001, 1002, 510] rfl rfl ⟨rfl, rfl, rfl, rfl, (by first | rfl | exact congrArg (fun z => some (HO.row _ z)) (by rw [hv2]; exact z4p _ _ _ _ hxg)), trivial⟩)⟩
    refine tQ <| tQ ?_
    have hk12 : (x.kind == 1 || x.kind == 2) = false := by rw [hk1, hc53]; rfl
    refine tG <| sm 2 rfl <| nL ?_
    refine tC rfl (fun hc64 => ?_) fun hc64 => ?_
    ·refine tSk ?_
     refine tC rfl (fun hd64 => ?_) fun hd64 => ?_
     ·refine tQ ?_
      have hke : (x.kind == 12 || x.kind == 13 || x.kind == 14 || x.kind == 15) = true := by simp only [hc64, Bool.or_true, Bool.true_or]
      obtain rfl := za9 hnode hke
      have hne : (x.kind != 0) = true := by rw [eq_of_beq hc64]; rfl
      simp only [hne, Bool.or_true, if_true] at hrest
      cases hrest
      refine tG <| sm 3 rfl <| cV rfl (bPu rfl rfl tZ82 tP82 rfl (fbk rfl) rfl) <| c0 (sBA rfl rfl rfl rfl rfl ((fun h => h)) tS82 (flk rfl) (lb rfl)) <| nL <| tRt ?_
      refine Or.inr ⟨Exit.noConfusion, ?_⟩
      refine rCk (.inl rfl) (fun _ _ ho => lBP ho rfl rfl Tryz.underlying82 rfl tS82 (lb rfl) rfl trivial) rfl (po3 rfl rfl rfl)
     exact absurd (hc64.symm.trans hd64) dC0
    refine tQ ?_
    have hk3 := hc64
    refine tG <| sm 2 rfl <| nL ?_
    refine tC rfl (fun hc64 => ?_) fun hc64 => ?_
    ·refine tSk ?_
     refine tC rfl (fun hd64 => ?_) fun hd64 => ?_
     ·refine tQ ?_
      have hke : (x.kind == 12 || x.kind == 13 || x.kind == 14 || x.kind == 15) = true := by simp only [hc64, Bool.or_true, Bool.true_or]
      obtain rfl := za9 hnode hke
      have hne : (x.kind != 0) = true := by rw [eq_of_beq hc64]; rfl
      simp only [hne, Bool.or_true, if_true] at hrest
      cases hrest
      refine tG <| sm 3 rfl <| cV rfl (bPu rfl rfl tZ82 tP82 rfl (fbk rfl) rfl) <| c0 (sBA rfl rfl rfl rfl rfl ((fun h => h)) tS82 (flk rfl) (lb rfl)) <| nL <| tRt ?_
      refine Or.inr ⟨Exit.noConfusion, ?_⟩
      refine rCk (.inl rfl) (fun _ _ ho => lBP ho rfl rfl Tryz.underlying82 rfl tS82 (lb rfl) rfl trivial) rfl (po3 rfl rfl rfl)
     exact absurd (hc64.symm.trans hd64) dC0
    refine tQ ?_
    have hk4 := hc64
    refine tG <| sm 2 rfl <| nL ?_
    refine tC rfl (fun hc64 => ?_) fun hc64 => ?_
    ·refine tSk ?_
     refine tC rfl (fun hd64 => ?_) fun hd64 => ?_
     ·refine tQ ?_
      have hke : (x.kind == 12 || x.kind == 13 || x.kind == 14 || x.kind == 15) = true := by simp only [hc64, Bool.or_true, Bool.true_or]
      obtain rfl := za9 hnode hke
      have hne : (x.kind != 0) = true := by rw [eq_of_beq hc64]; rfl
      simp only [hne, Bool.or_true, if_true] at hrest
      cases hrest
      refine tG <| sm 3 rfl <| cV rfl (bPu rfl rfl tZ82 tP82 rfl (fbk rfl) rfl) <| c0 (sBA rfl rfl rfl rfl rfl ((fun h => h)) tS82 (flk rfl) (lb rfl)) <| nL <| tRt ?_
      refine Or.inr ⟨Exit.noConfusion, ?_⟩
      refine rCk (.inl rfl) (fun _ _ ho => lBP ho rfl rfl Tryz.underlying82 rfl tS82 (lb rfl) rfl trivial) rfl (po3 rfl rfl rfl)
     exact absurd (hc64.symm.trans hd64) dC0
    have hk5 := hc64
    refine tG <| sm 2 rfl <| nL ?_
    refine tC rfl (fun hc64 => ?_) fun hc64 => ?_
    ·refine tQ ?_
     have hke : (x.kind == 12 || x.kind == 13 || x.kind == 14 || x.kind == 15) = true := by simp only [hc64, Bool.or_true, Bool.true_or]
     obtain rfl := za9 hnode hke
     have hne : (x.kind != 0) = true := by rw [eq_of_beq hc64]; rfl
     simp only [hne, Bool.or_true, if_true] at hrest
     cases hrest
     refine tG <| sm 3 rfl <| cV rfl (bPu rfl rfl tZ82 tP82 rfl (fbk rfl) rfl) <| c0 (sBA rfl rfl rfl rfl rfl ((fun h => h)) tS82 (flk rfl) (lb rfl)) <| nL <| tRt ?_
     refine Or.inr ⟨Exit.noConfusion, ?_⟩
     refine rCk (.inl rfl) (fun _ _ ho => lBP ho rfl rfl Tryz.underlying82 rfl tS82 (lb rfl) rfl trivial) rfl (po3 rfl rfl rfl)
    refine tQ ?_
    have hke : (x.kind == 12 || x.kind == 13 || x.kind == 14 || x.kind == 15) = false := by rw [hk3, hk4, hk5, hc64]; rfl
    refine tG <| sm 2 rfl <| nL ?_
    refine tC rfl (fun hc73 => ?_) fun hc73 => ?_
    ·refine tQ ?_
     obtain ⟨a0, q, r2, ha0, hq, hlist, hcont⟩ := mNode_if hnode hc73
     have hi0 := z0d (f := eInt) ha0
     have hl2 : (r2.2.1.map eInt).length = (v.map eInt).length := by rw [<- hI3]; simp [y0t hlist]
     refine tG <| sm 1 rfl <| nL <| tQ <| tQ <| tG <| sm 1 rfl <| cV rfl (iSq rfl rfl rfl uT35 hi0 tS3 rfl (by rfl)) <| sm 2 rfl <| nL ?_
     refine tC rfl (fun hc78 => ?_) fun hc78 => ?_
     ·rw [if_pos hc78] at hq
      have hi1 := z0d (f := eKid) hq
      have hqb : lsW q <= 1073741824 := by have := zl1 (List.mem_of_getElem? hq); have := zg0 x; omega
      refine tG <| sm 1 rfl <| nL <| tQ <| tG <| sm 4 rfl <| cV rfl (iSq rfl rfl rfl uT40 hi1 tS43 rfl (by rfl)) <| sm 2 rfl <| cE rfl (cRr (ihL d1 oM0 q v1 s2 r2 hlist hqb) ent49 rfl rfl (sSm rfl (sSm rfl (sSm (congrArg (fun n => IV.sl 510 n) hI3.symm) Subs.nil))) (po3 rfl rfl rfl) (by rfl) (fun k (h : _) => .inr h) rfl (by rfl)) <| c0 (sBA rfl rfl rfl rfl rfl ((fun h => h)) tS82 (flk rfl) (lb rfl)) <| nL <| tQ ?_
      refine tG <| sm 1 rfl <| cE rfl (ocr (z8l u r2.2.2) y05 rfl (po2 rfl rfl) rfl (fun k (h : _) => .inr trivial) rfl rfl) <| sm 2 rfl ?_
      refine wS 90 rfl (fun hb90 => ?_) fun hb90 => ?_
      ·refine sm 4 rfl <| nL ?_
       refine tC rfl (fun hc94 => ?_) fun hc94 => ?_
       ·have hcd : (!z4u r2.2.2 && r2.1.1 == 12) = true := by rw [hb90, hc94]; rfl
        rw [if_pos hcd, Option.map_eq_some_iff] at hcont
        obtain ⟨v3, hset, rfl⟩ := hcont
        refine tQ <| tG <| sm 5 rfl <| cE rfl (cRr (y4t r2.2.1 x.outs r2.1.2 v3 hset) ent73 rfl rfl (sSm (congrArg (fun n => IV.sl 510 n) hl2.symm) (sRf _ _)) (po1 rfl) (by rfl) (fun k (h : _) => .inr h) rfl (by rfl)) <| nL <| tG <| cV rfl (bPu rfl rfl tZ82 tP82 rfl (fbk rfl) rfl) <| WL.sub (Sub.cons2 (fun _ _ _ _ h => z42 zk1 h) Sub.rfl') <| c0 (sBA rfl rfl rfl rfl rfl ((fun h => h)) tS82 (flk rfl) (lb rfl)) <| nL <| Or.inl ?_
        refine ⟨rfl, Sub.of ⟨rfl, rfl, rfl, rfl, rfl, rfl, trivial⟩, funext (lkq [110, 106, 1001, 1002, 510] rfl rfl ⟨rfl, rfl, rfl, rfl, (by first | rfl | exact congrArg (fun z => some (HO.row _ z)) (by rw [hv2]; exact z4p _ _ _ _ hxg)), trivial⟩)⟩
       have hcd : (!z4u r2.2.2 && r2.1.1 == 12) = false := by first | (rw [hb90, hc94]; rfl) | (rw [hb90]; rfl)
       rw [if_neg (by rw [hcd]; decide)] at hcont
       cases hcont
       refine tSk <| Or.inl ?_
       refine ⟨rfl, Sub.of ⟨rfl, rfl, rfl, rfl, rfl, rfl, trivial⟩, funext (lkq [110, 106, 1001, 1002, 510] rfl rfl ⟨rfl, rfl, rfl, rfl, (by first | rfl | exact congrArg (fun z => some (HO.row _ z)) (by rw [hv2]; exact z4p _ _ _ _ hxg)), trivial⟩)⟩
      refine sm 4 rfl <| nL <| Tr.condF rfl ?_
      have hcd : (!z4u r2.2.2 && r2.1.1 == 12) = false := by first | (rw [hb90, hc94]; rfl) | (rw [hb90]; rfl)
      rw [if_neg (by rw [hcd]; decide)] at hcont
      cases hcont
      refine tSk <| Or.inl ?_
      refine ⟨rfl, Sub.of ⟨rfl, rfl, rfl, rfl, rfl, rfl, trivial⟩, funext (lkq [110, 106, 1001, 1002, 510] rfl rfl ⟨rfl, rfl, rfl, rfl, (by first | rfl | exact congrArg (fun z => some (HO.row _ z)) (by rw [hv2]; exact z4p _ _ _ _ hxg)), trivial⟩)⟩
     rw [if_neg (by rw [hc78]; decide)] at hq
     have hi1 := z0d (f := eKid) hq
     have hqb : lsW q <= 1073741824 := by have := zl1 (List.mem_of_getElem? hq); have := zg0 x; omega
     refine tSk <| tQ <| tG <| sm 4 rfl <| cV rfl (iSq rfl rfl rfl uT40 hi1 tS43 rfl (by rfl)) <| sm 2 rfl <| cE rfl (cRr (ihL d1 oM0 q v1 s2 r2 hlist hqb) ent49 rfl rfl (sSm rfl (sSm rfl (sSm (congrArg (fun n => IV.sl 510 n) hI3.symm) Subs.nil))) (po3 rfl rfl rfl) (by rfl) (fun k (h : _) => .inr h) rfl (by rfl)) <| c0 (sBA rfl rfl rfl rfl rfl ((fun h => h)) tS82 (flk rfl) (lb rfl)) <| nL <| tQ <| tG <| sm 1 rfl ?_
     refine cE rfl (ocr (z8l u r2.2.2) y05 rfl (po2 rfl rfl) rfl (fun k (h : _) => .inr trivial) rfl rfl) <| sm 2 rfl ?_
     refine wS 90 rfl (fun hb90 => ?_) fun hb90 => ?_
     ·refine sm 4 rfl <| nL ?_
      refine tC rfl (fun hc94 => ?_) fun hc94 => ?_
      ·have hcd : (!z4u r2.2.2 && r2.1.1 == 12) = true := by rw [hb90, hc94]; rfl
       rw [if_pos hcd, Option.map_eq_some_iff] at hcont
       obtain ⟨v3, hset, rfl⟩ := hcont
       refine tQ <| tG <| sm 5 rfl <| cE rfl (cRr (y4t r2.2.1 x.outs r2.1.2 v3 hset) ent73 rfl rfl (sSm (congrArg (fun n => IV.sl 510 n) hl2.symm) (sRf _ _)) (po1 rfl) (by rfl) (fun k (h : _) => .inr h) rfl (by rfl)) <| nL <| tG <| cV rfl (bPu rfl rfl tZ82 tP82 rfl (fbk rfl) rfl) <| WL.sub (Sub.cons2 (fun _ _ _ _ h => z42 zk1 h) Sub.rfl') <| c0 (sBA rfl rfl rfl rfl rfl ((fun h => h)) tS82 (flk rfl) (lb rfl)) <| nL <| Or.inl ?_
       refine ⟨rfl, Sub.of ⟨rfl, rfl, rfl, rfl, rfl, rfl, trivial⟩, funext (lkq [110, 106, 1001, 1002, 510] rfl rfl ⟨rfl, rfl, rfl, rfl, (by first | rfl | exact congrArg (fun z => some (HO.row _ z)) (by rw [hv2]; exact z4p _ _ _ _ hxg)), trivial⟩)⟩
      have hcd : (!z4u r2.2.2 && r2.1.1 == 12) = false := by first | (rw [hb90, hc94]; rfl) | (rw [hb90]; rfl)
      rw [if_neg (by rw [hcd]; decide)] at hcont
      cases hcont
      refine tSk <| Or.inl ?_
      refine ⟨rfl, Sub.of ⟨rfl, rfl, rfl, rfl, rfl, rfl, trivial⟩, funext (lkq [110, 106, 1001, 1002, 510] rfl rfl ⟨rfl, rfl, rfl, rfl, (by first | rfl | exact congrArg (fun z => some (HO.row _ z)) (by rw [hv2]; exact z4p _ _ _ _ hxg)), trivial⟩)⟩
     refine sm 4 rfl <| nL <| Tr.condF rfl ?_
     have hcd : (!z4u r2.2.2 && r2.1.1 == 12) = false := by first | (rw [hb90, hc94]; rfl) | (rw [hb90]; rfl)
     rw [if_neg (by rw [hcd]; decide)] at hcont
     cases hcont
     refine tSk <| Or.inl ?_
     refine ⟨rfl, Sub.of ⟨rfl, rfl, rfl, rfl, rfl, rfl, trivial⟩, funext (lkq [110, 106, 1001, 1002, 510] rfl rfl ⟨rfl, rfl, rfl, rfl, (by first | rfl | exact congrArg (fun z => some (HO.row _ z)) (by rw [hv2]; exact z4p _ _ _ _ hxg)), trivial⟩)⟩
    refine tQ ?_
    have hk10 := hc73
    refine tG <| sm 2 rfl <| nL ?_
    refine tC rfl (fun hc102 => ?_) fun hc102 => ?_
    ·have hlp := y5m hnode hc102
     refine tG <| sm 1 rfl <| cV rfl (lEA rfl rfl uT42 rfl tS42 (lb rfl)) <| sm 2 rfl <| cE rfl (cRr (sc_loop u D ihL d1 oM0 x hxb v1 a s2 r1 hlp) ent74 rfl rfl (sSm rfl (sSm rfl (sSm (congrArg (fun n => IV.sl 510 n) hI3.symm) (sRf _ _)))) (po3 rfl rfl rfl) (by rfl) (fun k (h : _) => .inr h) rfl (by rfl)) <| c0 (sBA rfl rfl rfl rfl rfl ((fun h => h)) tS82 (flk rfl) (lb rfl)) <| nL <| Or.inl ?_
     refine ⟨rfl, Sub.of ⟨rfl, rfl, rfl, rfl, rfl, rfl, trivial⟩, funext (lkq [110, 106, 1001, 1002, 510] rfl rfl ⟨rfl, rfl, rfl, rfl, (by first | rfl | exact congrArg (fun z => some (HO.row _ z)) (by rw [hv2]; exact z4p _ _ _ _ hxg)), trivial⟩)⟩
    refine tQ ?_
    obtain ⟨q1, hsum, hcont⟩ := y8t hnode hk12 hke hk10 hc102
    refine tG <| sm 1 rfl <| cV rfl (lEA rfl rfl uT42 rfl tS42 (lb rfl)) <| sm 1 rfl <| cE rfl (ocr (sc_sum u hu D ihC d1 oM0 x a s2 q1 hsum) ent75 rfl (po2 rfl rfl) rfl (fun k (h : _) => .inr h) rfl rfl) <| sm 1 rfl <| nL <| tQ <| tG <| sm 1 rfl <| cE rfl (ocr (z8l u q1.2) y05 rfl (po2 rfl rfl) rfl (fun k (h : _) => .inr trivial) rfl rfl) <| sm 2 rfl ?_
    refine wS 40 rfl (fun hb40 => ?_) fun hb40 => ?_
    ·refine sm 2 rfl <| yV rfl rfl (oSm uT35 rfl) <| sm 2 rfl <| nL ?_
     refine tC rfl (fun hc45 => ?_) fun hc45 => ?_
     ·have h0 : 0 < x.outs.length := by simpa using hc45
      rw [if_pos (by rw [hb40, decide_eq_true h0]; rfl)] at hcont
      simp only [Option.bind_eq_some_iff, Option.map_eq_some_iff] at hcont
      obtain ⟨o, ho, v2, hv0, rfl⟩ := hcont
      obtain ⟨hx0, hxl, hv2⟩ := z8p hv0
      obtain ⟨z0, hxg⟩ := y17 hxl
      have hi2 := z0d (f := eInt) ho
      have hxl2 : o.toNat < (v.map eInt).length := by rw [<- hI3]; exact hxl
      refine tG <| sm 3 rfl <| cV rfl (iSq rfl rfl rfl uT35 hi2 tS3 rfl (by rfl)) <| sm 2 rfl <| cV rfl (iRw rfl rfl rfl rfl hI3 uT35 tS3 hxl2 oM0) <| c0 (z1s rfl rfl rfl rfl hI3 (Nat.add_zero _).symm hxg sI0 tS3 rfl sI0) <| nL <| Or.inl ?_
      refine ⟨rfl, Sub.of ⟨rfl, rfl, rfl, rfl, rfl, rfl, trivial⟩, funext (lkq [110, 106, 1001, 1002, 510] rfl rfl ⟨rfl, rfl, rfl, rfl, (by first | rfl | exact congrArg (fun z => some (HO.row _ z)) (by rw [hv2]; exact z4p _ _ _ _ hxg)), trivial⟩)⟩
     have hcd : (!z4u q1.2 && decide (0 < x.outs.length)) = false := by first | (rw [hb40]; rfl) | (rw [hb40]; simpa using hc45)
     rw [if_neg (by rw [hcd]; decide)] at hcont
     cases hcont
     refine tSk <| Or.inl ?_
     refine ⟨rfl, Sub.of ⟨rfl, rfl, rfl, rfl, rfl, rfl, trivial⟩, funext (lkq [110, 106, 1001, 1002, 510] rfl rfl ⟨rfl, rfl, rfl, rfl, (by first | rfl | exact congrArg (fun z => some (HO.row _ z)) (by rw [hv2]; exact z4p _ _ _ _ hxg)), trivial⟩)⟩
    refine sm 5 rfl <| nL <| Tr.condF rfl ?_
    have hcd : (!z4u q1.2 && decide (0 < x.outs.length)) = false := by first | (rw [hb40]; rfl) | (rw [hb40]; simpa using hc45)
    rw [if_neg (by rw [hcd]; decide)] at hcont
    cases hcont
    refine tSk <| Or.inl ?_
    refine ⟨rfl, Sub.of ⟨rfl, rfl, rfl, rfl, rfl, rfl, trivial⟩, funext (lkq [110, 106, 1001, 1002, 510] rfl rfl ⟨rfl, rfl, rfl, rfl, (by first | rfl | exact congrArg (fun z => some (HO.row _ z)) (by rw [hv2]; exact z4p _ _ _ _ hxg)), trivial⟩)⟩
   refine tQ <| tG <| sm 1 rfl <| cE rfl (ocr (z8l u r1.2.2) y05 rfl (po2 rfl rfl) rfl (fun k (h : _) => .inr trivial) rfl rfl) <| sm 1 rfl ?_
   refine wS 111 rfl (fun hb111 => ?_) fun hb111 => ?_
   ·refine sm 4 rfl <| nL <| Tr.condT rfl ?_
    have hov : (z4u r1.2.2 || r1.1.1 != 0) = true := by first | (rw [hb111]; rfl) | (rw [hc115, Bool.or_true])
    rw [if_pos hov] at hrest
    obtain rfl : r1 = r := by injection hrest
    refine tQ <| tG <| cV rfl (lBP rfl rfl rfl Tryz.underlying82 rfl tS82 (lb rfl) rfl trivial) <| c0 (sBA rfl rfl rfl rfl rfl ((fun h => h)) tS82 (flk rfl) (lb rfl)) <| nL <| tRt <| rCk (.inl rfl) (fun _ _ ho => lBP ho rfl rfl Tryz.underlying82 rfl tS82 (lb rfl) rfl trivial) rfl (po3 rfl rfl rfl)
   refine sm 4 rfl <| nL ?_
   refine tC rfl (fun hc115 => ?_) fun hc115 => ?_
   ·have hov : (z4u r1.2.2 || r1.1.1 != 0) = true := by first | (rw [hb111]; rfl) | (rw [hc115, Bool.or_true])
    rw [if_pos hov] at hrest
    obtain rfl : r1 = r := by injection hrest
    refine tQ <| tG <| cV rfl (lBP rfl rfl rfl Tryz.underlying82 rfl tS82 (lb rfl) rfl trivial) <| c0 (sBA rfl rfl rfl rfl rfl ((fun h => h)) tS82 (flk rfl) (lb rfl)) <| nL <| tRt <| rCk (.inl rfl) (fun _ _ ho => lBP ho rfl rfl Tryz.underlying82 rfl tS82 (lb rfl) rfl trivial) rfl (po3 rfl rfl rfl)
   rw [if_neg (by rw [hb111, hc115]; decide)] at hrest
   refine tSk <| Tr.drop (k := 110) <| tG <| sm 1 rfl <| cV rfl (oB rfl rfl (z05 rfl oM0)) <| sm 1 rfl <| nL ?_
   refine ⟨_, _, ?_, Sub.of (fr' := [(7, iInt (k + 1)), (6, .ptr 106 0), (0, .ptr 1001 0), (1, .pv (z0f l)), (2, .sl 510 (v.map eInt).length)]) ⟨rfl, rfl, rfl, rfl, rfl, trivial⟩, (k + 1), d1, r1.2.1, r1.2.2, ?_, ?_, ?_, ?_, rfl, (funext (lkq [110, 106, 1001, 1002, 510] rfl rfl ⟨rfl, rfl, rfl, rfl, rfl, trivial⟩)), rfl⟩
   ·omega
   ·omega
   ·omega
   ·exact hrest
   exact hl1
  refine tEx <| tQ ?_
  have hge : l.length <= k := by simpa using hc16
  rw [List.drop_eq_nil_of_le hge] at hI2
  obtain rfl := y8s hI2
  refine tG <| cV rfl (bPu rfl rfl tZ82 tP82 rfl (fbk rfl) rfl) <| WL.sub (Sub.cons2 (fun _ _ _ _ h => z42 zk1 h) Sub.rfl') <| c0 (sBA rfl rfl rfl rfl rfl ((fun h => h)) tS82 (flk rfl) (lb rfl)) <| nL <| tRt <| rCk (.inl rfl) (fun _ _ ho => lBP ho rfl rfl Tryz.underlying82 rfl tS82 (lb rfl) rfl trivial) rfl (po3 rfl rfl rfl)
theorem y7q {a : List Int} {i n : Nat} {x : Int} (hx : a[i]? = some x) (hn : a.length <= n) : (a.take i ++ List.replicate (n - i) 0).set i x = a.take (i + 1) ++ List.replicate (n - (i + 1)) 0 := by
  have hi : i < a.length := (List.getElem?_eq_some_iff.1 hx).1
  have hl : (a.take i).length = i := by rw [List.length_take]; omega
  rw [List.set_append_right _ _ oM0, hl, Nat.sub_self, show n - i = (n - (i + 1)) + 1 by omega, List.replicate_succ, List.set_cons_zero, List.take_add_one, hx]
  simp
theorem sc_call0 (u : Un) (hub : ∀ f ∈ u.flows, lsW f.body <= 1073741824) (D : Nat) (ihL : SCL u D) (d : Nat) (hd : d <= D) (k : Int) (a : List Int) (s : Rs) (r : Int × Rs) (h : zl3 u d k a s = some r) : SC Tryz.prog 29 [.ptr 1001 0, iInt k, .pv (ints a)] (runH u s) (fun _ => False) (iInt r.1) (runH u r.2) := by
  refine SC.of Tryz.func29 rfl (lb rfl) fun F ρ w => ?_
  refine Tr.lenOf (t := 2) rfl (fun hl => ?_)
  simp only [List.length_map] at hl
  obtain ⟨d1, f, r1, rfl, hk0, hf, hal, hfl, hlist, rfl⟩ := y5j h
  have hif := z0d (f := Fl.enc) hf
  have hfb := hub f (List.mem_of_getElem? hf)
  refine tQ <| tG <| sm 1 rfl <| nL <| tQ <| tG <| sm 1 rfl <| cV rfl (nCk rfl rfl rfl) <| sm 4 rfl <| cV rfl (iSq rfl rfl rfl uT23 hif tS51 rfl oM0) <| cV rfl (lEA rfl rfl Tryz.underlying51 rfl tS51 (lb rfl)) <| cE rfl (aLc (k := 107) rfl tZ51 rfl rfl rfl rfl) ?_
  refine c0 (sBA rfl rfl rfl rfl rfl ((fun h => h)) tS51 (flk rfl) (lb rfl)) <| nL <| tQ <| Tr.freezeBox (t := 7) (k := 107) rfl rfl rfl <| tG <| sm 2 rfl <| cV rfl (oSm uT35 rfl) <| cE rfl (z0w (k := 510) (s := ⟨3, 1⟩) rfl rfl rfl uT35 tZ3 tC3 rfl dC0 oM0 oM0 rfl rfl rfl rfl) <| sm 1 rfl <| nL <| tQ <| tQ ?_
  refine tG <| sm 1 rfl <| nL <| tBk <| Tr.sub (Sub.of (fr' := [(9, iInt 0), (8, .sl 510 f.types.length), (7, .pv (.ept [vStr f.name, vInt f.ty, vInt f.params, ints f.types, z0f f.body] 0)), (0, .ptr 1001 0), (2, .pv (ints a))]) ⟨rfl, rfl, rfl, rfl, rfl, trivial⟩) <| Tr.heap (σ' := look [(1001, some (z5k u s)), (1002, some (rowI (s).out)), (510, some (rowI (a.take 0 ++ List.replicate (f.types.length - 0) 0)))]) (lkq [107, 1001, 1002, 510] rfl rfl ⟨rfl, rfl, rfl, (by exact congrArg (fun z => some (HO.row _ z)) (by rw [List.take_zero, List.nil_append, Nat.sub_zero, List.map_replicate]; rfl)), trivial⟩) ?_
  refine Tr.loop (fun fr σ m => ∃ (i : Nat), (i <= a.length) /\ fr = [(9, iInt i), (8, .sl 510 f.types.length), (7, .pv (.ept [vStr f.name, vInt f.ty, vInt f.params, ints f.types, z0f f.body] 0)), (0, .ptr 1001 0), (2, .pv (ints a))] /\ σ = look [(1001, some (z5k u s)), (1002, some (rowI (s).out)), (510, some (rowI (a.take i ++ List.replicate (f.types.length - i) 0)))] /\ m = a.length - i) (n := a.length - 0) ?_ ?_
  ·exact ⟨0, Nat.zero_le _, rfl, rfl, rfl⟩
  rintro fr σ m ⟨i, hI0, rfl, rfl, rfl⟩
  refine tQ <| tQ <| tG <| sm 2 rfl <| cV rfl (oSm uT35 rfl) <| sm 1 rfl <| nL ?_
  refine tC rfl (fun hc26 => ?_) fun hc26 => ?_
  ·have hlt : i < a.length := by simpa using hc26
   have hil : i < f.types.length := by omega
   obtain ⟨x, hx⟩ : ∃ x, a[i]? = some x := ⟨_, List.getElem?_eq_getElem hlt⟩
   have hi := z0d (f := eInt) hx
   have hvl : ((a.take i ++ List.replicate (f.types.length - i) 0).map eInt).length = f.types.length := by simp; omega
   obtain ⟨z0, hxg⟩ := y17 (v := (a.take i ++ List.replicate (f.types.length - i) 0)) (i := i) (by rw [hvl]; omega)
   refine tSk <| tQ <| tBk <| tG <| sm 4 rfl <| cV rfl (iSq rfl rfl rfl uT35 hi tS3 rfl (by rfl)) <| sm 1 rfl <| cV rfl (iRw rfl rfl rfl rfl hvl uT35 tS3 hil rfl) <| c0 (z1s rfl rfl rfl rfl hvl (Nat.add_zero _).symm hxg sI0 tS3 rfl sI0) <| nL <| tG <| sm 1 rfl ?_
   refine cV rfl (oB rfl rfl (z05 rfl oM0)) <| sm 1 rfl <| nL ?_
   refine ⟨_, _, ?_, Sub.of (fr' := [(9, iInt (i + 1)), (8, .sl 510 f.types.length), (7, .pv (.ept [vStr f.name, vInt f.ty, vInt f.params, ints f.types, z0f f.body] 0)), (0, .ptr 1001 0), (2, .pv (ints a))]) ⟨rfl, rfl, rfl, rfl, rfl, trivial⟩, (i + 1), ?_, rfl, (funext (lkq [1001, 1002, 510] rfl rfl ⟨rfl, rfl, (congrArg (fun z => some (HO.row _ z)) ((z4p _ _ _ _ hxg).trans (congrArg (List.map eInt) (y7q hx hal)))), trivial⟩)), rfl⟩
   ·omega
   omega
  refine tEx <| tQ ?_
  have he : (a.take i ++ List.replicate (f.types.length - i) 0) = a ++ List.replicate (f.types.length - a.length) 0 := by
    have hge : a.length <= i := by simpa using hc26
    obtain rfl : i = a.length := by omega
    rw [List.take_length]
  rw [he]
  have hvl2 : ((a ++ List.replicate (f.types.length - a.length) 0).map eInt).length = f.types.length := by simp; omega
  refine tG <| sm 4 rfl <| cE rfl (cRr (ihL d1 oM0 f.body (a ++ List.replicate (f.types.length - a.length) 0) s r1 hlist hfb) ent49 rfl rfl (sSm rfl (sSm rfl (sSm (congrArg (fun n => IV.sl 510 n) hvl2.symm) Subs.nil))) (po3 rfl rfl rfl) (by rfl) (fun k (h : _) => .inr h) rfl (by rfl)) <| cE rfl (aLc (k := 110) rfl tZ82 rfl rfl rfl rfl) <| c0 (sBA rfl rfl rfl rfl rfl ((fun h => h)) tS82 (flk rfl) (lb rfl)) <| nL <| tQ <| tQ <| tG <| sm 1 rfl <| cE rfl (ocr (z8l u r1.2.2) y05 rfl (po2 rfl rfl) rfl (fun k (h : _) => .inr trivial) rfl rfl) <| sm 1 rfl ?_
  refine wS 43 rfl (fun hb43 => ?_) fun hb43 => ?_
  ·refine sm 5 rfl <| nL <| Tr.condT rfl <| tQ <| tG <| sm 1 rfl <| nL <| tRt <| rOk rfl ?_ (po2 rfl rfl)
   (rw [if_pos hb43]; done)
  refine sm 2 rfl <| yV rfl rfl (oSm uT35 rfl) <| sm 2 rfl <| nL ?_
  refine tC rfl (fun hc48 => ?_) fun hc48 => ?_
  ·refine tQ <| tG <| sm 1 rfl <| nL <| tRt <| rOk rfl ?_ (po2 rfl rfl)
   (have hz : r1.1.2 = [] := by simpa using hc48
    rw [hz]
    split <;> rfl)
  obtain ⟨x, q, hxq⟩ : ∃ x q, r1.1.2 = x :: q := by
    cases hz : r1.1.2 with
    | nil => rw [hz] at hc48; simp at hc48
    | cons x q => exact ⟨x, q, rfl⟩
  have hi0 : (r1.1.2.map eInt)[0]? = some (eInt x) := by rw [hxq]; rfl
  refine tSk <| tQ <| tG <| sm 2 rfl <| cV rfl (iSq rfl rfl rfl uT35 hi0 tS3 rfl (by rfl)) <| sm 2 rfl <| nL <| tRt <| rOk rfl ?_ (po2 rfl rfl)
  rw [if_neg (by rw [hb43]; decide), hxq]
  rfl
theorem z92 (u : Un) (hu : u.arrays = []) (hub : ∀ f ∈ u.flows, lsW f.body <= 1073741824) : ∀ D, SCC u D /\ SCL u D
  | 0 => ⟨fun _ h => absurd h (Nat.not_lt_zero _), fun _ h => absurd h (Nat.not_lt_zero _)⟩
  | D + 1 => ⟨fun d hd k a s r h => sc_call0 u hub D (z92 u hu hub D).2 d (Nat.le_of_lt_succ hd) k a s r h,
      fun d hd l v s r h hb => sc_list0 u hu D (z92 u hu hub D).1 (z92 u hu hub D).2 d (Nat.le_of_lt_succ hd) l v s r h hb⟩
def run0 (ins : List Int) (fuel : Int) : Rs := { ins := ins, ar := [], st := 0, code := 0, out := [], cost := 0, fuel := if fuel < 0 then 0 else fuel, spent := false }
def mEnd (r : Int × Rs) : Rs := if z4u r.2 then r.2 else { r.2 with st := 1, code := r.1 }
def runv (s : Rs) : PV := .agg [vInt s.st, vInt s.code, ints s.out, vInt s.cost, vInt s.fuel]
theorem sc_run0 (u : Un) (hu : u.arrays = []) (hW : z1f u <= 536870912) (hz : (z2q u).1 = 0) (ins : List Int) (fuel : Int) (d : Nat) (r : Int × Rs) (h : zl3 u d (z08 z0e u.flows 0) [] (run0 ins fuel) = some r) : SC Tryz.prog 17 [.pv u.enc, .pv (ints ins), iInt fuel] [] (fun _ => False) (.pv (runv (mEnd r))) [] := by
  refine SC.ofC Tryz.func17 rfl (lb rfl) rfl fun F ρ w => ?_
  have hub : ∀ f ∈ u.flows, lsW f.body <= 1073741824 := fun f hf => Nat.le_trans (y2g hW hf) oM0
  have hcall := (z92 u hu hub (d + 1)).1 d (Nat.lt_succ_self d) _ _ _ _ h
  refine tQ <| tG <| cE rfl (z1y rfl rfl) <| cE rfl (aLc (k := 106) rfl tZ46 rfl rfl rfl rfl) <| nL <| tQ <| tQ <| tG <| cV rfl (lEA rfl rfl uT25 rfl tS25 (lb rfl)) <| cE rfl (ocq (y6i u hW) ent19 rfl rfl) <| sm 1 rfl <| cV rfl (z1w rfl rfl rfl) ?_
  refine cV rfl (z1w rfl rfl rfl) <| sm 2 rfl <| nL <| tQ <| tG <| sm 2 rfl <| nL ?_
  refine tC rfl (fun hc18 => ?_) fun hc18 => ?_
  ·exact absurd hc18 (by rw [hz]; decide)
  refine tSk <| tQ <| tG <| cV rfl (lEA rfl rfl uT25 rfl tS25 (lb rfl)) <| sm 2 rfl <| cV rfl (ok_max rfl rfl rfl) <| cV rfl (bPu rfl rfl tZ46 tP46 rfl (fbk rfl) rfl) <| cV rfl (bPu rfl rfl tZ70 tP70 rfl (fbk rfl) rfl) <| cE rfl (ze0 (k := 1001) rfl rfl rfl rfl rfl rfl) <| sm 1 rfl <| nL <| tQ ?_
  refine tQ <| Tr.growCell (k := 1002) (k2 := 1001) (j := 6) ⟨3, 1⟩ rfl rfl rfl rfl rfl rfl <| tG <| sm 1 rfl <| nL <| tBk <| Tr.sub (Sub.of (fr' := [(10, iInt 0), (9, .ptr 1001 0), (6, .ptr 106 0), (3, .pv (.ept [arrs u.arrays, flws u.flows] 0))]) ⟨rfl, rfl, rfl, rfl, trivial⟩) <| Tr.heap (σ' := look [(106, some (.box [iInt 0, iInt 0, .pv (.val (.slice none 0 0)), iInt 0, iInt 0])), (1001, some (z5k u (run0 ins fuel))), (1002, some (rowI []))]) (lkq [106, 1001, 1002] rfl rfl ⟨rfl, rfl, rfl, trivial⟩) ?_
  refine Tr.loop (fun fr σ m => fr = [(10, iInt 0), (9, .ptr 1001 0), (6, .ptr 106 0), (3, .pv (.ept [arrs u.arrays, flws u.flows] 0))] /\ σ = look [(106, some (.box [iInt 0, iInt 0, .pv (.val (.slice none 0 0)), iInt 0, iInt 0])), (1001, some (z5k u (run0 ins fuel))), (1002, some (rowI []))] /\ m = 0) (n := 0) ?_ ?_
  ·exact ⟨rfl, rfl, rfl⟩
  rintro fr σ m ⟨rfl, rfl, rfl⟩
  refine tQ <| tQ <| tG <| sm 3 rfl <| cV rfl (oSm uT22 rfl) <| sm 1 rfl <| nL ?_
  refine tC rfl (fun hc31 => ?_) fun hc31 => ?_
  ·exact absurd hc31 (by rw [hu]; simp)
  refine tEx <| tQ <| tG <| sm 1 rfl <| cV rfl (lEA rfl rfl uT25 rfl tS25 (lb rfl)) <| cE rfl (ocq (z5v _ _) y59 rfl rfl) <| cE rfl (cRr (hcall) ent29 rfl rfl (sSm rfl (sSm rfl (Subs.cons (fun _ _ _ _ h => z42 PSub.nil h) Subs.nil))) (po2 rfl rfl) (by rfl) (fun k (h : _) => .inr h) rfl (by rfl)) <| sm 1 rfl <| nL <| tQ <| tQ <| tG ?_
  refine sm 1 rfl <| cE rfl (ocr (z8l u r.2) y05 rfl (po2 rfl rfl) rfl (fun k (h : _) => .inr trivial) rfl rfl) <| sm 1 rfl <| nL ?_
  refine tC rfl (fun hc56 => ?_) fun hc56 => ?_
  ·have hend : mEnd r = { r.2 with st := 1, code := r.1 } := if_neg (by intro hh; rw [hh] at hc56; exact absurd hc56 dC0)
   refine tG <| sm 3 rfl <| cV rfl (nCk rfl rfl rfl) <| sm 2 rfl <| c0 (sBx rfl rfl rfl rfl ((fun h => h)) tS3 (rfl) (lb rfl)) <| cV rfl (nCk rfl rfl rfl) <| sm 2 rfl <| c0 (sBx rfl rfl rfl rfl ((fun h => h)) tS3 (rfl) (lb rfl)) <| nL <| tQ <| Tr.freezeCell (k := 1002) (k2 := 1001) (j := 6) (n := (r.2.out.map eInt).length) rfl rfl rfl rfl dC0 <| tG ?_
   refine sm 1 rfl <| cV rfl (nCk rfl rfl rfl) <| sm 1 rfl <| cV rfl (lBP rfl rfl rfl Tryz.underlying46 rfl tS46 (lb rfl) rfl trivial) <| c0 (sBA rfl rfl rfl rfl rfl ((fun h => h)) tS46 (flk rfl) (lb rfl)) <| nL <| tRt ?_
   rw [hend]
   refine rCk (.inl rfl) (fun _ _ ho => lBP ho rfl rfl Tryz.underlying46 rfl tS46 (lb rfl) rfl trivial) rfl nPo
  have hend : mEnd r = r.2 := if_pos (by simpa using hc56)
  refine tSk <| tQ <| Tr.freezeCell (k := 1002) (k2 := 1001) (j := 6) (n := (r.2.out.map eInt).length) rfl rfl rfl rfl dC0 <| tG <| sm 1 rfl <| cV rfl (nCk rfl rfl rfl) <| sm 1 rfl <| cV rfl (lBP rfl rfl rfl Tryz.underlying46 rfl tS46 (lb rfl) rfl trivial) <| c0 (sBA rfl rfl rfl rfl rfl ((fun h => h)) tS46 (flk rfl) (lb rfl)) <| nL <| tRt ?_
  rw [hend]
  refine rCk (.inl rfl) (fun _ _ ho => lBP ho rfl rfl Tryz.underlying46 rfl tS46 (lb rfl) rfl trivial) rfl nPo
set_option maxRecDepth 20000
theorem sc_right (u : Un) (hW : z1f u <= 536870912) : SC Tryz.prog 12 [.pv u.enc] [] (fun k => k ∈ []) (iBool (y1t u)) [] := by
  refine SC.vc tb {} [] Tryz.func12 rfl rfl ?_
  have hW2 : z1f u = u.arrays.length + u.flows.length + wtA u.arrays + wtF u.flows := rfl
  refine ⟨Nat, fun k => [(3, iInt k)], fun _ => [], fun k => u.flows.length - k, fun k => k <= u.flows.length /\ y1t u = (u.flows.drop k).all fun f => fiL f.body, [], 0, ⟨Nat.zero_le _, rfl⟩, ⟨rfl, trivial⟩, trivial, ?_⟩
  rintro k ⟨hk, hI⟩
  refine z0a (fun hc => ?_) fun hc => ?_
  · have hlt := za7 (f := Fl.enc) rfl hc
    obtain ⟨x, hx, _, hd, hm⟩ := z83 hlt
    have hb := y7j hW hm
    rw [hd, List.all_cons] at hI
    refine ⟨z0d (f := Fl.enc) hx, rfl, [], y9l _ x.body (Nat.lt_succ_self _) oM0, sR, trivial, rfl, z0a (fun h1 => ?_) fun h1 => ?_⟩
    · have h1' : fiL x.body = false := by simpa using h1
      exact ⟨sE (by rw [hI, h1', Bool.false_and]), trivial⟩
    · have h1' : fiL x.body = true := by simpa using h1
      exact ⟨z05 rfl oM0, k + 1, z31 hlt, ⟨hlt, by rw [hI, h1', Bool.true_and]⟩, ⟨rfl, trivial⟩, trivial, rfl, rfl, rfl, rfl⟩
  · rw [List.drop_eq_nil_of_le (za3 (f := Fl.enc) rfl hc)] at hI
    exact ⟨sE (by rw [hI]; rfl), trivial⟩
theorem zl7 (l : List Nd) : z3r (trB l) <= z3r l := y5r l
theorem ya8 (ts : List Int) (l : List Nd) : SC Tryz.prog 16 [.pv (ints ts), .pv (z0f l)] [] (fun k => k ∈ []) (.pv (.agg [.val (.slice none 0 0), flws [⟨z0e, 1, 0, ts, l⟩]])) [] := by
  refine SC.vc tb {} [] Tryz.func16 rfl rfl ?_
  exact ⟨sI, trivial⟩
set_option maxRecDepth 20000
def wakeL : List Nd := [.mk 8 0 0 ⟨#[]⟩ [] [0] [] [], .mk 11 0 0 ⟨#[]⟩ [] [1] [] [[.mk 9 0 0 ⟨#[]⟩ [0] [] [] [], .mk 14 0 0 ⟨#[]⟩ [0] [] [] []]], .mk 15 0 0 ⟨#[]⟩ [1] [] [] []]
def zz3 : Un := ⟨[], [⟨z0e, 1, 0, [1, 1], wakeL⟩]⟩
theorem z96 : (z2q zz3).1 = 0 := by decide +kernel
theorem zq2 : z1f zz3 <= 536870912 := by decide +kernel
theorem yf3 : ((zl3 (z3o trB zz3) 20 (z08 z0e (z3o trB zz3).flows 0) [] (run0 [3] 5)).map fun r => (z4u r.2, r.1, r.2.out)) = some (false, 3, [3]) := by decide +kernel
theorem wake_run : ∃ r, zl3 (z3o trB zz3) 20 (z08 z0e (z3o trB zz3).flows 0) [] (run0 [3] 5) = some r /\ (mEnd r).st = 1 /\ (mEnd r).code = 3 /\ (mEnd r).out = [3] := by
  have h := yf3
  rw [Option.map_eq_some_iff] at h
  obtain ⟨r, h1, h2⟩ := h
  simp only [Prod.mk.injEq] at h2
  refine ⟨r, h1, ?_, ?_, ?_⟩
  · simp only [mEnd, h2.1, Bool.false_eq_true, if_false]
  · simp only [mEnd, h2.1, Bool.false_eq_true, if_false, h2.2.1]
  · simp only [mEnd, h2.1, Bool.false_eq_true, if_false, h2.2.2]
def rawN (k n : Int) (a o : PV) (ks : PV) : List PV := [vInt k, vInt 0, vInt n, vStr ⟨#[]⟩, a, o, .val (.slice none 0 0), ks]
def yf2 : PV := .seq [rawN 8 0 (.val (.slice none 0 0)) (.seq [[vInt 0]]) (.val (.slice none 0 0)), rawN 11 0 (.val (.slice none 0 0)) (.seq [[vInt 1]]) (.seq [[.seq [rawN 9 0 (.seq [[vInt 0]]) (.val (.slice none 0 0)) (.val (.slice none 0 0)), rawN 14 0 (.seq [[vInt 0]]) (.val (.slice none 0 0)) (.val (.slice none 0 0))]]]), rawN 15 0 (.seq [[vInt 1]]) (.val (.slice none 0 0)) (.val (.slice none 0 0))]
theorem wake_sub : PSub yf2 (z0f wakeL) := by
  show PSub _ (.seq [_, _, _])
  repeat' (first | exact PSub.nil | exact PSub.refl _ | exact trivial | refine And.intro ?_ ?_ | refine PSub.seq (ps := [_, _, _]) (qs := [_, _, _]) ?_ | refine PSub.seq (ps := [_, _]) (qs := [_, _]) ?_ | refine PSub.seq (ps := [_]) (qs := [_]) ?_)
theorem y57 : z64 trB ⟨[], []⟩ = (⟨[], []⟩, 1) := zt0 trB (by decide +kernel)
theorem y9j (L : List Nd) (hL : PSub yf2 (z0f L)) (V : Un) (hH : z64 trB ⟨[], [⟨z0e, 1, 0, [1, 1], L⟩]⟩ = (V, 0)) (hW : z1f ⟨[], [⟨z0e, 1, 0, [1, 1], L⟩]⟩ <= 536870912) (hVa : V.arrays = []) (hVl : V.flows.length = 1) (hVr : y1t V = true) (hVW : z1f V <= 536870912) (hVz : (z2q V).1 = 0)
    (r : Int × Rs) (hr : zl3 V 20 (z08 z0e V.flows 0) [] (run0 [3] 5) = some r) (h1 : (mEnd r).st = 1) (h2 : (mEnd r).code = 3) (h3 : (mEnd r).out = [3]) : SC Tryz.prog 7 [] [] (fun k => k ∈ []) (iBool true) [] := by
  refine SC.vc tb {} [] Tryz.func7 rfl rfl ?_
  have hsc := zx2 ⟨[], [⟨z0e, 1, 0, [1, 1], L⟩]⟩ hW
  rw [hH] at hsc
  have hse := zx2 ⟨[], []⟩ dC0
  rw [y57] at hse
  refine ⟨[], ya8 [1, 1] L, SubA.same (SubA.cons (sP hL) SubA.nil), trivial, rfl, ?_⟩
  refine ⟨[], hsc, SubA.cons (sP (PSub.agg ⟨PSub.nil, PSub.refl _, trivial⟩)) SubA.nil, trivial, rfl, ?_⟩
  have hrun := sc_run0 V hVa hVW hVz [3] 5 20 r hr
  rw [show runv (mEnd r) = .agg [vInt 1, vInt 3, .seq [[vInt 3]], vInt (mEnd r).cost, vInt (mEnd r).fuel] by simp only [runv, h1, h2, h3]; rfl] at hrun
  have hsr := sc_right V hVW
  rw [hVr] at hsr
  refine ⟨[], hrun, sR, trivial, rfl, z0a (fun hl => ?_) fun hl => by simp [hVl] at hl⟩
  exact ⟨[], hsr, sR, trivial, rfl, at0, rfl, [], hse, SubA.cons sEmp SubA.nil, trivial, rfl, sI, trivial⟩
theorem sc_awake : SC Tryz.prog 7 [] [] (fun k => k ∈ []) (iBool true) [] := by
  obtain ⟨r, hr, h1, h2, h3⟩ := wake_run
  have hc := zr3 z96
  exact y9j wakeL wake_sub (z3o trB zz3) (z4y trB z96) zq2 rfl rfl (by have := y62 zz3; rw [z4y trB z96] at this; exact this) (by have := zb4 trB zl7 zz3; rw [z4y trB z96] at this; exact Nat.le_trans this zq2) (by rw [hc]) r hr h1 h2 h3
section
def Px (g g' : Gn) : Prop := ∃ q, g'.types = g.types ++ q
theorem Px.refl (g : Gn) : Px g g := ⟨[], by simp⟩
theorem Px.trans {a b c : Gn} (h : Px a b) (h' : Px b c) : Px a c := by
  obtain ⟨q, e⟩ := h
  obtain ⟨r, e'⟩ := h'
  exact ⟨q ++ r, by rw [e', e, List.append_assoc]⟩
theorem Px.len {a b : Gn} (h : Px a b) : a.types.length <= b.types.length := by obtain ⟨q, e⟩ := h; rw [e]; simp
section
variable (l : List UInt8)
theorem ze4 (n : Nat) (g : Gn) : Px g (z03 l n g).2 := ⟨[], by simp [z03]⟩
theorem zm9 (seen ts : List Int) (g : Gn) : Px g (z1p l seen ts g).2 := ⟨[], by rw [(z1l l seen ts g).1]; simp⟩
theorem z7e (ts : List Int) (g : Gn) : Px g (z0j ts g).2 := ⟨ts, by rw [(z26 ts g).1]⟩
theorem zw9 (g : Gn) : Px g (z0p l g).2 := ⟨[], by rw [(z4j l g).1]; simp⟩
theorem y2z (kind op n : Int) (name : ByteArray) (seen ins outs : List Int) (g : Gn) : Px g (z47 l kind op n name seen ins outs g).2 := (zm9 l seen ins g).trans (z7e outs _)
theorem zn0 (seen : List Int) (g : Gn) : Px g (z1u l seen g).2 := by
  unfold z1u
  have h0 := ze4 l 12 g
  simp only
  repeat' split
  all_goals first
  | exact h0.trans ((ze4 l _ _).trans (y2z l _ _ _ _ _ _ _ _))
  | exact h0.trans (y2z l _ _ _ _ _ _ _ _)
theorem px_end (seen : List Int) (p : Plc) (g : Gn) : Px g (gEnd l seen p g).2 := by
  unfold gEnd
  have h0 := ze4 l 6 g
  simp only
  repeat' split
  all_goals exact h0.trans (y2z l _ _ _ _ _ _ _ _)
def zc6 (rec : GRec) : Prop := ∀ seen p g, Px g (rec seen p g).2
theorem zw8 (x : List Int -> Nd) (t : List Int) (g : Gn) : Px g (z79 x t g).2 := by
  unfold z79
  split
  ·exact .refl _
  exact z7e t g
theorem px_if {rec : GRec} (hr : zc6 rec) (all : List Int) (p : Plc) (g : Gn) : Px g (gIf l rec all p g).2 := by
  unfold gIf
  exact (zw9 l g).trans ((zm9 l _ _ _).trans ((hr _ _ _).trans ((hr _ _ _).trans (zw8 _ _ _))))
theorem px_loop {rec : GRec} (hr : zc6 rec) (all : List Int) (g : Gn) : Px g (z97 l rec all g).2 := by
  unfold z97
  exact (zw9 l g).trans ((zw9 l _).trans ((zm9 l _ _ _).trans ((z7e _ _).trans ((hr _ _ _).trans (zw8 _ _ _)))))
theorem y4n {rec : Option GRec} (hr : ∀ r, rec = some r -> zc6 r) (all : List Int) (p : Plc) (g : Gn) : Px g (gAny l rec all p g).2 := by
  have h0 : Px g { g with left := g.left - 1 } := ⟨[], by simp⟩
  have hs := h0.trans ((zn0 l all { g with left := g.left - 1 }).trans (ze4 l 6 _))
  unfold gAny
  simp only
  cases rec with
  | none => exact hs
  | some r =>
    simp only
    split
    ·exact hs.trans (px_if l (hr r rfl) all p _)
    split
    ·exact hs.trans (px_loop l (hr r rfl) all _)
    exact hs
def z5e (rec : Option GRec) (p : Plc) : Nat -> List Int -> Gn -> List Nd × Gn
  | 0, all, g => ([(gEnd l all p g).1], (gEnd l all p g).2)
  | i + 1, all, g =>
    if g.left = 0 then ([(gEnd l all p g).1], (gEnd l all p g).2)
    else if z02 (gAny l rec all p g).1 then ([(gAny l rec all p g).1], (gAny l rec all p g).2)
      else ((gAny l rec all p g).1 :: (z5e rec p i (all ++ (gAny l rec all p g).1.outs) (gAny l rec all p g).2).1, (z5e rec p i (all ++ (gAny l rec all p g).1.outs) (gAny l rec all p g).2).2)
theorem z78 (rec : Option GRec) (p : Plc) : ∀ (i : Nat) (out : List Nd) (all : List Int) (g : Gn), z3l l rec p i out all g = (out ++ (z5e l rec p i all g).1, (z5e l rec p i all g).2)
  | 0, out, all, g => rfl
  | i + 1, out, all, g => by
    unfold z3l z5e
    split
    ·rfl
    simp only
    split
    ·rfl
    rw [z78 rec p i]; simp
theorem zv0 (rec : Option GRec) (p : Plc) : ∀ (i : Nat) (all : List Int) (g : Gn), (z5e l rec p i all g).1 ≠ []
  | 0, all, g => by simp [z5e]
  | i + 1, all, g => by
    unfold z5e
    repeat' split
    all_goals simp
theorem zn1 {rec : Option GRec} (hr : ∀ r, rec = some r -> zc6 r) (p : Plc) : ∀ (i : Nat) (all : List Int) (g : Gn), Px g (z5e l rec p i all g).2
  | 0, all, g => px_end l all p g
  | i + 1, all, g => by
    unfold z5e
    split
    ·exact px_end l all p g
    split
    ·exact y4n l hr all p g
    exact (y4n l hr all p g).trans (zn1 hr p i _ _)
theorem zw7 (d : Nat) : zc6 (z38 l d) := by
  induction d with
  | zero =>
    intro seen p g
    rw [z77, z78]
    exact (ze4 l 6 g).trans (zn1 l (fun r h => by cases h) p _ _ _)
  | succ d ih =>
    intro seen p g
    rw [z77, z78]
    exact (ze4 l 6 g).trans (zn1 l (fun r h => by cases h; exact ih) p _ _ _)
theorem z5r (d : Nat) (seen : List Int) (p : Plc) (g : Gn) : z38 l d seen p g = z5e l (gRec l d) p (z03 l 6 g).1 seen (z03 l 6 g).2 := by
  rw [z77, z78]; simp
def Fresh (a b : Nat) (ds : List Int) : Prop := ds.Nodup /\ ∀ v ∈ ds, (a : Int) <= v /\ v < (b : Int)
theorem Fresh.nil (a b : Nat) : Fresh a b [] := ⟨List.nodup_nil, fun _ h => by simp at h⟩
theorem Fresh.app {a b b' c : Nat} {x y : List Int} (h : Fresh a b x) (h' : Fresh b' c y) (hb : b <= b') (ha : a <= b') (hc : b <= c) : Fresh a c (x ++ y) := by
  refine ⟨List.nodup_append.2 ⟨h.1, h'.1, fun u hu v hv e => ?_⟩, fun v hv => ?_⟩
  ·have h1 := h.2 u hu
   have h2 := h'.2 v hv
   omega
  rcases List.mem_append.1 hv with hv | hv
  ·have := h.2 v hv; omega
  have := h'.2 v hv; omega
theorem Fresh.mono {a b a' b' : Nat} {x : List Int} (h : Fresh a b x) (ha : a' <= a) (hb : b <= b') : Fresh a' b' x := ⟨h.1, fun v hv => by have := h.2 v hv; omega⟩
theorem z8t : ∀ (ts : List Int) (g : Gn), Fresh g.types.length (z0j ts g).2.types.length (z0j ts g).1
  | [], g => .nil _ _
  | t :: r, g => by
    have ih := z8t r (z06 t g).2
    have h1 : Fresh g.types.length (g.types.length + 1) [(z06 t g).1] := ⟨by simp, fun v hv => by
      rw [List.mem_singleton.1 hv]; simp only [z06]; omega⟩
    have e : (z06 t g).2.types.length = g.types.length + 1 := by simp [z06]
    have hl := (z7e r (z06 t g).2).len
    rw [e] at ih hl
    exact h1.app ih (Nat.le_refl _) oM0 hl
theorem zr9 (kind op n : Int) (name : ByteArray) (seen ins outs : List Int) (g : Gn) : Fresh g.types.length (z47 l kind op n name seen ins outs g).2.types.length (dN (z47 l kind op n name seen ins outs g).1) := by
  have h := z8t outs (z1p l seen ins g).2
  have e : (z1p l seen ins g).2.types = g.types := by rw [(z1l l seen ins g).1]
  rw [e] at h
  simpa [z47, y01, Nd.params, Nd.kids, Nd.outs, dK] using h
theorem y0f (seen : List Int) (g : Gn) : Fresh g.types.length (z1u l seen g).2.types.length (dN (z1u l seen g).1) := by
  have N := fun kind op n name ins outs g' => zr9 l kind op n name seen ins outs g'
  unfold z1u
  simp only
  repeat' split
  all_goals exact N _ _ _ _ _ _ _
theorem y0e (seen : List Int) (p : Plc) (g : Gn) : Fresh g.types.length (gEnd l seen p g).2.types.length (dN (gEnd l seen p g).1) := by
  have N := fun kind op n name ins outs g' => zr9 l kind op n name seen ins outs g'
  unfold gEnd
  simp only
  repeat' split
  all_goals exact N _ _ _ _ _ _ _
def y76 (rec : GRec) : Prop := ∀ seen p g, Fresh g.types.length (rec seen p g).2.types.length (dL (rec seen p g).1)
theorem zs0 (x : List Int -> Nd) (D : List Int) (a : Nat) (hx : ∀ o, dN (x o) = D ++ o) (t : List Int) (g : Gn) (hD : Fresh a g.types.length D) (ha : a <= g.types.length) : Fresh a (z79 x t g).2.types.length (dN (z79 x t g).1) := by
  unfold z79
  split
  ·rw [hx, List.append_nil]; exact hD
  rw [hx]; exact hD.app (z8t t g) (Nat.le_refl _) ha (z7e t g).len
theorem fresh_if {rec : GRec} (hr : y76 rec) (hp : zc6 rec) (all : List Int) (p : Plc) (g : Gn) : Fresh g.types.length (gIf l rec all p g).2.types.length (dN (gIf l rec all p g).1) := by
  unfold gIf
  simp only
  generalize hT : z0p l g = T
  generalize hC : z1p l all [2] T.2 = C
  have eT : T.2.types = g.types := by rw [<- hT, (z4j l g).1]
  have eC : C.2.types = g.types := by rw [<- hC, (z1l l all [2] T.2).1]; exact eT
  have hA := hr all ⟨true, p.Loop, T.1, p.Next, p.Left⟩ C.2
  have pA := (hp all ⟨true, p.Loop, T.1, p.Next, p.Left⟩ C.2).len
  generalize rec all ⟨true, p.Loop, T.1, p.Next, p.Left⟩ C.2 = A at *
  have hB := hr all ⟨true, p.Loop, T.1, p.Next, p.Left⟩ A.2
  have pB := (hp all ⟨true, p.Loop, T.1, p.Next, p.Left⟩ A.2).len
  generalize rec all ⟨true, p.Loop, T.1, p.Next, p.Left⟩ A.2 = B at *
  rw [eC] at hA pA
  refine zs0 _ (dL A.1 ++ dL B.1) g.types.length (fun o => by simp [dN, dK]) T.1 B.2 (hA.app hB (Nat.le_refl _) pA pB) oM0
theorem y5d {rec : GRec} (hr : y76 rec) (hp : zc6 rec) (all : List Int) (g : Gn) : Fresh g.types.length (z97 l rec all g).2.types.length (dN (z97 l rec all g).1) := by
  unfold z97
  simp only
  generalize hT : z0p l g = T
  generalize hO : z0p l T.2 = O
  generalize hA : z1p l all T.1 O.2 = A
  have eT : T.2.types = g.types := by rw [<- hT, (z4j l g).1]
  have eO : O.2.types = g.types := by rw [<- hO, (z4j l T.2).1]; exact eT
  have eA : A.2.types = g.types := by rw [<- hA, (z1l l all T.1 O.2).1]; exact eO
  have hQ := z8t T.1 A.2
  have pQ := (z7e T.1 A.2).len
  generalize z0j T.1 A.2 = Q at *
  have hB := hr (all ++ Q.1) ⟨false, true, [], T.1, O.1⟩ Q.2
  have pB := (hp (all ++ Q.1) ⟨false, true, [], T.1, O.1⟩ Q.2).len
  generalize rec (all ++ Q.1) ⟨false, true, [], T.1, O.1⟩ Q.2 = B at *
  rw [eA] at hQ pQ
  refine zs0 _ (Q.1 ++ dL B.1) g.types.length (fun o => by simp [dN, dK]) O.1 B.2 (hQ.app hB (Nat.le_refl _) pQ pB) oM0
theorem y86 {rec : Option GRec} (hr : ∀ r, rec = some r -> y76 r /\ zc6 r) (all : List Int) (p : Plc) (g : Gn) : Fresh g.types.length (gAny l rec all p g).2.types.length (dN (gAny l rec all p g).1) := by
  have hs := y0f l all { g with left := g.left - 1 }
  have ps := (zn0 l all { g with left := g.left - 1 }).len
  unfold gAny
  simp only
  cases rec with
  | none => exact hs
  | some r =>
    simp only
    split
    ·exact (fresh_if l (hr r rfl).1 (hr r rfl).2 all p _).mono ps (Nat.le_refl _)
    split
    ·exact (y5d l (hr r rfl).1 (hr r rfl).2 all _).mono ps (Nat.le_refl _)
    exact hs
theorem zd1 {rec : Option GRec} (hr : ∀ r, rec = some r -> y76 r /\ zc6 r) (p : Plc) : ∀ (i : Nat) (all : List Int) (g : Gn), Fresh g.types.length (z5e l rec p i all g).2.types.length (dL (z5e l rec p i all g).1)
  | 0, all, g => by
    have := y0e l all p g
    simpa [z5e, dL] using this
  | i + 1, all, g => by
    have he := y0e l all p g
    have hx := y86 l hr all p g
    have px := (y4n l (fun r h => (hr r h).2) all p g).len
    unfold z5e
    split
    ·simpa [dL] using he
    split
    ·simpa [dL] using hx
    have ih := zd1 hr p i (all ++ (gAny l rec all p g).1.outs) (gAny l rec all p g).2
    have pt := (zn1 l (fun r h => (hr r h).2) p i (all ++ (gAny l rec all p g).1.outs) (gAny l rec all p g).2).len
    simp only [dL]
    exact hx.app ih (Nat.le_refl _) px pt
theorem y5c (d : Nat) : y76 (z38 l d) := by
  induction d with
  | zero =>
    intro seen p g
    rw [z5r]
    exact zd1 l (fun r h => by cases h) p (z03 l 6 g).1 seen (z03 l 6 g).2
  | succ d ih =>
    intro seen p g
    rw [z5r]
    exact zd1 l (fun r h => by cases h; exact ⟨ih, zw7 l d⟩) p (z03 l 6 g).1 seen (z03 l 6 g).2
end
end
section
def PxT (g : Gn) (T : List Int) : Prop := ∃ q, T = g.types ++ q
theorem PxT.of {a b : Gn} {T : List Int} (h : Px a b) (h' : PxT b T) : PxT a T := by
  obtain ⟨q, e⟩ := h
  obtain ⟨r, e'⟩ := h'
  exact ⟨q ++ r, by rw [e', e, List.append_assoc]⟩
theorem PxT.len {a : Gn} {T : List Int} (h : PxT a T) : a.types.length <= T.length := by obtain ⟨q, e⟩ := h; rw [e]; simp
theorem PxT.getD {a : Gn} {T : List Int} (h : PxT a T) {n : Nat} (hn : n < a.types.length) : a.types.getD n 0 = T.getD n 0 := by
  obtain ⟨q, rfl⟩ := h
  simp [List.getD, List.getElem?_append_left hn]
structure Sn (T : List Int) (n : Nat) (seen : List Int) : Prop where
  zero : (0 : Int) ∈ seen
  one : ∃ s ∈ seen, T.getD s.toNat 0 = 1
  two : ∃ s ∈ seen, T.getD s.toNat 0 = 2
  inr : ∀ s ∈ seen, 0 <= s /\ s.toNat < n
theorem Sn.mono {T : List Int} {n m : Nat} {seen : List Int} (h : Sn T n seen) (hm : n <= m) : Sn T m seen := ⟨h.zero, h.one, h.two, fun s hs => ⟨(h.inr s hs).1, Nat.lt_of_lt_of_le (h.inr s hs).2 hm⟩⟩
theorem Sn.app {T : List Int} {n m : Nat} {seen new : List Int} (h : Sn T n seen) (hm : n <= m) (hn : ∀ s ∈ new, 0 <= s /\ s.toNat < m) : Sn T m (seen ++ new) := by
  obtain ⟨s, h1, h2⟩ := h.one
  obtain ⟨s', h3, h4⟩ := h.two
  exact ⟨List.mem_append_left _ h.zero, ⟨s, List.mem_append_left _ h1, h2⟩, ⟨s', List.mem_append_left _ h3, h4⟩, fun v hv => (List.mem_append.1 hv).elim ((h.mono hm).inr v) (hn v)⟩
theorem y2i {tys seen : List Int} {t : Int} : ∀ (r : List Int) (b : Bool) (k v : Int), (∀ s ∈ r, s ∈ seen) -> v ∈ seen -> gS1 tys t b k v r ∈ seen
  | [], _, _, _, _, hv => hv
  | s :: r, b, k, v, h, hv => by
    unfold gS1
    have hr : ∀ x ∈ r, x ∈ seen := fun x hx => h x (.tail _ hx)
    split
    ·exact y2i r _ _ _ hr (h s (.head _))
    exact y2i r _ _ _ hr hv
theorem y2j {tys seen : List Int} {t : Int} : ∀ (r : List Int) (v : Int), (∀ s ∈ r, s ∈ seen) -> v ∈ seen -> gS2 tys t v r ∈ seen
  | [], _, _, hv => hv
  | s :: r, v, h, hv => by
    unfold gS2
    have hr : ∀ x ∈ r, x ∈ seen := fun x hx => h x (.tail _ hx)
    split
    ·split
     ·exact y2j r _ hr (h s (.head _))
     exact y2j r _ hr hv
    exact hv
theorem y46 {tys : List Int} {t : Int} {r : List Int} {v : Int} (h : tys.getD v.toNat 0 = t) : gS2 tys t v r = v := by
  cases r with
  | nil => rfl
  | cons s r => unfold gS2; rw [if_neg (by rw [h]; simp)]
theorem gS2_ty {tys : List Int} {t : Int} : ∀ (r : List Int) (v : Int), (∃ s ∈ r, tys.getD s.toNat 0 = t) -> tys.getD (gS2 tys t v r).toNat 0 = t
  | [], v, h => by obtain ⟨s, hs, _⟩ := h; simp at hs
  | s :: r, v, h => by
    by_cases hv : tys.getD v.toNat 0 = t
    ·rw [y46 hv]; exact hv
    unfold gS2
    rw [if_pos (by simpa using hv)]
    by_cases hs : tys.getD s.toNat 0 = t
    ·rw [if_pos (by simpa using hs), y46 hs]; exact hs
    rw [if_neg (by simpa using hs)]
    refine gS2_ty r v ?_
    obtain ⟨x, hx, hxt⟩ := h
    rcases List.mem_cons.1 hx with rfl | hx
    ·exact absurd hxt hs
    exact ⟨x, hx, hxt⟩
def Ty12 (ts : List Int) : Prop := ∀ t ∈ ts, t = 1 ∨ t = 2
theorem Ty12.ne {ts : List Int} (h : Ty12 ts) : ∀ t ∈ ts, t ≠ 0 := fun t ht => by rcases h t ht with rfl | rfl <;> decide
section
variable (l : List UInt8)
theorem some_ok {g : Gn} {T seen : List Int} {t : Int} (h : PxT g T) (hs : Sn T g.types.length seen) (ht : t = 1 ∨ t = 2) : (za2 l seen t g).1 ∈ seen /\ T.getD (za2 l seen t g).1.toNat 0 = t := by
  have hm : (za2 l seen t g).1 ∈ seen := y2j seen _ (fun _ h => h) (y2i seen _ _ _ (fun _ h => h) hs.zero)
  refine ⟨hm, ?_⟩
  rw [<- h.getD (hs.inr _ hm).2]
  refine gS2_ty seen _ ?_
  obtain ⟨s, h1, h2⟩ : ∃ s ∈ seen, T.getD s.toNat 0 = t := by
    rcases ht with rfl | rfl
    ·exact hs.one
    exact hs.two
  exact ⟨s, h1, by rw [h.getD (hs.inr s h1).2]; exact h2⟩
theorem use_ok {T seen : List Int} {n : Nat} {v w : Int} (hs : Sn T n seen) (hn : n <= T.length) (hv : v ∈ seen) (hw : w = 0 ∨ T.getD v.toNat 0 = w) : z5g T seen v w = true := by
  obtain ⟨h1, h2⟩ := hs.inr v hv
  unfold z5g
  have e1 : decide (v < 0) = false := by simp; omega
  have e2 : decide (v ≥ T.length) = false := by simp; omega
  have e3 : seen.contains v = true := by simpa using hv
  have e4 : (w != 0 && (T.getD v.toNat 0 != w)) = false := by
    rcases hw with rfl | h
    ·rfl
    rw [h]; simp
  rw [e1, e2, e3, e4]; rfl
theorem zj9 {T seen : List Int} : ∀ (ts : List Int) {g : Gn}, PxT g T -> Sn T g.types.length seen -> Ty12 ts -> z04 T seen (z1p l seen ts g).1 ts = true /\ (∀ v ∈ (z1p l seen ts g).1, v ∈ seen) /\ (z1p l seen ts g).1.map (fun v => T.getD v.toNat 0) = ts
  | [], g, _, _, _ => ⟨rfl, fun v hv => by simp [z1p] at hv, rfl⟩
  | t :: r, g, h, hs, ht => by
    obtain ⟨h1, h2⟩ := some_ok l h hs (ht t (.head _))
    obtain ⟨i1, i2, i3⟩ := zj9 (seen := seen) r (g := (za2 l seen t g).2) h hs (fun x hx => ht x (.tail _ hx))
    simp only [z04, Bool.and_eq_true] at i1
    refine ⟨?_, fun v hv => ?_, ?_⟩
    ·simp only [z1p, z04, z0z, Bool.and_eq_true, List.length_cons]
     refine ⟨?_, use_ok hs h.len h1 (.inr h2), i1.2⟩
     have := i1.1
     simp only [beq_iff_eq] at this ⊢
     omega
    ·simp only [z1p, List.mem_cons] at hv
     rcases hv with rfl | hv
     ·exact h1
     exact i2 v hv
    simp only [z1p, List.map_cons, h2, i3]
theorem ze3 {T : List Int} : ∀ (ts : List Int) (g : Gn), PxT (z0j ts g).2 T -> z25 T (z0j ts g).1 ts = true
  | [], _, _ => rfl
  | t :: r, g, h => by
    have ih := ze3 r (z06 t g).2 h
    have hg : PxT (z06 t g).2 T := PxT.of (z7e r (z06 t g).2) h
    obtain ⟨q, e⟩ := hg
    have e2 : T = (g.types ++ [t]) ++ q := e
    simp only [z0j, z25, Bool.and_eq_true]
    refine ⟨?_, ih⟩
    simp only [z4s, Bool.and_eq_true, Bool.or_eq_true, beq_iff_eq, z06]
    refine ⟨⟨decide_eq_true oM0, decide_eq_true ?_⟩, .inr ?_⟩
    ·rw [e2]; simp only [List.length_append, List.length_cons, List.length_nil]; omega
    rw [e2]
    simp [List.getD]
theorem zc4 {T : List Int} : ∀ {l ts : List Int}, z25 T l ts = true -> z25 T l (zer l) = true
  | [], [], _ => rfl
  | [], _ :: _, h => by simp [z25] at h
  | _ :: _, [], h => by simp [z25] at h
  | v :: r, t :: ts, h => by
    simp only [z25, Bool.and_eq_true] at h
    have ih := zc4 h.2
    have h1 := h.1
    simp only [z4s, Bool.and_eq_true] at h1
    show (z4s T v 0 && z25 T r (zer r)) = true
    rw [ih]
    simp [z4s, h1.1.1, h1.1.2]
theorem y4z {T : List Int} : ∀ {l ts : List Int}, z25 T l ts = true -> (∀ t ∈ ts, t ≠ 0) -> l.all (z6y T) = true /\ l.map (fun v => T.getD v.toNat 0) = ts
  | [], [], _, _ => ⟨rfl, rfl⟩
  | [], _ :: _, h, _ => by simp [z25] at h
  | _ :: _, [], h, _ => by simp [z25] at h
  | v :: r, t :: ts, h, hn => by
    simp only [z25, Bool.and_eq_true] at h
    obtain ⟨i1, i2⟩ := y4z h.2 (fun x hx => hn x (.tail _ hx))
    have h1 := h.1
    simp only [z4s, Bool.and_eq_true, Bool.or_eq_true, beq_iff_eq] at h1
    have ht : T.getD v.toNat 0 = t := h1.2.resolve_left (hn t (.head _))
    refine ⟨?_, ?_⟩
    ·simp only [List.all_cons, Bool.and_eq_true]
     exact ⟨by simp only [z6y, Bool.and_eq_true]; exact h1.1, i1⟩
    simp only [List.map_cons, ht, i2]
theorem y2u {T : List Int} {ts : List Int} {g : Gn} (h : PxT (z0j ts g).2 T) (ht : Ty12 ts) : r8of T (z0j ts g).1 = ts := by
  obtain ⟨h1, h2⟩ := y4z (ze3 ts g h) ht.ne
  unfold r8of
  rw [if_pos h1, h2]
theorem tyN_12 : ∀ (n : Nat) (g : Gn), Ty12 (gTyN l n g).1
  | 0, _ => fun t ht => by simp [gTyN] at ht
  | n + 1, g => fun t ht => by
    have h2 : (z03 l 2 g).1 < 2 := z20 oM0
    simp only [gTyN, List.mem_cons] at ht
    rcases ht with rfl | ht
    ·omega
    exact tyN_12 n _ t ht
theorem z95 (g : Gn) : Ty12 (z0p l g).1 := tyN_12 l _ _
structure Env (u : Un) (f : Fl) : Prop where
  ty : f.ty = 1
  ar : z19 z71 u.arrays 0 ≥ 0
  fl : z08 z37 u.flows 0 ≥ 0
  flw : ∃ g, u.flows[(z08 z37 u.flows 0).toNat]? = some g /\ g.types.take g.params.toNat = [1, 2] /\ g.ty = 1
end
end
section
theorem z45 {kind op n : Int} {name : ByteArray} {args outs : List Int} (ho : (kind = 3 ∨ kind = 4) ∨ op = 0) (hn : (kind = 1 ∨ kind = 2) ∨ n = 0) (hm : (kind = 5 ∨ kind = 6 ∨ kind = 7) ∨ name = z0o) (h10 : kind ≠ 10) (h11 : kind ≠ 11) :
    z1a (.mk kind op n name args outs [] []) = true := by
  have e0 : z0o.toList = [] := z5x z0o
  have hm2 : (kind = 5 ∨ kind = 6 ∨ kind = 7) ∨ name.toList = [] := hm.imp id fun h => by rw [h, e0]
  simp only [z1a, r8op, y60, zt1, r8kn, Nd.kind, Nd.op, Nd.n, Nd.name, Nd.kids, Nd.params, Bool.and_eq_true, Bool.or_eq_true, beq_iff_eq, List.length_nil]
  refine ⟨⟨⟨⟨ho, hn⟩, ?_⟩, ?_⟩, .inr rfl⟩
  ·rcases hm2 with (h | h | h) | h
   ·exact .inl (.inl (.inl h))
   ·exact .inl (.inl (.inr h))
   ·exact .inl (.inr h)
   exact .inr h
  rw [if_neg h11, if_neg h10]; rfl
section
variable (l : List UInt8) {u : Un} {f : Fl} {seen : List Int} {w : Wh} {deep : Int}
def Leaf (u : Un) (f : Fl) (seen : List Int) (w : Wh) (x : Nd) : Prop := z1a x = true /\ (x.kind == 10) = false /\ (x.kind == 11) = false /\ (z43 u f x seen w).ok f.types x.outs = true
theorem Leaf.ok {x : Nd} (h : Leaf u f seen w x) : z3k u f deep w seen x = true := by
  rw [z2a u f deep w seen h.1 h.2.1 h.2.2.1]; exact h.2.2.2
theorem y2b {x : Nd} (h1 : (x.kind == 10) = false) (h2 : (x.kind == 11) = false) : z02 x = z0y x.kind := by
  unfold z02
  rw [h1, h2]; rfl
section
variable {A O : List Int} {op n : Int} {name : ByteArray}
theorem sF1 : z43 u f (.mk 1 op n name A O [] []) seen w = ⟨z04 f.types seen A [], some [1]⟩ := rfl
theorem sF2 : z43 u f (.mk 2 op n name A O [] []) seen w = ⟨(n == 0 || n == 1) && z04 f.types seen A [], some [2]⟩ := rfl
theorem sF3 : z43 u f (.mk 3 op n name A O [] []) seen w = ⟨z2p op && z04 f.types seen A [(z0c op).1], some [(z0c op).2]⟩ := rfl
theorem sF4 : z43 u f (.mk 4 op n name A O [] []) seen w = ⟨z30 op && z04 f.types seen A [(z0c op).1, (z0c op).1] && f.types.getD (A.getD 0 0).toNat 0 == f.types.getD (A.getD 1 0).toNat 0, some [(z0c op).2]⟩ := rfl
theorem sF5 : z43 u f (.mk 5 op n name A O [] []) seen w = ⟨decide (z19 name u.arrays 0 ≥ 0) && z04 f.types seen A [1], some [1]⟩ := rfl
theorem sF6 : z43 u f (.mk 6 op n name A O [] []) seen w = ⟨decide (z19 name u.arrays 0 ≥ 0) && z04 f.types seen A [1, 1], none⟩ := rfl
theorem sF7 {g : Fl} (h : z08 name u.flows 0 ≥ 0) (hg : u.flows[(z08 name u.flows 0).toNat]? = some g) : z43 u f (.mk 7 op n name A O [] []) seen w = ⟨z04 f.types seen A (g.types.take g.params.toNat), some [g.ty]⟩ := by
  have e : z43 u f (.mk 7 op n name A O [] []) seen w = (if decide (z08 name u.flows 0 ≥ 0) = true then match u.flows[(z08 name u.flows 0).toNat]? with
      | some g => ⟨z04 f.types seen A (g.types.take g.params.toNat), some [g.ty]⟩
      | none => ⟨false, none⟩
    else ⟨false, none⟩) := rfl
  rw [e, if_pos (decide_eq_true h), hg]
theorem sF8 : z43 u f (.mk 8 op n name A O [] []) seen w = ⟨(A.length : Int) == 0, some [1]⟩ := rfl
theorem sF9 : z43 u f (.mk 9 op n name A O [] []) seen w = ⟨z04 f.types seen A [1], none⟩ := rfl
theorem sF12 : z43 u f (.mk 12 op n name A O [] []) seen w = ⟨w.If && z04 f.types seen A w.Yield, none⟩ := rfl
theorem sF13 : z43 u f (.mk 13 op n name A O [] []) seen w = ⟨w.Loop && z04 f.types seen A w.Next, none⟩ := rfl
theorem sF14 : z43 u f (.mk 14 op n name A O [] []) seen w = ⟨w.Loop && z04 f.types seen A w.Left, none⟩ := rfl
theorem sF15 : z43 u f (.mk 15 op n name A O [] []) seen w = ⟨z04 f.types seen A [f.ty], none⟩ := rfl
theorem leaf1 (hO : z25 f.types O [1] = true) : Leaf u f seen w (.mk 1 0 n z0o [] O [] []) :=
  ⟨z45 (.inr rfl) (.inl (.inl rfl)) (.inr rfl) dC0 dC0, rfl, rfl, by
    rw [sF1]; simpa [SForm.ok, z04, z0z, Nd.outs] using hO⟩
theorem leaf2 (hn : n = 0 ∨ n = 1) (hO : z25 f.types O [2] = true) : Leaf u f seen w (.mk 2 0 n z0o [] O [] []) :=
  ⟨z45 (.inr rfl) (.inl (.inr rfl)) (.inr rfl) dC0 dC0, rfl, rfl, by
    have h1 : (n == 0 || n == 1) = true := by rcases hn with rfl | rfl <;> rfl
    rw [sF2]; simp only [SForm.ok, h1, Nd.outs, hO]; rfl⟩
theorem leaf3 {a b : Int} (h1 : z2p op = true) (h2 : z0c op = (a, b)) (hA : z04 f.types seen A [a] = true) (hO : z25 f.types O [b] = true) : Leaf u f seen w (.mk 3 op 0 z0o A O [] []) :=
  ⟨z45 (.inl (.inl rfl)) (.inr rfl) (.inr rfl) dC0 dC0, rfl, rfl, by
    rw [sF3]; simp only [SForm.ok, h1, h2, Nd.outs, hA, hO]; rfl⟩
theorem leaf4 {a b : Int} (h1 : z30 op = true) (h2 : z0c op = (a, b)) (hA : z04 f.types seen A [a, a] = true) (ht : f.types.getD (A.getD 0 0).toNat 0 = f.types.getD (A.getD 1 0).toNat 0) (hO : z25 f.types O [b] = true) : Leaf u f seen w (.mk 4 op 0 z0o A O [] []) :=
  ⟨z45 (.inl (.inr rfl)) (.inr rfl) (.inr rfl) dC0 dC0, rfl, rfl, by
    rw [sF4]; simp only [SForm.ok, h1, h2, Nd.outs, hA, hO, ht, Bool.true_and, Bool.and_true, beq_self_eq_true]⟩
theorem leaf5 (E : Env u f) (hA : z04 f.types seen A [1] = true) (hO : z25 f.types O [1] = true) : Leaf u f seen w (.mk 5 0 0 z71 A O [] []) :=
  ⟨z45 (.inr rfl) (.inr rfl) (.inl (.inl rfl)) dC0 dC0, rfl, rfl, by
    rw [sF5]; simp only [SForm.ok, decide_eq_true E.ar, Nd.outs, hA, hO]; rfl⟩
theorem leaf6 (E : Env u f) (hA : z04 f.types seen A [1, 1] = true) : Leaf u f seen w (.mk 6 0 0 z71 A [] [] []) :=
  ⟨z45 (.inr rfl) (.inr rfl) (.inl (.inr (.inl rfl))) dC0 dC0, rfl, rfl, by
    rw [sF6]; simp only [SForm.ok, decide_eq_true E.ar, hA]; rfl⟩
theorem leaf7 (E : Env u f) (hA : z04 f.types seen A [1, 2] = true) (hO : z25 f.types O [1] = true) : Leaf u f seen w (.mk 7 0 0 z37 A O [] []) :=
  ⟨z45 (.inr rfl) (.inr rfl) (.inl (.inr (.inr rfl))) dC0 dC0, rfl, rfl, by
    obtain ⟨g, h1, h2, h3⟩ := E.flw
    rw [sF7 E.fl h1]; simp only [SForm.ok, h2, h3, Nd.outs, hA, hO]; rfl⟩
theorem leaf8 (hO : z25 f.types O [1] = true) : Leaf u f seen w (.mk 8 0 0 z0o [] O [] []) :=
  ⟨z45 (.inr rfl) (.inr rfl) (.inr rfl) dC0 dC0, rfl, rfl, by
    rw [sF8]; simp only [SForm.ok, Nd.outs, hO]; rfl⟩
theorem leaf9 (hA : z04 f.types seen A [1] = true) : Leaf u f seen w (.mk 9 0 0 z0o A [] [] []) :=
  ⟨z45 (.inr rfl) (.inr rfl) (.inr rfl) dC0 dC0, rfl, rfl, by
    rw [sF9]; simp only [SForm.ok, hA]; rfl⟩
theorem leafE {k : Int} {want : List Int} (hk : (k = 12 /\ w.If = true /\ want = w.Yield) ∨ (k = 13 /\ w.Loop = true /\ want = w.Next) ∨ (k = 14 /\ w.Loop = true /\ want = w.Left) ∨ (k = 15 /\ want = [f.ty])) (hA : z04 f.types seen A want = true) : Leaf u f seen w (.mk k 0 0 z0o A [] [] []) := by
  have hb : z1a (.mk k 0 0 z0o A [] [] []) = true := z45 (.inr rfl) (.inr rfl) (.inr rfl) oM0 oM0
  rcases hk with ⟨rfl, h1, rfl⟩ | ⟨rfl, h1, rfl⟩ | ⟨rfl, h1, rfl⟩ | ⟨rfl, rfl⟩
  ·exact ⟨hb, rfl, rfl, by rw [sF12]; simp only [SForm.ok, h1, hA]; rfl⟩
  ·exact ⟨hb, rfl, rfl, by rw [sF13]; simp only [SForm.ok, h1, hA]; rfl⟩
  ·exact ⟨hb, rfl, rfl, by rw [sF14]; simp only [SForm.ok, h1, hA]; rfl⟩
  exact ⟨hb, rfl, rfl, by rw [sF15]; simp only [SForm.ok, hA]; rfl⟩
end
theorem y1r (E : Env u f) {g : Gn} (h : PxT (z1u l seen g).2 f.types) (hs : Sn f.types g.types.length seen) : Leaf u f seen w (z1u l seen g).1 /\ z0y (z1u l seen g).1.kind = false := by
  have key : ∀ (kind op n : Int) (name : ByteArray) (ins outs : List Int) (g' : Gn), g'.types = g.types -> PxT (z47 l kind op n name seen ins outs g').2 f.types -> Ty12 ins ->
      (∀ A O, z04 f.types seen A ins = true -> A.map (fun v => f.types.getD v.toNat 0) = ins -> z25 f.types O outs = true -> Leaf u f seen w (.mk kind op n name A O [] [])) -> z0y kind = false ->
      Leaf u f seen w (z47 l kind op n name seen ins outs g').1 /\ z0y (z47 l kind op n name seen ins outs g').1.kind = false := by
    intro kind op n name ins outs g' hg hp hi hL hk
    have hp1 : PxT (z1p l seen ins g').2 f.types := PxT.of (z7e outs _) hp
    have hp0 : PxT g' f.types := PxT.of (zm9 l seen ins g') hp1
    obtain ⟨a1, _, a3⟩ := zj9 l (seen := seen) ins hp0 (by rw [hg]; exact hs) hi
    exact ⟨hL _ _ a1 a3 (ze3 outs _ hp), hk⟩
  have i1 : Ty12 [1] := by intro t ht; simp at ht; omega
  have i2 : Ty12 [2] := by intro t ht; simp at ht; omega
  have i11 : Ty12 [1, 1] := by intro t ht; simp at ht; omega
  have i12 : Ty12 [1, 2] := by intro t ht; simp at ht; omega
  have i0 : Ty12 [] := by intro t ht; simp at ht
  have nilA : ∀ {A : List Int}, A.map (fun v => f.types.getD v.toNat 0) = [] -> A = [] := fun h => by simpa using h
  have twoA : ∀ {A : List Int} {t : Int}, A.map (fun v => f.types.getD v.toNat 0) = [t, t] -> f.types.getD (A.getD 0 0).toNat 0 = f.types.getD (A.getD 1 0).toNat 0 := by
    intro A t hA
    rcases A with _ | ⟨a, _ | ⟨b, _ | ⟨c, A⟩⟩⟩
    ·simp at hA
    ·simp at hA
    ·simp only [List.map_cons, List.map_nil, List.cons.injEq, and_true] at hA
     show f.types.getD a.toNat 0 = f.types.getD b.toNat 0
     rw [hA.1, hA.2]
    simp at hA
  have two00 : ∀ {A : List Int}, z04 f.types seen A [1, 1] = true -> z04 f.types seen A [0, 0] = true := by
    intro A hA
    rcases A with _ | ⟨a, _ | ⟨b, _ | ⟨c, A⟩⟩⟩
    ·simp [z04] at hA
    ·simp [z04] at hA
    ·simp only [z04, z0z, z5g, Bool.and_eq_true, Bool.not_eq_true', Bool.or_eq_false_iff] at hA ⊢
     simp_all
    simp [z04] at hA
    omega
  unfold z1u at h ⊢
  simp only at h ⊢
  split
  ·rename_i hk; simp only [hk, if_true] at h
   exact key 1 0 _ z0o [] [1] _ rfl h i0 (fun A O _ h2 h3 => by rw [nilA h2]; exact leaf1 h3) rfl
  rename_i n0; rw [if_neg n0] at h
  split
  ·rename_i hk; rw [if_pos hk] at h
   have h2 : (z03 l 2 (z03 l 12 g).2).1 < 2 := z20 oM0
   exact key 2 0 _ z0o [] [2] _ rfl h i0 (fun A O _ h2 h3 => by rw [nilA h2]; exact leaf2 oM0 h3) rfl
  rename_i n1; rw [if_neg n1] at h
  split
  ·rename_i hk; rw [if_pos hk] at h
   have h4 : (z03 l 4 (z03 l 12 g).2).1 < 4 := z20 oM0
   generalize (z03 l 4 (z03 l 12 g).2).1 = z at *
   have hz : y2h.getD z 0 = 20 ∨ y2h.getD z 0 = 21 ∨ y2h.getD z 0 = 23 ∨ y2h.getD z 0 = 27 := by
     have h5 : z = 0 ∨ z = 1 ∨ z = 2 ∨ z = 3 := by omega
     rcases h5 with rfl | rfl | rfl | rfl
     ·exact .inl rfl
     ·exact .inr (.inl rfl)
     ·exact .inr (.inr (.inl rfl))
     exact .inr (.inr (.inr rfl))
   exact key 3 _ 0 z0o [1] [1] _ rfl h i1 (fun A O h1 _ h3 => leaf3 (by rcases hz with e | e | e | e <;> rw [e] <;> rfl) (by rcases hz with e | e | e | e <;> rw [e] <;> rfl) h1 h3) rfl
  rename_i n2; rw [if_neg n2] at h
  split
  ·rename_i hk; rw [if_pos hk] at h
   exact key 3 22 0 z0o [2] [2] _ rfl h i2 (fun A O h1 _ h3 => leaf3 rfl rfl h1 h3) rfl
  rename_i n3; rw [if_neg n3] at h
  split
  ·rename_i hk; rw [if_pos hk] at h
   have h11 : (z03 l 11 (z03 l 12 g).2).1 < 11 := z20 oM0
   exact key 4 _ 0 z0o [1, 1] [1] _ rfl h i11 (fun A O h1 h2 h3 => leaf4 (a := 1) (b := 1) (by simp [z30]; omega) (by
     unfold z0c
     rw [if_neg (by simp; omega), if_neg (by simp; omega), if_neg (by simp; omega)]) h1 (twoA h2) h3) rfl
  rename_i n4; rw [if_neg n4] at h
  split
  ·rename_i hk; rw [if_pos hk] at h
   have h6 : (z03 l 6 (z03 l 12 g).2).1 < 6 := z20 oM0
   refine key 4 _ 0 z0o [1, 1] [2] _ rfl h i11 (fun A O h1 h2 h3 => ?_) rfl
   by_cases hz : (z03 l 6 (z03 l 12 g).2).1 < 4
   ·exact leaf4 (a := 1) (b := 2) (by simp [z30]; omega) (by
      unfold z0c
      rw [if_neg (by simp; omega), if_neg (by simp; omega), if_pos (by simp; omega)]) h1 (twoA h2) h3
   exact leaf4 (a := 0) (b := 2) (by simp [z30]; omega) (by
     unfold z0c
     rw [if_neg (by simp; omega), if_pos (by simp; omega)]) (two00 h1) (twoA h2) h3
  rename_i n5; rw [if_neg n5] at h
  split
  ·rename_i hk; rw [if_pos hk] at h
   exact key 5 0 0 z71 [1] [1] _ rfl h i1 (fun A O h1 _ h3 => leaf5 E h1 h3) rfl
  rename_i n6; rw [if_neg n6] at h
  split
  ·rename_i hk; rw [if_pos hk] at h
   exact key 6 0 0 z71 [1, 1] [] _ rfl h i11 (fun A O h1 _ h3 => by
     cases O with
     | nil => exact leaf6 E h1
     | cons _ _ => simp [z25] at h3) rfl
  rename_i n7; rw [if_neg n7] at h
  split
  ·rename_i hk; rw [if_pos hk] at h
   exact key 7 0 0 z37 [1, 2] [1] _ rfl h i12 (fun A O h1 _ h3 => leaf7 E h1 h3) rfl
  rename_i n8; rw [if_neg n8] at h
  split
  ·rename_i hk; rw [if_pos hk] at h
   exact key 8 0 0 z0o [] [1] _ rfl h i0 (fun A O _ h2 h3 => by rw [nilA h2]; exact leaf8 h3) rfl
  rename_i hk; rw [if_neg hk] at h
  exact key 9 0 0 z0o [1] [] _ rfl h i1 (fun A O h1 _ h3 => by
    cases O with
    | nil => exact leaf9 h1
    | cons _ _ => simp [z25] at h3) rfl
end
end
section
structure Plc.T12 (p : Plc) : Prop where
  y : Ty12 p.Yield
  n : Ty12 p.Next
  v : Ty12 p.Left
structure Wr (p : Plc) (w : Wh) (L : List Nd) : Prop where
  i : p.If = true -> w.If = true
  lp : p.Loop = true -> w.Loop = true /\ w.Next = p.Next
  y : z2f L = 12 -> w.Yield = p.Yield
  lv : z10 L = true -> w.Left = p.Left
section
variable (l : List UInt8) {u : Un} {f : Fl}
theorem gEnd_ok (E : Env u f) {seen : List Int} {p : Plc} {g : Gn} {w : Wh} (h : PxT (gEnd l seen p g).2 f.types) (hs : Sn f.types g.types.length seen) (hp : p.T12) (W : Wr p w [(gEnd l seen p g).1]) :
    Leaf u f seen w (gEnd l seen p g).1 /\ z0y (gEnd l seen p g).1.kind = true := by
  have key : ∀ (k : Int) (ins : List Int) (g' : Gn), g'.types = g.types -> PxT (z47 l k 0 0 z0o seen ins [] g').2 f.types -> Ty12 ins ->
      ((k = 12 /\ w.If = true /\ ins = w.Yield) ∨ (k = 13 /\ w.Loop = true /\ ins = w.Next) ∨ (k = 14 /\ w.Loop = true /\ ins = w.Left) ∨ (k = 15 /\ ins = [f.ty])) ->
      Leaf u f seen w (z47 l k 0 0 z0o seen ins [] g').1 /\ z0y (z47 l k 0 0 z0o seen ins [] g').1.kind = true := by
    intro k ins g' hg hp' hi hk
    have hp0 : PxT g' f.types := PxT.of (zm9 l seen ins g') hp'
    obtain ⟨a1, _, _⟩ := zj9 l (seen := seen) ins hp0 (by rw [hg]; exact hs) hi
    refine ⟨leafE hk a1, ?_⟩
    show (decide (k ≥ 12) && decide (k <= 15)) = true
    rw [decide_eq_true oM0, decide_eq_true oM0]; rfl
  unfold gEnd at h W ⊢
  simp only at h W ⊢
  split
  ·rename_i hk; rw [if_pos hk] at h W
   exact key 12 p.Yield _ rfl h hp.y (.inl ⟨rfl, W.i hk.1, (W.y rfl).symm⟩)
  rename_i n1; rw [if_neg n1] at h W
  split
  ·rename_i hk; rw [if_pos hk] at h W
   exact key 13 p.Next _ rfl h hp.n (.inr (.inl ⟨rfl, (W.lp hk.1).1, (W.lp hk.1).2.symm⟩))
  rename_i n2; rw [if_neg n2] at h W
  split
  ·rename_i hk; rw [if_pos hk] at h W
   exact key 14 p.Left _ rfl h hp.v (.inr (.inr (.inl ⟨rfl, (W.lp hk).1, (W.lv rfl).symm⟩)))
  rename_i hk; rw [if_neg hk] at h W
  exact key 15 [1] _ rfl h (by intro t ht; simp at ht; omega) (.inr (.inr (.inr ⟨rfl, by rw [E.ty]⟩)))
def y77 (u : Un) (f : Fl) (d : Nat) (rec : GRec) : Prop := ∀ (seen : List Int) (p : Plc) (g : Gn) (w : Wh) (deep : Int), PxT (rec seen p g).2 f.types -> Sn f.types g.types.length seen -> p.T12 -> Wr p w (rec seen p g).1 -> deep + d <= 100 -> z44 u f deep w seen (rec seen p g).1 = true
theorem if_ok {d : Nat} {rec : GRec} (hr : y77 u f d rec) (hpx : zc6 rec) {all : List Int} {p : Plc} {g : Gn} {w : Wh} {deep : Int} (h : PxT (gIf l rec all p g).2 f.types) (hs : Sn f.types g.types.length all) (hp : p.T12)
    (hlp : p.Loop = true -> w.Loop = true /\ w.Next = p.Next) (hlv : z3f (gIf l rec all p g).1 = true -> w.Left = p.Left) (hd : deep + 1 + d <= 100) : z3k u f deep w all (gIf l rec all p g).1 = true := by
  unfold gIf at h hlv ⊢
  simp only at h hlv ⊢
  have t12 := z95 l g
  generalize hT : z0p l g = T at *
  generalize hC : z1p l all [2] T.2 = C at *
  have eT : T.2.types = g.types := by rw [<- hT, (z4j l g).1]
  have eC : C.2.types = g.types := by rw [<- hC, (z1l l all [2] T.2).1]; exact eT
  have hA := fun w' deep' => hr all ⟨true, p.Loop, T.1, p.Next, p.Left⟩ C.2 w' deep'
  have pA := hpx all ⟨true, p.Loop, T.1, p.Next, p.Left⟩ C.2
  generalize rec all ⟨true, p.Loop, T.1, p.Next, p.Left⟩ C.2 = A at *
  have hB := fun w' deep' => hr all ⟨true, p.Loop, T.1, p.Next, p.Left⟩ A.2 w' deep'
  have pB := hpx all ⟨true, p.Loop, T.1, p.Next, p.Left⟩ A.2
  generalize rec all ⟨true, p.Loop, T.1, p.Next, p.Left⟩ A.2 = B at *
  have xB : PxT B.2 f.types := PxT.of (zw8 _ _ _) h
  have xA : PxT A.2 f.types := PxT.of pB xB
  have xC : PxT C.2 f.types := PxT.of pA xA
  have sC : Sn f.types C.2.types.length all := by rw [eC]; exact hs
  have sA : Sn f.types A.2.types.length all := sC.mono pA.len
  have xT : PxT T.2 f.types := by obtain ⟨q, e⟩ := xC; exact ⟨q, by rw [e, eC, eT]⟩
  have hCt : z04 f.types all C.1 [2] = true := by
    have := (zj9 l (seen := all) [2] xT (by rw [eT]; exact hs) (by intro t ht; simp at ht; omega)).1
    rw [hC] at this; exact this
  have p12 : Plc.T12 ⟨true, p.Loop, T.1, p.Next, p.Left⟩ := ⟨t12, hp.n, hp.v⟩
  -- a node with such outs
  have key : ∀ o : List Int, z25 f.types o (zer o) = true -> (z02 (.mk 10 0 0 z0o C.1 o [] [A.1, B.1]) = true -> o = []) -> (z2f A.1 = 12 -> r8of f.types o = T.1) -> (z2f B.1 = 12 -> r8of f.types o = T.1) ->
      (z3f (.mk 10 0 0 z0o C.1 o [] [A.1, B.1]) = true -> w.Left = p.Left) -> z3k u f deep w all (.mk 10 0 0 z0o C.1 o [] [A.1, B.1]) = true := by
    intro o ho hc hyA hyB hl
    have e0 : z0o.toList = [] := z5x z0o
    have hb : z1a (.mk 10 0 0 z0o C.1 o [] [A.1, B.1]) = true := by
      simp [z1a, r8op, y60, zt1, r8kn, Nd.kind, Nd.op, Nd.n, Nd.name, Nd.kids, Nd.params, e0]
    rw [z54 u f deep w all hb rfl rfl]
    have hl2 : ∀ q, q ∈ [A.1, B.1] -> z10 q = true -> w.Left = p.Left := by
      intro q hq hq2
      refine hl ?_
      simp only [z3f, z2m, Bool.or_false]
      simp only [List.mem_cons, List.not_mem_nil, or_false] at hq
      rcases hq with rfl | rfl
      ·rw [hq2]; rfl
      rw [hq2]; simp
    have vA := hA (w1 w f (.mk 10 0 0 z0o C.1 o [] [A.1, B.1])) (deep + 1) xA sC p12 ⟨fun _ => rfl, hlp, hyA, hl2 _ (.head _)⟩ hd
    have vB := hB (w1 w f (.mk 10 0 0 z0o C.1 o [] [A.1, B.1])) (deep + 1) xB sA p12 ⟨fun _ => rfl, hlp, hyB, hl2 _ (.tail _ (.head _))⟩ hd
    have ho2 : z9r (.mk 10 0 0 z0o C.1 o [] [A.1, B.1]) = true := by
      unfold z9r
      cases hcl : z02 (.mk 10 0 0 z0o C.1 o [] [A.1, B.1]) with
      | false => simp
      | true => rw [hc hcl]; rfl
    simp only [Bool.and_eq_true]
    exact ⟨⟨⟨⟨hCt, vA⟩, vB⟩, ho2⟩, ho⟩
  unfold z79 at h hlv ⊢
  split
  ·rename_i hcl
   rw [if_pos hcl] at hlv
   have hcl2 : (z2f A.1 != 12 && z2f B.1 != 12) = true := hcl
   simp only [Bool.and_eq_true, bne_iff_ne] at hcl2
   exact key [] rfl (fun _ => rfl) (fun e => absurd e hcl2.1) (fun e => absurd e hcl2.2) hlv
  rename_i hcl
  rw [if_neg hcl] at h hlv
  have ho := y2u (T := f.types) h t12
  exact key _ (zc4 (ze3 _ _ h)) (fun hc => absurd hc hcl) (fun _ => ho) (fun _ => ho) hlv
theorem loop_ok {d : Nat} {rec : GRec} (hr : y77 u f d rec) (hpx : zc6 rec) {all : List Int} {g : Gn} {w : Wh} {deep : Int} (h : PxT (z97 l rec all g).2 f.types) (hs : Sn f.types g.types.length all) (hd : deep + 1 + d <= 100) : z3k u f deep w all (z97 l rec all g).1 = true := by
  unfold z97 at h ⊢
  simp only at h ⊢
  have t12 := z95 l g
  generalize hT : z0p l g = T at *
  have o12 := z95 l T.2
  generalize hO : z0p l T.2 = O at *
  generalize hA : z1p l all T.1 O.2 = A at *
  have eT : T.2.types = g.types := by rw [<- hT, (z4j l g).1]
  have eO : O.2.types = g.types := by rw [<- hO, (z4j l T.2).1]; exact eT
  have eA : A.2.types = g.types := by rw [<- hA, (z1l l all T.1 O.2).1]; exact eO
  generalize hQ : z0j T.1 A.2 = Q at *
  have hB := fun w' deep' => hr (all ++ Q.1) ⟨false, true, [], T.1, O.1⟩ Q.2 w' deep'
  have pB := hpx (all ++ Q.1) ⟨false, true, [], T.1, O.1⟩ Q.2
  generalize rec (all ++ Q.1) ⟨false, true, [], T.1, O.1⟩ Q.2 = B at *
  have xB : PxT B.2 f.types := PxT.of (zw8 _ _ _) h
  have xQ : PxT Q.2 f.types := PxT.of pB xB
  have pQ : Px A.2 Q.2 := by rw [<- hQ]; exact z7e T.1 A.2
  have xA : PxT A.2 f.types := PxT.of pQ xQ
  have xO : PxT O.2 f.types := by obtain ⟨q, e⟩ := xA; exact ⟨q, by rw [e, eA, eO]⟩
  have hAt : z04 f.types all A.1 T.1 = true := by
    have := (zj9 l (seen := all) T.1 xO (by rw [eO]; exact hs) t12).1
    rw [hA] at this; exact this
  have hQo : z25 f.types Q.1 T.1 = true := by have := ze3 (T := f.types) T.1 A.2 (by rw [hQ]; exact xQ); rw [hQ] at this; exact this
  have hQt : r8of f.types Q.1 = T.1 := by have := y2u (T := f.types) (g := A.2) (ts := T.1) (by rw [hQ]; exact xQ) t12; rw [hQ] at this; exact this
  have sQ : Sn f.types Q.2.types.length (all ++ Q.1) := by
    have hin := InR.outs T.1 A.2
    rw [hQ] at hin
    exact hs.app (by have := pQ.len; rw [eA] at this; exact this) hin
  have key : ∀ o : List Int, z25 f.types o (zer o) = true -> (z02 (.mk 11 0 0 z0o A.1 o Q.1 [B.1]) = true -> o = []) -> (z10 B.1 = true -> r8of f.types o = O.1) -> z3k u f deep w all (.mk 11 0 0 z0o A.1 o Q.1 [B.1]) = true := by
    intro o ho hc hl
    have e0 : z0o.toList = [] := z5x z0o
    have hb : z1a (.mk 11 0 0 z0o A.1 o Q.1 [B.1]) = true := by
      simp [z1a, r8op, y60, zt1, r8kn, Nd.kind, Nd.op, Nd.n, Nd.name, Nd.kids, Nd.params, e0]
    rw [z3g u f deep w all hb rfl rfl]
    have vB := hB (w2 f (.mk 11 0 0 z0o A.1 o Q.1 [B.1])) (deep + 1) xB sQ ⟨fun t ht => (by simp at ht), t12, o12⟩ ⟨fun e => (by cases e), fun _ => ⟨rfl, hQt⟩, fun _ => rfl, hl⟩ hd
    have ho2 : z9r (.mk 11 0 0 z0o A.1 o Q.1 [B.1]) = true := by
      unfold z9r
      cases hcl : z02 (.mk 11 0 0 z0o A.1 o Q.1 [B.1]) with
      | false => simp
      | true => rw [hc hcl]; rfl
    simp only [Bool.and_eq_true]
    refine ⟨⟨⟨⟨?_, zc4 hQo⟩, vB⟩, ho2⟩, ho⟩
    show z04 f.types all A.1 (r8of f.types Q.1) = true
    rw [hQt]; exact hAt
  unfold z79 at h ⊢
  split
  ·rename_i hcl
   have hcl2 : (!z10 B.1) = true := hcl
   exact key [] rfl (fun _ => rfl) (fun e => by rw [e] at hcl2; cases hcl2)
  rename_i hcl
  rw [if_neg hcl] at h
  have ho := y2u (T := f.types) h o12
  exact key _ (zc4 (ze3 _ _ h)) (fun hc => absurd hc hcl) (fun _ => ho)
theorem any_ok (E : Env u f) {d : Nat} {rec : Option GRec} (hr : ∀ r, rec = some r -> y77 u f d r /\ zc6 r) {all : List Int} {p : Plc} {g : Gn} {w : Wh} {deep : Int} (h : PxT (gAny l rec all p g).2 f.types) (hs : Sn f.types g.types.length all) (hp : p.T12)
    (hlp : p.Loop = true -> w.Loop = true /\ w.Next = p.Next) (hlv : z3f (gAny l rec all p g).1 = true -> w.Left = p.Left) (hd : deep + 1 + d <= 100) : z3k u f deep w all (gAny l rec all p g).1 = true := by
  have hs' : Sn f.types ({ g with left := g.left - 1 } : Gn).types.length all := hs
  have ps := zn0 l all { g with left := g.left - 1 }
  have sS := hs'.mono ps.len
  unfold gAny at h hlv ⊢
  simp only at h hlv ⊢
  cases rec with
  | none => exact (y1r l E (w := w) h hs').1.ok
  | some r =>
    simp only at h hlv ⊢
    split
    ·rename_i hk; rw [if_pos hk] at h hlv
     exact if_ok l (hr r rfl).1 (hr r rfl).2 h sS hp hlp hlv hd
    rename_i n0; rw [if_neg n0] at h hlv
    split
    ·rename_i hk; rw [if_pos hk] at h hlv
     exact loop_ok l (hr r rfl).1 (hr r rfl).2 h sS hd
    rename_i n1; rw [if_neg n1] at h
    exact (y1r l E (w := w) h hs').1.ok
theorem y8n {x : Nd} {q : List Nd} (h : q ≠ []) : z2f (x :: q) = z2f q := by
  cases q with
  | nil => exact absurd rfl h
  | cons y r => unfold z2f; rw [List.getLast?_cons_cons]
theorem yc0 (E : Env u f) {d : Nat} {rec : Option GRec} (hr : ∀ r, rec = some r -> y77 u f d r /\ zc6 r) {p : Plc} (hp : p.T12) {w : Wh} {deep : Int} (hd : deep + 1 + d <= 100) (hd0 : deep <= 100) : ∀ (i : Nat) (all : List Int) (g : Gn), PxT (z5e l rec p i all g).2 f.types -> Sn f.types g.types.length all -> Wr p w (z5e l rec p i all g).1 ->
    vGo u f deep w all (z5e l rec p i all g).1 = true := by
  have e100 : (!decide (deep > 100)) = true := by rw [decide_eq_false oM0]; rfl
  have fin : ∀ (all : List Int) (g : Gn), PxT (gEnd l all p g).2 f.types -> Sn f.types g.types.length all -> Wr p w [(gEnd l all p g).1] -> vGo u f deep w all [(gEnd l all p g).1] = true := by
    intro all g h hs W
    obtain ⟨h1, h2⟩ := gEnd_ok l E h hs hp W
    have hc : z02 (gEnd l all p g).1 = true := by rw [y2b h1.2.1 h1.2.2.1]; exact h2
    simp only [vGo, e100, h1.ok (deep := deep), hc, List.isEmpty_nil, Bool.and_true]
    rfl
  intro i
  induction i with
  | zero => intro all g h hs W; exact fin all g h hs W
  | succ i ih =>
    intro all g h hs W
    unfold z5e at h W ⊢
    split
    ·rename_i hk; rw [if_pos hk] at h W
     exact fin all g h hs W
    rename_i n0; rw [if_neg n0] at h W
    split
    ·rename_i hc; rw [if_pos hc] at h W
     have hv := any_ok l E hr (deep := deep) h hs hp W.lp (fun e => W.lv (by simp only [z10, e, Bool.true_or])) hd
     simp only [vGo, e100, hv, hc, List.isEmpty_nil, Bool.and_true]
     rfl
    rename_i hc; rw [if_neg hc] at h W
    have hne := zv0 l rec p i (all ++ (gAny l rec all p g).1.outs) (gAny l rec all p g).2
    have px1 : PxT (gAny l rec all p g).2 f.types := PxT.of (zn1 l (fun r e => (hr r e).2) p i _ _) h
    have hv := any_ok l E hr (deep := deep) px1 hs hp W.lp (fun e => W.lv (by simp only [z10, e, Bool.true_or])) hd
    have hcf : z02 (gAny l rec all p g).1 = false := by simpa using hc
    have hem : (z5e l rec p i (all ++ (gAny l rec all p g).1.outs) (gAny l rec all p g).2).1.isEmpty = false := by
      cases hq : (z5e l rec p i (all ++ (gAny l rec all p g).1.outs) (gAny l rec all p g).2).1 with
      | nil => exact absurd hq hne
      | cons _ _ => rfl
    have pg := (y4n l (fun r e => (hr r e).2) all p g).len
    have ho := (y3x l (rec := rec) all p g).1
    have hgo := ih _ _ h (hs.app pg ho) ⟨W.i, W.lp, fun e => W.y (by rw [y8n hne]; exact e), fun e => W.lv (by simp only [z10, e, Bool.or_true])⟩
    simp only [vGo, e100, hv, hcf, hem, hgo, Bool.and_true]
    rfl
theorem list_ok (E : Env u f) (d : Nat) : y77 u f (d + 1) (z38 l d) := by
  induction d with
  | zero =>
    intro seen p g w deep h hs hp W hd
    rw [z5r] at h W ⊢
    have := yc0 l E (d := 0) (rec := gRec l 0) (fun r h => by cases h) hp (w := w) (deep := deep) (by simpa using hd) oM0 _ _ _ h hs W
    have hne := zv0 l (gRec l 0) p (z03 l 6 g).1 seen (z03 l 6 g).2
    simp only [z44, this, Bool.and_true]
    cases hq : (z5e l (gRec l 0) p (z03 l 6 g).1 seen (z03 l 6 g).2).1 with
    | nil => exact absurd hq hne
    | cons _ _ => rfl
  | succ d ih =>
    intro seen p g w deep h hs hp W hd
    rw [z5r] at h W ⊢
    have := yc0 l E (d := d + 1) (rec := gRec l (d + 1)) (fun r h => by cases h; exact ⟨ih, zw7 l d⟩) hp (w := w) (deep := deep) oM0 oM0 _ _ _ h hs W
    have hne := zv0 l (gRec l (d + 1)) p (z03 l 6 g).1 seen (z03 l 6 g).2
    simp only [z44, this, Bool.and_true]
    cases hq : (z5e l (gRec l (d + 1)) p (z03 l 6 g).1 seen (z03 l 6 g).2).1 with
    | nil => exact absurd hq hne
    | cons _ _ => rfl
end
end
section
section
variable (l : List UInt8)
theorem y52 (kind op n : Int) (name : ByteArray) (seen ins outs : List Int) (g : Gn) : wtN (z47 l kind op n name seen ins outs g).1 = ins.length + outs.length + name.size := by
  rw [y51]
  show (z1p l seen ins g).1.length + (z0j outs _).1.length + 0 + name.size + 0 = _
  rw [(z1l l seen ins g).2, (z26 outs _).2]
  omega
theorem yf5 (seen : List Int) (g : Gn) : wtN (z1u l seen g).1 <= 4 := by
  unfold z1u
  simp only
  have hn : z0o.size = 0 := rfl
  have ha : z71.size = 1 := rfl
  have hf : z37.size = 1 := rfl
  repeat' split
  all_goals (rw [y52]; simp only [List.length_cons, List.length_nil, hn, ha, hf]; omega)
theorem wt_end (seen : List Int) (p : Plc) (hp : p.small) (g : Gn) : wtN (gEnd l seen p g).1 <= 2 := by
  obtain ⟨h1, h2, h3⟩ := hp
  unfold gEnd
  simp only
  have hn : z0o.size = 0 := rfl
  repeat' split
  all_goals (rw [y52]; simp only [List.length_cons, List.length_nil, hn]; omega)
def y79 (N : Nat) (rec : GRec) : Prop := ∀ seen p g, p.small -> wtL (rec seen p g).1 <= N /\ (rec seen p g).1.length <= 6
theorem yf4 (x : List Int -> Nd) (t : List Int) (ht : t.length <= 2) (g : Gn) (N : Nat) (hx : ∀ o, wtN (x o) = o.length + N) : wtN (z79 x t g).1 <= N + 2 := by
  unfold z79
  split
  ·rw [hx]; simp
  rw [hx, (z26 t g).2]; omega
theorem wt_if {N : Nat} {rec : GRec} (hr : y79 N rec) (all : List Int) (p : Plc) (hp : p.small) (g : Gn) : wtN (gIf l rec all p g).1 <= 2 * N + 20 := by
  unfold gIf
  simp only
  obtain ⟨_, h2⟩ := z3w l g
  have hsm : Plc.small ⟨true, p.Loop, (z0p l g).1, p.Next, p.Left⟩ := ⟨h2, hp.2.1, hp.2.2⟩
  refine Nat.le_trans (yf4 _ _ h2 _ (1 + (1 + ((rec all ⟨true, p.Loop, (z0p l g).1, p.Next, p.Left⟩ (z1p l all [2] (z0p l g).2).2).1.length + wtL (rec all ⟨true, p.Loop, (z0p l g).1, p.Next, p.Left⟩ (z1p l all [2] (z0p l g).2).2).1) + (1 + ((rec all ⟨true, p.Loop, (z0p l g).1, p.Next, p.Left⟩ (rec all ⟨true, p.Loop, (z0p l g).1, p.Next, p.Left⟩ (z1p l all [2] (z0p l g).2).2).2).1.length + wtL (rec all ⟨true, p.Loop, (z0p l g).1, p.Next, p.Left⟩ (rec all ⟨true, p.Loop, (z0p l g).1, p.Next, p.Left⟩ (z1p l all [2] (z0p l g).2).2).2).1)))) fun o => ?_) ?_
  ·simp only [wtN, wtK, (z1l l all [2] (z0p l g).2).2, show z0o.size = 0 from rfl, List.length_cons, List.length_nil]
   omega
  have h3 := hr all _ (z1p l all [2] (z0p l g).2).2 hsm
  have h4 := hr all _ (rec all ⟨true, p.Loop, (z0p l g).1, p.Next, p.Left⟩ (z1p l all [2] (z0p l g).2).2).2 hsm
  omega
theorem wt_loop {N : Nat} {rec : GRec} (hr : y79 N rec) (all : List Int) (g : Gn) : wtN (z97 l rec all g).1 <= 2 * N + 20 := by
  unfold z97
  simp only
  obtain ⟨_, h2⟩ := z3w l g
  obtain ⟨_, h4⟩ := z3w l (z0p l g).2
  generalize hA : z1p l all (z0p l g).1 (z0p l (z0p l g).2).2 = A
  have hAl : A.1.length <= 2 := by rw [<- hA, (z1l l all _ _).2]; exact h2
  generalize hQ : z0j (z0p l g).1 A.2 = Q
  have hQl : Q.1.length <= 2 := by rw [<- hQ, (z26 _ _).2]; exact h2
  have h5 := hr (all ++ Q.1) ⟨false, true, [], (z0p l g).1, (z0p l (z0p l g).2).1⟩ Q.2 ⟨by simp, h2, h4⟩
  generalize hB : rec (all ++ Q.1) ⟨false, true, [], (z0p l g).1, (z0p l (z0p l g).2).1⟩ Q.2 = B at h5
  refine Nat.le_trans (yf4 _ _ h4 _ (A.1.length + Q.1.length + (1 + (B.1.length + wtL B.1))) fun o => ?_) ?_
  ·simp only [wtN, wtK, show z0o.size = 0 from rfl]
   omega
  omega
theorem wt_any {N : Nat} {rec : Option GRec} (hr : ∀ r, rec = some r -> y79 N r) (all : List Int) (p : Plc) (hp : p.small) (g : Gn) : wtN (gAny l rec all p g).1 <= 2 * N + 20 := by
  have hs := yf5 l all { g with left := g.left - 1 }
  unfold gAny
  simp only
  cases rec with
  | none => exact Nat.le_trans hs oM0
  | some r =>
    simp only
    split
    ·exact wt_if l (hr r rfl) all p hp _
    split
    ·exact wt_loop l (hr r rfl) all _
    exact Nat.le_trans hs oM0
theorem zz6 {N : Nat} {rec : Option GRec} (hr : ∀ r, rec = some r -> y79 N r) (p : Plc) (hp : p.small) : ∀ (i : Nat) (out : List Nd) (all : List Int) (g : Gn), wtL (z3l l rec p i out all g).1 <= wtL out + (i + 1) * (2 * N + 20)
  | 0, out, all, g => by
    have := wt_end l all p hp g
    simp only [z3l, z7o, wtL]
    omega
  | i + 1, out, all, g => by
    have he := wt_end l all p hp g
    have hx := wt_any l hr all p hp g
    have e : (i + 1 + 1) * (2 * N + 20) = (i + 1) * (2 * N + 20) + (2 * N + 20) := Nat.succ_mul _ _
    unfold z3l
    split
    ·simp only [z7o, wtL]; omega
    simp only
    split
    ·simp only [z7o, wtL]; omega
    have := zz6 hr p hp i (out ++ [(gAny l rec all p g).1]) (all ++ (gAny l rec all p g).1.outs) (gAny l rec all p g).2
    simp only [z7o, wtL] at this ⊢
    omega
def zr2 : Nat -> Nat
  | 0 => 120
  | d + 1 => 6 * (2 * zr2 d + 20)
theorem y75 (d : Nat) : zr2 (d + 1) = 6 * (2 * zr2 d + 20) := rfl
theorem wt_gList (d : Nat) : y79 (zr2 d) (z38 l d) := by
  induction d with
  | zero =>
    intro seen p g hp
    refine ⟨?_, zl0 l 0 seen p g⟩
    have h6 : (z03 l 6 g).1 < 6 := z20 oM0
    have := zz6 l (N := 0) (rec := none) (fun r h => by cases h) p hp (z03 l 6 g).1 [] seen (z03 l 6 g).2
    rw [z77]
    show wtL (z3l l none p (z03 l 6 g).1 [] seen (z03 l 6 g).2).1 <= zr2 0
    generalize wtL (z3l l none p (z03 l 6 g).1 [] seen (z03 l 6 g).2).1 = z at this
    generalize (z03 l 6 g).1 = k at *
    have e : zr2 0 = 120 := rfl
    simp only [wtL, Nat.zero_add, Nat.mul_zero] at this
    rw [e]
    omega
  | succ d ih =>
    intro seen p g hp
    refine ⟨?_, zl0 l (d + 1) seen p g⟩
    have h6 : (z03 l 6 g).1 < 6 := z20 oM0
    have := zz6 l (N := zr2 d) (rec := some (z38 l d)) (fun r h => by cases h; exact ih) p hp (z03 l 6 g).1 [] seen (z03 l 6 g).2
    rw [z77]
    rw [show gRec l (d + 1) = some (z38 l d) from rfl, y75]
    generalize wtL (z3l l (some (z38 l d)) p (z03 l 6 g).1 [] seen (z03 l 6 g).2).1 = z at this
    generalize (z03 l 6 g).1 = k at *
    generalize zr2 d = m at *
    have h7 : (k + 1) * (2 * m + 20) <= 6 * (2 * m + 20) := Nat.mul_le_mul_right _ oM0
    simp only [wtL, Nat.zero_add] at this
    exact Nat.le_trans this h7
theorem y3v (name : ByteArray) (params : List Int) (hp : params.length <= 10) (g : Gn) : (z24 l name params g).1.types.length <= 1000 /\ z3r (z24 l name params g).1.body <= 1000000 := by
  have hs : plc0.small := ⟨by simp [plc0], by simp [plc0], by simp [plc0]⟩
  have hS := (z26 params { g with types := [], left := 30 }).1
  generalize hB : (z06 2 (z06 1 (z0j params { g with types := [], left := 30 }).2).2).2 = B
  generalize hE : (z0j params { g with types := [], left := 30 }).1 ++ [(z06 1 (z0j params { g with types := [], left := 30 }).2).1, (z06 2 (z06 1 (z0j params { g with types := [], left := 30 }).2).2).1] = E
  have h1 : B.types.length = params.length + 2 := by rw [<- hB, hS]; simp [z06]
  have h2 : B.left = 30 := by rw [<- hB, hS]; rfl
  have hb := (z73 l 3 E plc0 B hs).t2
  have hw := wt_gList l 3 E plc0 B hs
  have e : z24 l name params g = (⟨name, 1, params.length, (z38 l 3 E plc0 B).2.types, zk9 (z06 1 (z0j params { g with types := [], left := 30 }).2).1 (z06 2 (z06 1 (z0j params { g with types := [], left := 30 }).2).2).1 ++ (z38 l 3 E plc0 B).1⟩, (z38 l 3 E plc0 B).2) := by
    unfold z24
    simp only [hB, hE]
  rw [e]
  refine ⟨by simp only; omega, ?_⟩
  simp only [z3r, List.length_append, z7o]
  have h3 : wtL (zk9 (z06 1 (z0j params { g with types := [], left := 30 }).2).1 (z06 2 (z06 1 (z0j params { g with types := [], left := 30 }).2).2).1) = 2 := rfl
  have h4 : (zk9 (z06 1 (z0j params { g with types := [], left := 30 }).2).1 (z06 2 (z06 1 (z0j params { g with types := [], left := 30 }).2).2).1).length = 2 := rfl
  have h5 : zr2 3 <= 500000 := by simp only [zr2]; omega
  omega
theorem wt_made : z1f (made l) <= 536870912 := by
  have h1 := y3v l z0e [] sI0 ⟨0, [], 0⟩
  have h2 := y3v l z37 [1, 2] sI0 (z24 l z0e [] ⟨0, [], 0⟩).2
  have e1 : (z24 l z0e [] ⟨0, [], 0⟩).1.name.size = 4 := rfl
  have e2 : (z24 l z37 [1, 2] (z24 l z0e [] ⟨0, [], 0⟩).2).1.name.size = 1 := rfl
  have e3 : z71.size = 1 := rfl
  simp only [z1f, made, wtA, wtF, List.length_cons, List.length_nil, e1, e2, e3]
  omega
end
end
section
def Tx (g g' : Gn) : Prop := Ty12 g.types -> Ty12 g'.types
section
variable (l : List UInt8)
theorem y3n (seen ts : List Int) (g : Gn) : Tx g (z1p l seen ts g).2 := fun h => by rw [(z1l l seen ts g).1]; exact h
theorem zy8 (g : Gn) : Tx g (z0p l g).2 := fun h => by rw [(z4j l g).1]; exact h
theorem y3o {ts : List Int} (ht : Ty12 ts) (g : Gn) : Tx g (z0j ts g).2 := fun h => by
  rw [(z26 ts g).1]
  intro t hx
  rcases List.mem_append.1 hx with hx | hx
  ·exact h t hx
  exact ht t hx
theorem zy7 (kind op n : Int) (name : ByteArray) (seen ins : List Int) {outs : List Int} (ho : Ty12 outs) (g : Gn) : Tx g (z47 l kind op n name seen ins outs g).2 := fun h => y3o ho _ (y3n l seen ins g h)
theorem t12_1 : Ty12 [1] := by intro t ht; simp at ht; omega
theorem t12_2 : Ty12 [2] := by intro t ht; simp at ht; omega
theorem y6r : Ty12 [] := by intro t ht; simp at ht
theorem yd3 (seen : List Int) (g : Gn) : Tx g (z1u l seen g).2 := by
  intro h
  unfold z1u
  simp only
  repeat' split
  all_goals first
  | exact zy7 l _ _ _ _ _ _ t12_1 _ h
  | exact zy7 l _ _ _ _ _ _ t12_2 _ h
  | exact zy7 l _ _ _ _ _ _ y6r _ h
theorem tx_end (seen : List Int) (p : Plc) (g : Gn) : Tx g (gEnd l seen p g).2 := by
  intro h
  unfold gEnd
  simp only
  repeat' split
  all_goals exact zy7 l _ _ _ _ _ _ y6r _ h
def y78 (rec : GRec) : Prop := ∀ seen p g, Tx g (rec seen p g).2
theorem yd2 (x : List Int -> Nd) {t : List Int} (ht : Ty12 t) (g : Gn) : Tx g (z79 x t g).2 := by
  intro h
  unfold z79
  split
  ·exact h
  exact y3o ht g h
theorem tx_if {rec : GRec} (hr : y78 rec) (all : List Int) (p : Plc) (g : Gn) : Tx g (gIf l rec all p g).2 := fun h => by
  unfold gIf
  exact yd2 _ (z95 l g) _ (hr _ _ _ (hr _ _ _ (y3n l _ _ _ (zy8 l g h))))
theorem tx_loop {rec : GRec} (hr : y78 rec) (all : List Int) (g : Gn) : Tx g (z97 l rec all g).2 := fun h => by
  unfold z97
  exact yd2 _ (z95 l _) _ (hr _ _ _ (y3o (z95 l g) _ (y3n l _ _ _ (zy8 l _ (zy8 l g h)))))
theorem tx_any {rec : Option GRec} (hr : ∀ r, rec = some r -> y78 r) (all : List Int) (p : Plc) (g : Gn) : Tx g (gAny l rec all p g).2 := fun h => by
  have hs : Ty12 (z03 l 6 (z1u l all { g with left := g.left - 1 }).2).2.types := yd3 l all { g with left := g.left - 1 } h
  unfold gAny
  simp only
  cases rec with
  | none => exact hs
  | some r =>
    simp only
    split
    ·exact tx_if l (hr r rfl) all p _ hs
    split
    ·exact tx_loop l (hr r rfl) all _ hs
    exact hs
theorem y3p {rec : Option GRec} (hr : ∀ r, rec = some r -> y78 r) (p : Plc) : ∀ (i : Nat) (all : List Int) (g : Gn), Tx g (z5e l rec p i all g).2
  | 0, all, g => tx_end l all p g
  | i + 1, all, g => fun h => by
    unfold z5e
    split
    ·exact tx_end l all p g h
    split
    ·exact tx_any l hr all p g h
    exact y3p hr p i _ _ (tx_any l hr all p g h)
theorem tx_list (d : Nat) : y78 (z38 l d) := by
  induction d with
  | zero =>
    intro seen p g h
    rw [z5r]
    exact y3p l (rec := gRec l 0) (fun r h => by cases h) p _ _ _ h
  | succ d ih =>
    intro seen p g h
    rw [z5r]
    exact y3p l (rec := gRec l (d + 1)) (fun r h => by cases h; exact ih) p _ _ _ h
theorem y0a {k n : Nat} {v : Int} (h : (k : Int) <= v) : (z3e k n).getD v.toNat false = false := by
  unfold z3e
  rw [List.getD]
  rw [List.getElem?_append_right (by simp; omega)]
  cases hq : (List.replicate (n - k) false)[v.toNat - (List.replicate k true).length]? with
  | none => rfl
  | some b => rw [List.eq_of_mem_replicate (List.mem_of_getElem? hq)]; rfl
theorem zd0 (name : ByteArray) (params : List Int) (hS : (z0j params ⟨0, [], 0⟩).1 = iota params.length) (g : Gn) : ∃ (B : Gn) (L : List Nd) (R : Gn), (z24 l name params g).1 = ⟨name, 1, params.length, R.types, zk9 params.length (params.length + 1) ++ L⟩ /\ (L, R) = z38 l 3 (iota params.length ++ [(params.length : Int), ((params.length + 1 : Nat) : Int)]) plc0 B /\ B.types = params ++ [1, 2] := by
  have hG : ∀ (ts : List Int) (a b : Gn), a.types = b.types -> (z0j ts a).1 = (z0j ts b).1 := by
    intro ts
    induction ts with
    | nil => intro a b _; rfl
    | cons t r ih =>
      intro a b e
      simp only [z0j, z06, e]
      rw [ih { a with types := b.types ++ [t] } { b with types := b.types ++ [t] } rfl]
  have h1 : (z0j params { g with types := [], left := 30 }).1 = iota params.length := (hG params { g with types := [], left := 30 } ⟨0, [], 0⟩ rfl).trans hS
  have h2 : (z0j params { g with types := [], left := 30 }).2.types = params := by rw [(z26 params _).1]; simp
  refine ⟨(z06 2 (z06 1 (z0j params { g with types := [], left := 30 }).2).2).2, _, _, ?_, rfl, ?_⟩
  ·unfold z24
   simp only [h1]
   simp only [z06, h2, List.length_append, List.length_cons, List.length_nil]
   rfl
  simp only [z06, h2]; simp
end
section
variable (l : List UInt8) {u : Un}
theorem y84 (name : ByteArray) (params : List Int) (hS : (z0j params ⟨0, [], 0⟩).1 = iota params.length) (hp : Ty12 params) (hpl : params.length <= 8) (g : Gn) (E : Env u (z24 l name params g).1) : z2s u (z24 l name params g).1 = true := by
  have hw := (y3v l name params oM0 g).1
  obtain ⟨B, L, R, e, eL, eB⟩ := zd0 l name params hS g
  generalize (z24 l name params g).1 = F at *
  have hFt : F.types = R.types := by rw [e]
  have hFb : F.body = [.mk 1 0 3 z0o [] [(params.length : Int)] [] [], .mk 2 0 1 z0o [] [((params.length + 1 : Nat) : Int)] [] []] ++ L := by rw [e]; rfl
  have hFp : F.params = params.length := by rw [e]
  clear e
  have pR : Px B R := by have := zw7 l 3 (iota params.length ++ [(params.length : Int), ((params.length + 1 : Nat) : Int)]) plc0 B; rw [<- eL] at this; exact this
  have hB2 : Ty12 B.types := by
    rw [eB]
    intro t ht
    rcases List.mem_append.1 ht with ht | ht
    ·exact hp t ht
    simp at ht; omega
  have tR : Ty12 F.types := by have := tx_list l 3 (iota params.length ++ [(params.length : Int), ((params.length + 1 : Nat) : Int)]) plc0 B hB2; rw [<- eL] at this; rw [hFt]; exact this
  obtain ⟨q, eR⟩ := pR
  rw [<- hFt] at eR
  have hBl : B.types.length = params.length + 2 := by rw [eB]; simp
  have hRl : params.length + 2 <= F.types.length := by rw [eR, List.length_append, hBl]; omega
  have hxT : PxT B F.types := ⟨q, eR⟩
  have hi : F.types.getD params.length 0 = 1 := by
    rw [<- hxT.getD oM0, eB]; simp [List.getD]
  have hb : F.types.getD (params.length + 1) 0 = 2 := by
    rw [<- hxT.getD oM0, eB]; simp [List.getD]
  -- the list behind the first two z0f
  have hSn : Sn F.types B.types.length (iota params.length ++ [(params.length : Int), ((params.length + 1 : Nat) : Int)]) := by
    refine ⟨?_, ⟨(params.length : Int), by simp, by simpa using hi⟩, ⟨((params.length + 1 : Nat) : Int), by simp, by rw [Int.toNat_natCast]; exact hb⟩, fun s hs => ?_⟩
    ·by_cases h0 : params.length = 0
     ·simp [h0]
     refine List.mem_append_left _ ?_
     simp only [iota, List.mem_map, List.mem_range]
     exact ⟨0, by omega, rfl⟩
    rw [hBl]
    rcases List.mem_append.1 hs with hs | hs
    ·simp only [iota, List.mem_map, List.mem_range] at hs
     obtain ⟨j, hj, rfl⟩ := hs
     omega
    simp only [List.mem_cons, List.not_mem_nil, or_false] at hs
    omega
  have hL := list_ok l E 3 (iota params.length ++ [(params.length : Int), ((params.length + 1 : Nat) : Int)]) plc0 B z1z 1 (by rw [<- eL]; exact ⟨[], by simp [hFt]⟩) hSn ⟨y6r, y6r, y6r⟩ ⟨fun h => (by cases h), fun h => (by cases h), fun _ => rfl, fun _ => rfl⟩ oM0
  have hF := y5c l 3 (iota params.length ++ [(params.length : Int), ((params.length + 1 : Nat) : Int)]) plc0 B
  rw [<- eL] at hL hF
  simp only [z44, Bool.and_eq_true] at hL
  rw [hBl, <- hFt] at hF
  have hn : (z3e params.length F.types.length).length = F.types.length := z3x oM0
  unfold z2s
  rw [hFp, hFb]
  simp only [Bool.and_eq_true, Bool.not_eq_true', decide_eq_false_iff_not, List.all_eq_true, Int.toNat_natCast]
  refine ⟨⟨⟨⟨⟨by omega, by omega⟩, by omega⟩, by omega⟩, fun t ht => ?_⟩, ?_⟩
  ·rcases tR t ht with rfl | rfl <;> rfl
  rw [ze5 u _ _ 1 z1z _ _ hn]
  have l1 : Leaf u F (iota params.length) z1z (.mk 1 0 3 z0o [] [(params.length : Int)] [] []) := leaf1 (by
    simp only [z25, z4s, Int.toNat_natCast, hi]
    rw [decide_eq_true oM0, decide_eq_true oM0]; rfl)
  have l2 : Leaf u F (iota params.length ++ [(params.length : Int)]) z1z (.mk 2 0 1 z0o [] [((params.length + 1 : Nat) : Int)] [] []) := leaf2 (.inr rfl) (by
    simp only [z25, z4s, Int.toNat_natCast, hb]
    rw [decide_eq_true oM0, decide_eq_true oM0]; rfl)
  have c1 : z02 (.mk 1 0 3 z0o [] [(params.length : Int)] [] []) = false := rfl
  have c2 : z02 (.mk 2 0 1 z0o [] [((params.length + 1 : Nat) : Int)] [] []) = false := rfl
  have hD : Fresh params.length F.types.length (dL ([.mk 1 0 3 z0o [] [(params.length : Int)] [] [], .mk 2 0 1 z0o [] [((params.length + 1 : Nat) : Int)] [] []] ++ L)) := by
    have e1 : dL ([.mk 1 0 3 z0o [] [(params.length : Int)] [] [], .mk 2 0 1 z0o [] [((params.length + 1 : Nat) : Int)] [] []] ++ L) = [(params.length : Int)] ++ ([((params.length + 1 : Nat) : Int)] ++ dL L) := by simp [dL, dN, dK]
    rw [e1]
    have f1 : Fresh params.length (params.length + 1) [(params.length : Int)] := ⟨by simp, fun v hv => by rw [List.mem_singleton.1 hv]; omega⟩
    have f2 : Fresh (params.length + 1) (params.length + 2) [((params.length + 1 : Nat) : Int)] := ⟨by simp, fun v hv => by rw [List.mem_singleton.1 hv]; omega⟩
    exact f1.app (f2.app hF (Nat.le_refl _) oM0 hRl) (Nat.le_refl _) oM0 oM0
  refine ⟨?_, hD.1, fun v hv => y0a (hD.2 v hv).1⟩
  have hemp : L.isEmpty = false := by simpa using hL.1
  have hgo : vGo u F 1 z1z (iota params.length ++ [(params.length : Int)] ++ [((params.length + 1 : Nat) : Int)]) L = true := by
    rw [List.append_assoc]
    exact hL.2
  have d1 : (!decide ((1 : Int) > 100)) = true := rfl
  show (true && (!decide ((1 : Int) > 100) && z3k u F 1 z1z (iota params.length) (.mk 1 0 3 z0o [] [(params.length : Int)] [] []) && (z02 (.mk 1 0 3 z0o [] [(params.length : Int)] [] []) == false) &&
    (!decide ((1 : Int) > 100) && z3k u F 1 z1z (iota params.length ++ [(params.length : Int)]) (.mk 2 0 1 z0o [] [((params.length + 1 : Nat) : Int)] [] []) && (z02 (.mk 2 0 1 z0o [] [((params.length + 1 : Nat) : Int)] [] []) == L.isEmpty) && vGo u F 1 z1z (iota params.length ++ [(params.length : Int)] ++ [((params.length + 1 : Nat) : Int)]) L))) = true
  rw [l1.ok, l2.ok, c1, c2, hemp, hgo]
  rfl
end
theorem made_ok (l : List UInt8) : (z2q (made l)).1 = 0 := by
  have S0 : (z0j [] ⟨0, [], 0⟩).1 = iota ([] : List Int).length := rfl
  have S2 : (z0j [1, 2] ⟨0, [], 0⟩).1 = iota ([1, 2] : List Int).length := rfl
  generalize hm : z24 l z0e [] ⟨0, [], 0⟩ = m
  have eM : made l = ⟨[⟨z71, 4⟩], [m.1, (z24 l z37 [1, 2] m.2).1]⟩ := by unfold made; simp only [hm]
  obtain ⟨B1, L1, R1, e1, eL1, eB1⟩ := zd0 l z0e [] S0 ⟨0, [], 0⟩
  obtain ⟨B2, L2, R2, e2, eL2, eB2⟩ := zd0 l z37 [1, 2] S2 m.2
  rw [hm] at e1
  have n1 : m.1.name = z0e := by rw [e1]
  have n2 : (z24 l z37 [1, 2] m.2).1.name = z37 := by rw [e2]
  have q11 : eqS z0e z0e = true := by decide +kernel
  have q12 : eqS z0e z37 = false := by decide +kernel
  have q22 : eqS z37 z37 = true := by decide +kernel
  have q21 : eqS z37 z0e = false := by decide +kernel
  have qa1 : eqS z0e z71 = false := by decide +kernel
  have qa2 : eqS z37 z71 = false := by decide +kernel
  have pF : z08 z37 (made l).flows 0 = 1 := by rw [eM]; simp [z08, n1, n2, q12, q22]
  have pM : z08 z0e (made l).flows 0 = 0 := by rw [eM]; simp [z08, n1, q11]
  have pA : z08 z71 (made l).flows 0 = -1 := by rw [eM]; simp [z08, n1, n2, qa1, qa2]
  have aA : z19 z71 (made l).arrays 0 = 0 := by
    rw [eM]
    show z19 z71 [⟨z71, 4⟩] 0 = 0
    decide +kernel
  have take2 : (z24 l z37 [1, 2] m.2).1.types.take 2 = [1, 2] := by
    rw [e2]
    have pR : Px B2 R2 := by have := zw7 l 3 (iota ([1, 2] : List Int).length ++ [(([1, 2] : List Int).length : Int), ((([1, 2] : List Int).length + 1 : Nat) : Int)]) plc0 B2; rw [<- eL2] at this; exact this
    obtain ⟨q, eR⟩ := pR
    show R2.types.take 2 = [1, 2]
    rw [eR, eB2]; rfl
  have env : ∀ f : Fl, f.ty = 1 -> Env (made l) f := fun f hf => ⟨hf, by rw [aA]; decide, by rw [pF]; decide, ⟨(z24 l z37 [1, 2] m.2).1, by rw [pF, eM]; rfl, by rw [show (z24 l z37 [1, 2] m.2).1.params = 2 by rw [e2]; rfl]; exact take2, by rw [e2]⟩⟩
  rw [z85]
  refine ⟨?_, fun f hf => ?_⟩
  ·have z1 : z4d z0e = true := by decide +kernel
   have z2 : z4d z37 = true := by decide +kernel
   have z3 : z4d z71 = true := by decide +kernel
   have hl2 : 2 <= (z24 l z37 [1, 2] m.2).1.types.length := by
     have := congrArg List.length take2
     simp at this; omega
   have ga : r8gA (made l) (made l).arrays 0 = true := by
     have : r8gA (made l) [⟨z71, 4⟩] 0 = true := by
       simp only [r8gA, gArr, z3, aA, pA]; decide
     rw [eM] at this ⊢; exact this
   have gf : r8gF (made l) (made l).flows 0 = true := by
     have : r8gF (made l) [m.1, (z24 l z37 [1, 2] m.2).1] 0 = true := by
       have t1 : m.1.ty = 1 := by rw [e1]
       have t2 : (z24 l z37 [1, 2] m.2).1.ty = 1 := by rw [e2]
       have p1 : m.1.params = 0 := by rw [e1]; rfl
       have p2 : (z24 l z37 [1, 2] m.2).1.params = 2 := by rw [e2]; rfl
       simp only [r8gF, gFlw, n1, n2, z1, z2, pF, pM, t1, t2, p1, p2]
       rw [decide_eq_false (show ¬ (0 : Int) > m.1.types.length by omega), decide_eq_false (show ¬ (2 : Int) > (z24 l z37 [1, 2] m.2).1.types.length by omega)]
       decide
     rw [eM] at this ⊢; exact this
   have gm : z7u (made l) = true := by
     unfold z7u
     rw [pM, eM]
     show (decide ((0 : Int) ≥ 0) && m.1.ty == 1 && m.1.params == 0) = true
     rw [e1]; rfl
   unfold z0r
   rw [ga, gf, gm]; rfl
  have hf2 : f = m.1 ∨ f = (z24 l z37 [1, 2] m.2).1 := by rw [eM] at hf; simpa using hf
  rcases hf2 with rfl | rfl
  ·rw [<- hm]; exact y84 l z0e [] S0 y6r dC0 ⟨0, [], 0⟩ (env _ (by rw [hm, e1]))
  exact y84 l z37 [1, 2] S2 (by intro t ht; simp at ht; omega) dC0 m.2 (env _ (by rw [e2]))
end
mutual
theorem y67 : ∀ x : Nd, y9h x x = true
  | .mk k o n s a u p ks => by simp only [y9h, beq_self_eq_true, zt3 ks, Bool.and_self]
theorem ze8 : ∀ l : List Nd, z4n l l = true
  | [] => by simp [z4n]
  | x :: r => by simp only [z4n, y67 x, ze8 r, Bool.and_self]
theorem zt3 : ∀ ks : List (List Nd), zo1 ks ks = true
  | [] => by simp [zo1]
  | l :: r => by simp only [zo1, ze8 l, zt3 r, Bool.and_self]
end
theorem zo0 : ∀ l : List Fl, z4w l l = true
  | [] => rfl
  | f :: r => by simp only [z4w, zb5, beq_self_eq_true, ze8, zo0 r, Bool.and_self]
theorem zn9 : ∀ l : List Ar, z9f l l = true
  | [] => rfl
  | f :: r => by simp only [z9f, y66, beq_self_eq_true, zn9 r, Bool.and_self]
theorem y9i (u : Un) : z7s u u = true := by simp only [z7s, beq_self_eq_true, zn9, zo0, Bool.and_self]
set_option maxRecDepth 20000
theorem y34 (l : List UInt8) : SC Tryz.prog 6 [.pv (bts l)] [] (fun k => k ∈ []) (iBool true) [] := by
  refine SC.vc tb {} [] Tryz.func6 rfl rfl ?_
  have hW := wt_made l
  have hz := made_ok l
  have hH := z4y trB hz
  have h1 := zx2 (made l) hW
  have hw2 : z1f (z3o trB (made l)) <= 536870912 := by have := zb4 trB zl7 (made l); rw [hH] at this; exact Nat.le_trans this hW
  have h2 := zx2 (z3o trB (made l)) hw2
  rw [hH] at h1
  rw [z4y trB (by rw [zr3 hz])] at h2
  have h3 := y9r (z3o trB (made l)) (z3o trB (made l))
  rw [y9i] at h3
  exact ⟨[], sc_made l, sR, trivial, rfl, [], h1, sR, trivial, rfl, [], h1, sR, trivial, rfl, [], h2, sR, trivial, rfl, [], sc_awake, sR, trivial, rfl, [], h3, sR, trivial, rfl, sI, trivial⟩
section
open Go Go.ChangeShapes Go.WideShapes Go.ChangeAt Go.RowKit
section
variable {H : Type} {enc : TypeId × Value -> H} {P : Program} {w : World} {base : Nat} {spare : Nat -> Bool} {held : Bool}
def RepEl (own : Nat -> Prop) (w : World) (ps : List PV) (cs : List Value) : Prop := ps.length = cs.length /\ ∀ (j : Nat) p v, ps[j]? = some p -> cs[j]? = some v -> RepP own w p v
theorem RepEl.nil {own : Nat -> Prop} : RepEl own w [] [] := ⟨rfl, fun j p v h => by simp at h⟩
theorem RepEl.cons {own : Nat -> Prop} {p : PV} {v : Value} {ps : List PV} {cs : List Value} (h : RepP own w p v) (hr : RepEl own w ps cs) : RepEl own w (p :: ps) (v :: cs) := by
  refine ⟨by simp [hr.1], fun j q x hq hx => ?_⟩
  cases j with
  | zero => simp at hq hx; subst hq; subst hx; exact h
  | succ j => exact hr.2 j q x (by simpa using hq) (by simpa using hx)
theorem zr4 {α : Type} (f : α -> List PV) (wt : α -> Nat) {own : Nat -> Prop} (R : Nat -> DataW H × List MemPlace -> List Value -> Prop)
    (hR : ∀ i y cs, R i y cs -> ∃ z : α, RepEl own w (f z) cs /\ wt z + 1 <= Rows.uptoBulk y.1) :
    ∀ (ys : List (DataW H × List MemPlace)) (s : Nat), (∀ i y, ys[i]? = some y -> ∃ cs, R (s + i) y cs) ->
      ∃ l : List α, l.length = ys.length /\ (∀ i z, l[i]? = some z -> ∃ y cs, ys[i]? = some y /\ R (s + i) y cs /\ RepEl own w (f z) cs) /\ (l.map wt).sum + l.length <= Rows.uptoBulkAll (ys.map (·.1))
  | [], _, _ => ⟨[], rfl, fun i z h => by simp at h, by simp [Rows.uptoBulkAll]⟩
  | y :: ys, s, h => by
    obtain ⟨cs, hcs⟩ := h 0 y rfl
    obtain ⟨z, hz, hw⟩ := hR _ _ _ hcs
    obtain ⟨l, hl, hg, hb⟩ := zr4 f wt R hR ys (s + 1) (fun i y' hy => by
      have := h (i + 1) y' (by simpa using hy)
      rwa [show s + 1 + i = s + (i + 1) by omega])
    refine ⟨z :: l, by simp [hl], fun i z' hz' => ?_, ?_⟩
    ·cases i with
     | zero => simp at hz'; subst hz'; exact ⟨y, cs, rfl, hcs, hz⟩
     | succ i =>
       obtain ⟨y', cs', h1, h2, h3⟩ := hg i z' (by simpa using hz')
       exact ⟨y', cs', by simpa using h1, by rwa [show s + (i + 1) = s + 1 + i by omega], h3⟩
    simp only [List.map_cons, List.sum_cons, List.length_cons, Rows.uptoBulkAll]; omega
theorem yd0 {α : Type} (f : α -> List PV) (wt : α -> Nat) {own : Nat -> Prop} (hown : ∀ b, b < w.heap.size -> ¬ own b) {t e : TypeId} {fuel : Nat} {cs : List Value} {x : DataW H × List MemPlace} {N : Nat} (ht : P.underlying t = some (.slice e)) (hC : P.cellsOf e = N) (hN : 0 < N)
    (h : DataW.trod enc P w base spare held fuel t cs = some x)
    (hel : ∀ n cs' y, n < fuel -> cs'.length = N -> DataW.trod enc P w base spare held n e cs' = some y -> ∃ z : α, RepEl own w (f z) cs' /\ wt z + 1 <= Rows.uptoBulk y.1) :
    ∃ (l : List α) (v : Value), cs = [v] /\ RepP own w (.seq (l.map f)) v /\ (l.map wt).sum + l.length + 1 <= Rows.uptoBulk x.1 := by
  rcases DataW.trod_slice ht h with ⟨rfl, rfl⟩ | ⟨a, len, cap, elems, rest, n, rfl, rfl, rfl, hb, hl, hm, hlen, hg, _, _⟩
  ·refine ⟨[], _, rfl, ?_, by simp [Rows.uptoBulk]⟩
   have := RepP.seq (own := own) (w := w) [] none 0 0 0 (fun _ _ => default) (fun h => absurd rfl h) (fun h => absurd rfl h) (Nat.le_refl _) (Nat.zero_le _) (fun i el h => by simp at h) (fun i el h => by simp at h)
   simpa using this
  obtain ⟨l, hll, hat, hsum⟩ := zr4 (w := w) f wt (own := own) (fun i y cs => w.cells? base (a.add (i * P.cellsOf e)) (P.cellsOf e) = some cs /\ DataW.trod enc P w base spare held n e cs = some y)
    (fun i y cs' hr => hel n cs' y (Nat.lt_succ_self _) (by rw [(World.cells?_some hr.1).2.1, hC]) hr.2) elems 0 (fun i y hy => by
      have hlt : i < len := by rw [<- hlen]; exact (List.getElem?_eq_some_iff.1 hy).1
      have h1 := hg i hlt
      rw [hy, Option.bind_eq_some_iff] at h1
      obtain ⟨cs', h2, h3⟩ := h1
      exact ⟨cs', by rw [Nat.zero_add]; exact h2, h3⟩)
  obtain ⟨ab, ao, asp⟩ := a
  have hlen2 : l.length = len := by rw [hll, hlen]
  -- a cell that can be read
  have hsp : l ≠ [] -> asp = none /\ ab < w.heap.size := by
    intro hne
    obtain ⟨z, r, rfl⟩ := List.exists_cons_of_ne_nil hne
    obtain ⟨y, cs', _, hr, hrep⟩ := hat 0 z rfl
    obtain ⟨_, hcl, hcell⟩ := World.cells?_some hr.1
    have h0 := hcell 0 (by rw [hC]; exact hN)
    have hlt : 0 < cs'.length := by rw [hcl, hC]; exact hN
    rw [List.getElem?_eq_getElem hlt] at h0
    unfold World.cell? at h0
    have e0 : (Addr.add (Addr.add ⟨ab, ao, asp⟩ ((0 + 0) * P.cellsOf e)) 0) = ⟨ab, ao, asp⟩ := by simp [Addr.add]
    rw [e0] at h0
    split at h0
    ·rename_i hh
     refine ⟨?_, (Array.getElem?_eq_some_iff.1 hh).1⟩
     cases asp with
     | none => rfl
     | some _ => simp at h0
    cases h0
  refine ⟨l, _, rfl, ?_, ?_⟩
  ·-- the cells of an element
   have key : ∀ i z, l[i]? = some z -> ∃ cs', RepEl own w (f z) cs' /\ cs'.length = N /\ ∀ j, j < N -> w.cell? ⟨ab, ao + i * N + j, none⟩ = cs'[j]? := by
     intro i z hz
     obtain ⟨y, cs', _, hr, hrep⟩ := hat i z hz
     obtain ⟨_, hcl, hcell⟩ := World.cells?_some hr.1
     refine ⟨cs', hrep, hcl.trans hC, fun j hj => ?_⟩
     have h1 := hcell j (by rw [hC]; exact hj)
     have hne : l ≠ [] := by intro e; subst e; simp at hz
     have hs := (hsp hne).1
     subst hs
     rw [<- h1, Addr.add_mid, Addr.add_mid, hC, Nat.zero_add]
   have hrep := RepP.seq (own := own) (w := w) (l.map f) (some ⟨ab, ao, asp⟩) cap ab ao (fun i j => (w.cell? ⟨ab, ao + i * N + j, none⟩).getD default)
     (fun hne => by rw [(hsp (by intro e; subst e; exact hne rfl)).1]) (fun hne => by
       have := (hsp (by intro e; subst e; exact hne rfl)).2
       exact ⟨hown _ this, this⟩) (by simp; omega) hm ?_ ?_
   ·rw [List.length_map, hlen2] at hrep; exact hrep
   ·intro i el hi j c hj
    rw [List.getElem?_map, Option.map_eq_some_iff] at hi
    obtain ⟨z, hz, rfl⟩ := hi
    obtain ⟨cs', hrep, hcl, hcell⟩ := key i z hz
    have hjN : j < N := by have := (List.getElem?_eq_some_iff.1 hj).1; rw [hrep.1, hcl] at this; exact this
    have h1 := hcell j hjN
    have hfl : (f z).length = N := by rw [hrep.1, hcl]
    rw [hfl, h1, List.getElem?_eq_getElem oM0]
    rfl
   intro i el hi j c hj
   rw [List.getElem?_map, Option.map_eq_some_iff] at hi
   obtain ⟨z, hz, rfl⟩ := hi
   obtain ⟨cs', hrep, hcl, hcell⟩ := key i z hz
   have hjN : j < N := by have := (List.getElem?_eq_some_iff.1 hj).1; rw [hrep.1, hcl] at this; exact this
   have h1 := hcell j hjN
   rw [List.getElem?_eq_getElem oM0] at h1
   rw [h1]
   exact hrep.2 j c _ hj (List.getElem?_eq_getElem oM0)
  simp only [Rows.uptoBulk]; omega
end
end
section
open Go Go.ChangeShapes Go.WideShapes Go.ChangeAt Go.RowKit Go.Deep
theorem Tryz.own : ownKnob Tryz.prog.godebug = none := by kernel_rfl
theorem Tryz.laidOut : laidOutB Tryz.prog = true := by kernel_rfl
section
variable {H : Type} {enc : TypeId × Value -> H} {P : Program}
theorem y9g {W W' : World} {p : MemPlace} (h : W'.heap[p.block]? = W.heap[p.block]?) : W.sameAt W' p := by
  cases p <;> simp_all [World.sameAt, MemPlace.block, World.cell?]
theorem zc3 (hl : laidOutB P = true) {W W' : World} (hb : ∀ b, b < W.heap.size -> W'.heap[b]? = W.heap[b]?) : ∀ (ts : List TypeId) (vs : List Value) (ds : List (DataW H)) (ps : List MemPlace),
    (∀ t ∈ ts, P.readableRec t = true /\ t < P.types.size) -> DataW.TrodAll enc P W 0 (fun _ => true) true ts vs ds ps -> (∀ x ∈ ps, x.block < W.heap.size) ->
    DataW.TrodAll enc P W' 0 (fun b => decide (b < W.heap.size)) true ts vs ds ps
  | [], vs, ds, ps, _, h, _ => by
    obtain ⟨rfl, rfl, rfl⟩ := trodAll_nil h
    exact trodAll_mk0
  | t :: ts, vs, ds, ps, hr, h, hp => by
    obtain ⟨v, vs', d, ds', p, q, rfl, rfl, rfl, h1, h2⟩ := trodAll_cons h
    have ht := hr t (.head _)
    refine ⟨p, q, ?_, zc3 hl hb ts vs' ds' q (fun t' h' => hr t' (.tail _ h')) h2 (fun x hx => hp x (List.mem_append_right _ hx)), rfl⟩
    refine WideElems.Trod_stays hl ht.1 ht.2 h1 (fun x hx => ?_) (fun x hx => by simpa using hp x (List.mem_append_left _ hx))
    exact y9g (hb _ (hp x (List.mem_append_left _ hx)))
theorem y5h {W W' : World} (may : MemPlace -> Prop) (hos : W'.os = W.os) (hout : W'.output = W.output) (hb : ∀ b, b < W.heap.size -> W'.heap[b]? = W.heap[b]?) : W.keptBut W' may := by
  refine ⟨hos, hout, fun i hi => ?_⟩
  rw [hb i hi]
  rcases h : W.heap[i]? with _ | o
  ·trivial
  cases o with
  | cells c t fr => exact ⟨rfl, rfl, rfl, fun _ _ => rfl⟩
  | map es clock => exact .inr ⟨rfl, rfl⟩
  | _ => rfl
theorem y98 {f : Func} {s : ChangeSpec} {apart fresh handsOn : Bool} {W W' : World} {args : Array Value} {ds gs : List (DataW H)} {before : List MemPlace} {tb : TypeId} (hl : laidOutB P = true) (hv0 : s.vars = [])
    (hW : DataW.Whole enc P f.params.toList s.vars apart W args.toList ds gs before) (hrd : ∀ t ∈ f.params.toList, P.readableRec t = true /\ t < P.types.size) (hres : f.resultTypes = #[tb]) (htb : P.underlying tb = some .bool)
    (hs : s.fn H (ds ++ gs) = { results := [.lit (.bool true)], args := ds }) (hos : W'.os = W.os) (hout : W'.output = W.output) (hb : ∀ b, b < W.heap.size -> W'.heap[b]? = W.heap[b]?) :
    s.post enc P f apart fresh handsOn false W args (.bool true) W' := by
  have hlt := hW.lt
  have hW' := hW
  obtain ⟨p, q, hA, hV, rfl, _, _⟩ := hW
  refine ⟨ds, gs, p ++ q, [], p, [], hW', ?_, ?_, ?_, y5h _ hos hout hb, fun h => by cases h⟩
  ·rw [hs, hres]
   exact trodAll_mk1 ⟨1, by simp [DataW.trod, htb, Value.cells]⟩
  ·rw [hs]
   exact zc3 hl hb _ _ _ _ hrd hA (fun x hx => hlt x (List.mem_append_left _ hx))
  rw [hs, hv0]
  exact rfl
end
theorem y9d {W : World} : RelH (fun _ => False) (fun _ => none) (look (up [])) W where
  inj _ _ _ _ _ h := by cases h
  apart _ _ _ h := by cases h
  old _ h := h.elim
  obj _ _ _ h := by cases h
  real _ _ h := by cases h
theorem y7k {P : Program} {f : FuncId} {args : List IV} {R : Nat -> Prop} (hsc : SC P f args [] R (iBool true) []) {W : World} {vs : List Value} (hr : RepL (fun _ => False) (fun _ => none) (look (up [])) W args vs) :
    Calls P f vs.toArray W fun e W' => e = .returned (.bool true) /\ W'.os = W.os /\ W'.output = W.output /\ ∀ b, b < W.heap.size -> W'.heap[b]? = W.heap[b]? := by
  refine (hsc (fun _ => False) (fun _ => none) W vs y9d hr).mono ?_
  rintro e W' ⟨ρ', v, rfl, hv, _, t⟩
  refine ⟨?_, t.os, t.output, fun b hb => t.blk b hb fun k c h => by cases h⟩
  cases hv with
  | pv _ _ hp => cases hp; rfl
theorem own_none {b : Nat} : ¬ owned (fun _ => False) (fun _ => none) b := by
  rintro (h | ⟨_, _, h⟩)
  ·exact h
  cases h
end
section
open Go Go.ChangeShapes Go.WideShapes Go.ChangeAt Go.RowKit Go.Deep
theorem repL_one {x : IV} {v : Value} {F : Nat -> Prop} {ρ : Loc} {σ : Heap'} {w : World} (h : RepI F ρ σ w x v) : RepL F ρ σ w [x] [v] := by
  refine ⟨rfl, fun j y hj => ?_⟩
  cases j with
  | zero => simp at hj; subst hj; exact ⟨v, rfl, h⟩
  | succ j => simp at hj
end
section
open Go Go.ChangeShapes Go.WideShapes Go.ChangeAt Go.RowKit Go.Deep
section
variable {H : Type} {enc : TypeId × Value -> H} {P : Program} {w : World} {base : Nat} {spare : Nat -> Bool} {held : Bool}
theorem y6t {own : Nat -> Prop} (hown : ∀ b, b < w.heap.size -> ¬ own b) {t e : TypeId} {fuel : Nat} {cs : List Value} {x : DataW H × List MemPlace} (ht : P.underlying t = some (.slice e)) (he : P.underlying e = some (.int .u8)) (hC : P.cellsOf e = 1)
    (h : DataW.trod enc P w base spare held fuel t cs = some x) : ∃ (l : List UInt8) (v : Value), cs = [v] /\ RepP own w (bts l) v := by
  obtain ⟨l, v, h1, h2, _⟩ := yd0 eB (fun _ => 0) hown ht hC dC0 h (fun n cs' y _ _ hy => by
    obtain ⟨k, rfl, rfl, hk⟩ := DataW.trod_int he hy
    have hr : 0 <= k /\ k <= 255 := by
      simp [Lit.wf, IntKind.min, IntKind.max, IntKind.bits, IntKind.signed] at hk
      omega
    refine ⟨UInt8.ofNat k.toNat, ?_, by simp [Rows.uptoBulk]⟩
    have e : ((UInt8.ofNat k.toNat).toNat : Int) = k := by
      rw [UInt8.toNat_ofNat_of_lt' (by simp [UInt8.size]; omega)]
      omega
    unfold eB
    rw [e]
    exact RepEl.cons (.val _) .nil)
  exact ⟨l, v, h1, h2⟩
end
set_option maxRecDepth 100000 in
theorem y5x {H : Type} {enc : TypeId × Value -> H} {W : World} {base b0 : Nat} {spare : Nat -> Bool} {held : Bool} {r : Reach} {v : Value} {d : DataW H} {p : List MemPlace} (hv : Value.okWide Tryz.prog W r b0 29 v)
    (h : DataW.Trod enc Tryz.prog W base spare held 29 v d p) : ∃ l : List UInt8, RepI (fun _ => False) (fun _ => none) (look (up [])) W (.pv (bts l)) v := by
  obtain ⟨a, len, cap, rfl⟩ := okWide_slice Tryz.underlying29 hv
  obtain ⟨fuel, hf⟩ := h
  obtain ⟨l, v', h1, h2⟩ := y6t (own := owned (fun _ => False) (fun _ => none)) (fun _ _ => own_none) Tryz.underlying29 Tryz.underlying5 kR0 hf
  have e : (Value.slice a len cap).cells.toList = [Value.slice a len cap] := rfl
  rw [e] at h1
  cases h1
  exact ⟨l, .pv _ _ h2⟩
set_option maxRecDepth 100000 in
theorem zp7 (hsc : ∀ l : List UInt8, SC Tryz.prog 6 [.pv (bts l)] [] (fun _ => False) (iBool true) []) (os : Os) (started : os.Started) (H : Type) (enc : TypeId × Value -> H) :
    ReturnsInHanded {} Tryz.checked os 6 .any (Rows.trimSameSpec.pre6 enc Tryz.prog Tryz.f6 Rows.trimSameRow.domain false) (Rows.trimSameSpec.post enc Tryz.prog Tryz.f6 false true false false) := by
  refine returnsInHanded_of_change (C := Tryz.checked) Tryz.own started kR0 Tryz.func6
    (ChangeSpec.witness6 (enc := enc) (C := Tryz.checked) false ⟨#[], #[.slice none 0 0], []⟩ 8 kR0 kR0 kR0 kR0) ?_
  intro W base args ds gs before hval hW _ _
  have hW' := hW
  obtain ⟨p, q, hA0, hV, rfl, hfz, hnd⟩ := hW
  have hA : DataW.TrodAll enc Tryz.prog W 0 (fun _ => true) true Tryz.f6.params.toList args.toList ds p := hA0
  rw [Tryz.params6] at hA hval
  obtain ⟨v0, vs0, d0, ds0, p0, q0, hargs, rfl, rfl, h0, r0⟩ := trodAll_cons hA
  obtain ⟨rfl, rfl, rfl⟩ := trodAll_nil r0
  obtain rfl : args = #[v0] := by cases args; simp_all
  obtain ⟨rfl, rfl⟩ := trodVars_none hV
  obtain ⟨l, hu⟩ := y5x (hval 0 29 v0 rfl rfl) h0
  refine (y7k (hsc l) (repL_one hu)).mono ?_
  rintro e W' ⟨rfl, hos, hout, hbl⟩
  exact ⟨_, rfl, y98 Tryz.laidOut rfl hW' (fun t ht => by
    rw [Tryz.params6] at ht
    obtain rfl : t = 29 := by simpa using ht
    exact ⟨by kernel_rfl, of_decide_eq_true kR0⟩) kR0 Tryz.underlying4 rfl hos hout hbl⟩
set_option maxRecDepth 100000 in
theorem y3m (hsc : ∀ l : List UInt8, SC Tryz.prog 6 [.pv (bts l)] [] (fun _ => False) (iBool true) []) : Rows.TrimSameSaid :=
  OpenClaim.holds_of_wide 6 Tryz.f6 rfl rfl rfl rfl rfl rfl rfl ⟨rfl, rfl, rfl, rfl, rfl⟩ rfl rfl rfl rfl rfl kR0 Tryz.func6 kR0
    (of_decide_eq_true kR0) (by unfold Func.isWrapper; first | (rw [if_pos (by decide +kernel)]; kernel_rfl) | (rw [if_neg (by decide +kernel)]; exact ⟨rfl, rfl⟩))
    (fun os started H enc _ => zp7 hsc os started H enc)
end
theorem trimSame_holds : Rows.TrimSameSaid := y3m fun l => (y34 l).anyR
end Go.Proofs.YtekdhljpmflboaaGreat
