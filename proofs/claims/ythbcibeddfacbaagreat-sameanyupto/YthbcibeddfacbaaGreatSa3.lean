/- PART 3 of 5 of a proof: see the last part. -/
import Derived.Test.YthbcibeddfacbaaGreatSa2
set_option maxRecDepth 8000
set_option maxHeartbeats 2000000
set_option linter.unusedSimpArgs false
set_option linter.unusedVariables false
set_option linter.unusedSectionVars false
namespace Go.Proofs.YthbcibeddfacbaaGreat
open Go
theorem y1z (u v : Un) : SC Tryz.prog 15 [.pv u.enc, .pv v.enc] [] (fun _ => False) (iBool (z51 u v)) [] := by
  refine SC.of Tryz.func15 rfl (lb rfl) fun F ρ w => ?_
  refine tQ <| tG <| cE rfl (z13 rfl rfl) <| cE rfl (z13 rfl rfl) <| sm 1 rfl <| nL <| tQ <| tQ <| tG <| sm 2 rfl <| cV rfl (oSm uT22 rfl) <| sm 2 rfl ?_
  refine cV rfl (oSm uT22 rfl) <| sm 2 rfl ?_
  refine wS 16 rfl (fun hb16 => ?_) fun hb16 => ?_
  ·refine sm 8 rfl <| nL <| Tr.condT rfl <| tQ <| tG <| sm 1 rfl <| nL <| tRt <| rOk rfl ?_ nPo
   refine congrArg (fun b => iBool b) ?_
   have hne : ¬ (u.arrays.length = v.arrays.length /\ u.flows.length = v.flows.length) := by
     rintro ⟨h1, h2⟩
     simp_all
   unfold z51
   by_cases h1 : u.arrays.length = v.arrays.length
   ·have h2 : ¬ u.flows.length = v.flows.length := fun h2 => hne ⟨h1, h2⟩
    simp [h2]
   simp [h1]
  refine sm 2 rfl <| yV rfl rfl (oSm uT23 rfl) <| sm 2 rfl <| yV rfl rfl (oSm uT23 rfl) <| sm 2 rfl <| nL ?_
  refine tC rfl (fun hc24 => ?_) fun hc24 => ?_
  ·refine tQ <| tG <| sm 1 rfl <| nL <| tRt <| rOk rfl ?_ nPo
   refine congrArg (fun b => iBool b) ?_
   have hne : ¬ (u.arrays.length = v.arrays.length /\ u.flows.length = v.flows.length) := by
     rintro ⟨h1, h2⟩
     simp_all
   unfold z51
   by_cases h1 : u.arrays.length = v.arrays.length
   ·have h2 : ¬ u.flows.length = v.flows.length := fun h2 => hne ⟨h1, h2⟩
    simp [h2]
   simp [h1]
  have hlen : u.arrays.length = v.arrays.length /\ u.flows.length = v.flows.length := by
    (simp_all <;> omega)
  refine tSk <| tQ <| tQ <| tG <| sm 1 rfl <| nL <| tBk <| Tr.sub (Sub.of (fr' := [(5, iInt 0), (2, .pv (.ept [arrs u.arrays, flws u.flows] 0)), (3, .pv (.ept [arrs v.arrays, flws v.flows] 0))]) ⟨rfl, rfl, rfl, trivial⟩) ?_
  refine Tr.loop (fun fr σ m => ∃ (k : Nat), (k <= u.arrays.length) /\ (z3w u.arrays v.arrays = z3w (u.arrays.drop k) (v.arrays.drop k)) /\ fr = [(5, iInt k), (2, .pv (.ept [arrs u.arrays, flws u.flows] 0)), (3, .pv (.ept [arrs v.arrays, flws v.flows] 0))] /\ σ = look [] /\ m = u.arrays.length - k) (n := u.arrays.length - 0) ?_ ?_
  ·exact ⟨0, Nat.zero_le _, rfl, rfl, rfl, rfl⟩
  rintro fr σ m ⟨k, hI0, hI1, rfl, rfl, rfl⟩
  refine tQ <| tQ <| tG <| sm 3 rfl ?_
  refine WL.lenOf (t := 27) rfl (fun hl1 => ?_)
  simp only [List.length_map] at hl1
  refine cV rfl (oSm uT22 rfl) <| sm 1 rfl <| nL ?_
  refine tC rfl (fun hc29 => ?_) fun hc29 => ?_
  ·have hlt : k < u.arrays.length := by simpa using hc29
   have hd := List.drop_eq_getElem_cons hlt
   have hm := List.getElem_mem hlt
   have hi := z0c (f := Ar.enc) (List.getElem?_eq_getElem hlt)
   generalize u.arrays[k] = x at hd hm hi
   have hltw : k < v.arrays.length := by omega
   have hdw := List.drop_eq_getElem_cons hltw
   have hw := z0c (f := Ar.enc) (List.getElem?_eq_getElem hltw)
   generalize v.arrays[k] = y at hdw hw
   refine tSk <| tQ <| tBk <| tQ <| Tr.still z15 kR0 rfl <| smS 3 rfl <| sV rfl (iSq rfl rfl rfl uT22 hi tS49 rfl (by rfl)) <| sV rfl (lEA rfl rfl Tryz.underlying49 rfl tS49 (lb rfl)) <| smS 3 rfl <| sV rfl (iSq rfl rfl rfl uT22 hw tS49 rfl (by rfl)) <| sV rfl (lEA rfl rfl Tryz.underlying49 rfl tS49 (lb rfl)) <| sV rfl (z85 rfl rfl rfl Tryz.underlying49 uT9 uT3 rfl rfl dC0 dC0 kR0 kR0) ?_
   refine WS.nil ?_
   refine tC rfl (fun hc42 => ?_) fun hc42 => ?_
   ·refine tQ <| tG <| sm 1 rfl <| nL <| tRt <| rOk rfl ?_ nPo
    have hxy : zc4 x y = false := by
      clear hd hdw hm hi hw hI1
      cases hb1 : (x.name.toList == y.name.toList) <;> cases hb2 : (x.size == y.size) <;> simp_all [zc4]
    have hA : z3w u.arrays v.arrays = false := by rw [hI1, hd, hdw]; simp [z3w, hxy]
    simp [z51, hA]
   refine tSk <| tG <| sm 1 rfl <| cV rfl (oB rfl rfl (z05 rfl oM0)) <| sm 1 rfl <| nL ?_
   refine ⟨_, _, ?_, Sub.of (fr' := [(5, iInt (k + 1)), (2, .pv (.ept [arrs u.arrays, flws u.flows] 0)), (3, .pv (.ept [arrs v.arrays, flws v.flows] 0))]) ⟨rfl, rfl, rfl, trivial⟩, (k + 1), ?_, ?_, rfl, rfl, rfl⟩
   ·omega
   ·omega
   rw [hI1, hd, hdw]
   have hxy : zc4 x y = true := by
     clear hd hdw hm hi hw
     simp_all [zc4]
   simp [z3w, hxy]
  refine tEx <| tQ <| tQ ?_
  have hAs : z3w u.arrays v.arrays = true := by
    have hge : u.arrays.length <= k := by simpa using hc29
    rw [hI1, List.drop_eq_nil_of_le hge, List.drop_eq_nil_of_le oM0]
    rfl
  refine tG <| sm 1 rfl <| nL <| tBk <| Tr.sub (Sub.of (fr' := [(6, iInt 0), (2, .pv (.ept [arrs u.arrays, flws u.flows] 0)), (3, .pv (.ept [arrs v.arrays, flws v.flows] 0))]) ⟨rfl, rfl, rfl, trivial⟩) ?_
  refine Tr.loop (fun fr σ m => ∃ (k : Nat), (k <= u.flows.length) /\ (z41 u.flows v.flows = z41 (u.flows.drop k) (v.flows.drop k)) /\ fr = [(6, iInt k), (2, .pv (.ept [arrs u.arrays, flws u.flows] 0)), (3, .pv (.ept [arrs v.arrays, flws v.flows] 0))] /\ σ = look [] /\ m = u.flows.length - k) (n := u.flows.length - 0) ?_ ?_
  ·exact ⟨0, Nat.zero_le _, rfl, rfl, rfl, rfl⟩
  rintro fr σ m ⟨k, hI0, hI1, rfl, rfl, rfl⟩
  refine tQ <| tQ <| tG <| sm 3 rfl ?_
  refine WL.lenOf (t := 45) rfl (fun hl1 => ?_)
  simp only [List.length_map] at hl1
  refine cV rfl (oSm uT23 rfl) <| sm 1 rfl <| nL ?_
  refine tC rfl (fun hc47 => ?_) fun hc47 => ?_
  ·have hlt : k < u.flows.length := by simpa using hc47
   have hd := List.drop_eq_getElem_cons hlt
   have hm := List.getElem_mem hlt
   have hi := z0c (f := Fl.enc) (List.getElem?_eq_getElem hlt)
   generalize u.flows[k] = x at hd hm hi
   have hltw : k < v.flows.length := by omega
   have hdw := List.drop_eq_getElem_cons hltw
   have hw := z0c (f := Fl.enc) (List.getElem?_eq_getElem hltw)
   generalize v.flows[k] = y at hdw hw
   refine tSk <| tQ <| tBk <| tQ ?_
   refine Tr.cut (fr' := [(8, .ptr 108 0), (7, .ptr 107 0), (6, iInt k), (2, .pv (.ept [arrs u.arrays, flws u.flows] 0)), (3, .pv (.ept [arrs v.arrays, flws v.flows] 0))]) (σ' := look [(107, some (.box [iStr x.name, iInt x.ty, iInt x.params, .pv (ints x.types), .pv (z07 x.body)])), (108, some (.box [iStr y.name, iInt y.ty, iInt y.params, .pv (ints y.types), .pv (z07 y.body)]))]) ?_ ?_
   ·refine tDr z15 (fun k => k ∈ ([] : List Nat)) <| wR 4 [0, 1, 2, 3, 4, 5, 6, 7, 8, 9] kR0 (fun _ _ _ h => pn h.1) <| smR 3 rfl <| rV rfl rfl (iSq rfl rfl rfl uT23 hi tS51 rfl (by rfl)) <| rV rfl rfl (lEA rfl rfl Tryz.underlying51 rfl tS51 (lb rfl)) <| smR 3 rfl <| rV rfl rfl (iSq rfl rfl rfl uT23 hw tS51 rfl (by rfl)) <| rV rfl rfl (lEA rfl rfl Tryz.underlying51 rfl tS51 (lb rfl)) <| nR <| WA.all (rs := [10, 11]) kR0 sI0 ?_
    refine fmc ⟨?_, fmc ⟨?_, by simp⟩⟩
    ·refine wI rfl rfl nf (z10 rfl) (fun _ _ => aLc (k := 107) rfl tZ51 rfl rfl rfl rfl) <| wO 11 kR0 <| wI rfl rfl nf (z10 rfl) (fun _ _ => aLc (k := 108) rfl tZ51 rfl rfl rfl rfl) <| wO 12 kR0 <| wI rfl rfl nf (nOl rfl) (fun _ _ => sBA rfl rfl rfl rfl rfl sI0 tS51 (flk rfl) (lb rfl)) <| wO 13 kR0 <| wI rfl rfl nf (nOl rfl) (fun _ _ => sBA rfl rfl rfl rfl rfl sI0 tS51 (flk rfl) (lb rfl)) <| wDn kR0 ?_
     refine ⟨rfl, Sub.of ⟨rfl, rfl, rfl, rfl, rfl, trivial⟩, ?_⟩
     exact z6t rfl rfl (fun k h1 h2 => by simp [look, z00 (Ne.symm h1), z00 (Ne.symm h2)]) dC0
    refine wI rfl rfl nf (z10 rfl) (fun _ _ => aLc (k := 108) rfl tZ51 rfl rfl rfl rfl) <| wO 10 kR0 <| wI rfl rfl nf (z10 rfl) (fun _ _ => aLc (k := 107) rfl tZ51 rfl rfl rfl rfl) <| wO 12 kR0 <| wI rfl rfl nf (nOl rfl) (fun _ _ => sBA rfl rfl rfl rfl rfl sI0 tS51 (flk rfl) (lb rfl)) <| wO 13 kR0 <| wI rfl rfl nf (nOl rfl) (fun _ _ => sBA rfl rfl rfl rfl rfl sI0 tS51 (flk rfl) (lb rfl)) <| wDn kR0 ?_
    refine ⟨rfl, Sub.of ⟨rfl, rfl, rfl, rfl, rfl, trivial⟩, ?_⟩
    exact z6t rfl rfl (fun k h1 h2 => by simp [look, z00 (Ne.symm h1), z00 (Ne.symm h2)]) dC0
   refine Tr.freezeBox (t := 7) (k := 107) rfl rfl rfl <| Tr.freezeBox (t := 8) (k := 108) rfl rfl rfl <| Tr.heap (σ' := look []) (fun k => by simp only [look]; cases Nat.beq 107 k <;> cases Nat.beq 108 k <;> rfl) <| tQ <| tG <| sm 4 rfl <| cV rfl (bSt rfl rfl rfl rfl) <| sm 1 rfl ?_
   refine wS 65 rfl (fun hb65 => ?_) fun hb65 => ?_
   ·refine sm 29 rfl <| nL <| Tr.condT rfl <| tQ <| tG <| sm 1 rfl <| nL <| tRt <| rOk rfl ?_ nPo
    have hxy : z8p x y = false := by
      clear hd hdw hm hi hw hI1
      simp_all [z8p]
    have hF : z41 u.flows v.flows = false := by rw [hI1, hd, hdw]; simp [z41, hxy]
    simp [z51, hF]
   refine sm 7 rfl ?_
   refine wS 72 rfl (fun hb72 => ?_) fun hb72 => ?_
   ·refine sm 22 rfl <| nL <| Tr.condT rfl <| tQ <| tG <| sm 1 rfl <| nL <| tRt <| rOk rfl ?_ nPo
    have hxy : z8p x y = false := by
      clear hd hdw hm hi hw hI1
      simp_all [z8p]
    have hF : z41 u.flows v.flows = false := by rw [hI1, hd, hdw]; simp [z41, hxy]
    simp [z51, hF]
   refine sm 7 rfl ?_
   refine wS 79 rfl (fun hb79 => ?_) fun hb79 => ?_
   ·refine sm 15 rfl <| nL <| Tr.condT rfl <| tQ <| tG <| sm 1 rfl <| nL <| tRt <| rOk rfl ?_ nPo
    have hxy : z8p x y = false := by
      clear hd hdw hm hi hw hI1
      simp_all [z8p]
    have hF : z41 u.flows v.flows = false := by rw [hI1, hd, hdw]; simp [z41, hxy]
    simp [z51, hF]
   refine sm 4 rfl <| WL.yes rfl rfl rfl rfl rfl rfl (z0r (z45 _ _) ent27 rfl rfl (sRf _ _) rfl) <| sm 3 rfl ?_
   refine wS 87 rfl (fun hb87 => ?_) fun hb87 => ?_
   ·refine sm 7 rfl <| nL <| Tr.condT rfl <| tQ <| tG <| sm 1 rfl <| nL <| tRt <| rOk rfl ?_ nPo
    have hxy : z8p x y = false := by
      clear hd hdw hm hi hw hI1
      simp_all [z8p]
    have hF : z41 u.flows v.flows = false := by rw [hI1, hd, hdw]; simp [z41, hxy]
    simp [z51, hF]
   refine sm 4 rfl <| WL.yes rfl rfl rfl rfl rfl rfl (z0r (zf1 _ _) ent28 rfl rfl (sRf _ _) rfl) <| sm 2 rfl <| nL ?_
   refine tC rfl (fun hc94 => ?_) fun hc94 => ?_
   ·refine tQ <| tG <| sm 1 rfl <| nL <| tRt <| rOk rfl ?_ nPo
    have hxy : z8p x y = false := by
      clear hd hdw hm hi hw hI1
      simp_all [z8p]
    have hF : z41 u.flows v.flows = false := by rw [hI1, hd, hdw]; simp [z41, hxy]
    simp [z51, hF]
   refine tSk <| tG <| sm 1 rfl <| cV rfl (oB rfl rfl (z05 rfl oM0)) <| sm 1 rfl <| nL ?_
   refine ⟨_, _, ?_, Sub.of (fr' := [(6, iInt (k + 1)), (2, .pv (.ept [arrs u.arrays, flws u.flows] 0)), (3, .pv (.ept [arrs v.arrays, flws v.flows] 0))]) ⟨rfl, rfl, rfl, trivial⟩, (k + 1), ?_, ?_, rfl, rfl, rfl⟩
   ·omega
   ·omega
   rw [hI1, hd, hdw]
   have hxy : z8p x y = true := by
     clear hd hdw hm hi hw
     simp_all [z8p]
   simp [z41, hxy]
  refine tEx <| tQ <| tG <| sm 1 rfl <| nL <| tRt <| rOk rfl ?_ nPo
  have hge : u.flows.length <= k := by simpa using hc47
  have hF : z41 u.flows v.flows = true := by rw [hI1, List.drop_eq_nil_of_le hge, List.drop_eq_nil_of_le oM0]; rfl
  simp [z51, hAs, hF, hlen.1, hlen.2]
theorem zs9 (u : Un) (hb : z0x u <= 4611686018427387904) : SC Tryz.prog 8 [.pv u.enc] [] (fun _ => False) (iInt (z0x u)) [] := by
  refine SC.of Tryz.func8 rfl (lb rfl) fun F ρ w => ?_
  have hW : z0x u = u.arrays.length + u.flows.length + wtA u.arrays + wtF u.flows := rfl
  refine tQ <| tG <| cE rfl (z13 rfl rfl) <| sm 1 rfl <| nL <| tQ <| tG <| sm 2 rfl ?_
  refine WL.lenOf (t := 7) rfl (fun hl1 => ?_)
  simp only [List.length_map] at hl1
  refine cV rfl (oSm uT22 rfl) <| sm 2 rfl ?_
  refine WL.lenOf (t := 10) rfl (fun hl2 => ?_)
  simp only [List.length_map] at hl2
  refine cV rfl (oSm uT23 rfl) <| cV rfl (oB rfl rfl (z05 rfl oM0)) <| sm 1 rfl <| nL <| tQ <| tQ <| tG <| sm 1 rfl <| nL <| tBk <| Tr.sub (Sub.of (fr' := [(4, iInt 0), (3, iInt (u.arrays.length + u.flows.length)), (1, .pv (.ept [arrs u.arrays, flws u.flows] 0))]) ⟨rfl, (by rfl), rfl, trivial⟩) ?_
  refine Tr.loop (fun fr σ m => ∃ (k : Nat) (n : Nat), (k <= u.arrays.length) /\ (n + wtA (u.arrays.drop k) + wtF u.flows = z0x u) /\ fr = [(4, iInt k), (3, iInt n), (1, .pv (.ept [arrs u.arrays, flws u.flows] 0))] /\ σ = look [] /\ m = u.arrays.length - k) (n := u.arrays.length - 0) ?_ ?_
  ·exact ⟨0, (u.arrays.length + u.flows.length), Nat.zero_le _, rfl, rfl, rfl, rfl⟩
  rintro fr σ m ⟨k, n, hI0, hI1, rfl, rfl, rfl⟩
  refine tQ <| tQ <| tG <| sm 3 rfl <| cV rfl (oSm uT22 rfl) <| sm 1 rfl <| nL ?_
  refine tC rfl (fun hc17 => ?_) fun hc17 => ?_
  ·have hlt : k < u.arrays.length := by simpa using hc17
   have hd := List.drop_eq_getElem_cons hlt
   have hm := List.getElem_mem hlt
   have hi := z0c (f := Ar.enc) (List.getElem?_eq_getElem hlt)
   generalize u.arrays[k] = x at hd hm hi
   rw [hd, show wtA (x :: u.arrays.drop (k + 1)) = x.name.size + wtA (u.arrays.drop (k + 1)) from rfl] at hI1
   refine tSk <| tQ <| tBk <| tG <| sm 4 rfl <| cV rfl (iSq rfl rfl rfl uT22 hi tS49 rfl (by rfl)) <| sm 2 rfl <| cV rfl (z48 rfl rfl uT9) <| cV rfl (oB rfl rfl (z05 rfl oM0)) <| sm 1 rfl <| nL <| tG ?_
   refine sm 1 rfl <| cV rfl (oB rfl rfl (z05 rfl oM0)) <| sm 1 rfl <| nL ?_
   refine ⟨_, _, ?_, Sub.of (fr' := [(4, iInt (k + 1)), (3, iInt (n + x.name.size)), (1, .pv (.ept [arrs u.arrays, flws u.flows] 0))]) ⟨rfl, congrArg (fun z => some (iInt z)) (by rfl), rfl, trivial⟩, (k + 1), (n + x.name.size), ?_, ?_, rfl, rfl, rfl⟩
   all_goals omega
  refine tEx <| tQ <| tQ <| tG <| sm 1 rfl <| nL <| tBk ?_
  have hstart : n + wtF (u.flows.drop 0) = z0x u := by
    rw [List.drop_eq_nil_of_le (by simpa using hc17)] at hI1
    simpa [wtA] using hI1
  refine Tr.sub (Sub.of (fr' := [(5, iInt 0), (3, iInt n), (1, .pv (.ept [arrs u.arrays, flws u.flows] 0))]) ⟨rfl, rfl, rfl, trivial⟩) ?_
  refine Tr.loop (fun fr σ m => ∃ (k : Nat) (acc : Nat), (k <= u.flows.length) /\ (acc + wtF (u.flows.drop k) = z0x u) /\ fr = [(5, iInt k), (3, iInt acc), (1, .pv (.ept [arrs u.arrays, flws u.flows] 0))] /\ σ = look [] /\ m = u.flows.length - k) (n := u.flows.length - 0) ?_ ?_
  ·exact ⟨0, n, Nat.zero_le _, hstart, rfl, rfl, rfl⟩
  rintro fr σ m ⟨k, acc, hJ0, hJ1, rfl, rfl, rfl⟩
  refine tQ <| tQ <| tG <| sm 3 rfl <| cV rfl (oSm uT23 rfl) <| sm 1 rfl <| nL ?_
  refine tC rfl (fun hc33 => ?_) fun hc33 => ?_
  ·have hlt : k < u.flows.length := by simpa using hc33
   have hd := List.drop_eq_getElem_cons hlt
   have hm := List.getElem_mem hlt
   have hi := z0c (f := Fl.enc) (List.getElem?_eq_getElem hlt)
   generalize u.flows[k] = x at hd hm hi
   rw [hd, show wtF (x :: u.flows.drop (k + 1)) = x.name.size + x.types.length + z1a x.body + wtF (u.flows.drop (k + 1)) from rfl] at hJ1
   have hbn : z1a x.body <= 4611686018427387904 := by omega
   refine tSk <| tQ <| tBk <| tDr z15 (fun k => k ∈ ([] : List Nat)) <| wR 3 [0, 1, 2, 3, 4, 5, 6, 7, 8, 9, 10, 11, 12, 13, 14, 15, 16, 17, 18, 19, 20, 21, 22] kR0 h30 <| smR 4 rfl <| rV rfl rfl (iSq rfl rfl rfl uT23 hi tS51 rfl (by rfl)) <| smR 2 rfl <| rV rfl rfl (z48 rfl rfl uT9) <| rV rfl rfl (oB rfl rfl (z05 rfl oM0)) <| smR 3 rfl <| rV rfl rfl (iSq rfl rfl rfl uT23 hi tS51 rfl (by rfl)) ?_
   refine smR 2 rfl <| rV rfl rfl (oSm uT35 rfl) <| rV rfl rfl (oB rfl rfl (z05 rfl oM0)) <| smR 3 rfl <| rV rfl rfl (iSq rfl rfl rfl uT23 hi tS51 rfl (by rfl)) <| smR 2 rfl <| nR <| wO 23 kR0 <| wI rfl rfl nf nw (fun _ _ => ocq (y00 _ hbn) ent18 rfl rfl) <| wR 0 [24, 25] kR0 h30 <| rV rfl rfl (oB rfl rfl (z05 rfl oM0)) <| smR 1 rfl ?_
   refine nR <| wDn kR0 <| tG <| sm 1 rfl <| cV rfl (oB rfl rfl (z05 rfl oM0)) <| sm 1 rfl <| nL ?_
   refine ⟨_, _, ?_, Sub.of (fr' := [(5, iInt (k + 1)), (3, iInt (acc + x.name.size + x.types.length + z1a x.body)), (1, .pv (.ept [arrs u.arrays, flws u.flows] 0))]) ⟨rfl, congrArg (fun z => some (iInt z)) (by rfl), rfl, trivial⟩, (k + 1), (acc + x.name.size + x.types.length + z1a x.body), ?_, ?_, rfl, rfl, rfl⟩
   all_goals omega
  refine tEx <| tQ <| tG <| sm 2 rfl <| nL <| tRt <| rOk rfl ?_ nPo
  rw [List.drop_eq_nil_of_le (by simpa using hc33)] at hJ1
  simp only [wtF, Nat.add_zero] at hJ1
  rw [<- hJ1]
def z1g : ByteArray := ⟨#[109, 97, 105, 110]⟩
def gArr (u : Un) (a : Ar) (i : Int) : Bool := z3r a.name && !decide (a.size < 1) && !decide (a.size > 1000) && (z1h a.name u.arrays 0 == i) && !decide (z0a a.name u.flows 0 ≥ 0)
def r8gA (u : Un) : List Ar -> Int -> Bool
  | [], _ => true
  | a :: r, i => gArr u a i && r8gA u r (i + 1)
def gFlw (u : Un) (f : Fl) (i : Int) : Bool := z3r f.name && (z0a f.name u.flows 0 == i) && (f.ty == 1 || f.ty == 2) && !decide (f.params < 0) && !decide (f.params > f.types.length)
def r8gF (u : Un) : List Fl -> Int -> Bool
  | [], _ => true
  | f :: r, i => gFlw u f i && r8gF u r (i + 1)
def zl6 : Fl := ⟨⟨#[]⟩, 0, 0, [], []⟩
def z76 (u : Un) : Bool := decide (z0a z1g u.flows 0 ≥ 0) && (u.flows.getD (z0a z1g u.flows 0).toNat zl6).ty == 1 && (u.flows.getD (z0a z1g u.flows 0).toNat zl6).params == 0
def z0s (u : Un) : Bool := r8gA u u.arrays 0 && r8gF u u.flows 0 && z76 u
theorem zv6 {u : Un} : ∀ {l : List Fl} {i : Int}, r8gF u l i = true -> ∀ g ∈ l, 0 <= g.params /\ g.params <= g.types.length
  | [], _, _, g, hg => by simp at hg
  | f :: r, i, h, g, hg => by
    simp only [r8gF, Bool.and_eq_true] at h
    rcases List.mem_cons.1 hg with rfl | hg
    · have := h.1
      simp only [gFlw, Bool.and_eq_true, Bool.not_eq_true', decide_eq_false_iff_not] at this
      omega
    · exact zv6 h.2 g hg
theorem z63 {u : Un} (h : z0s u = true) : ∀ g ∈ u.flows, 0 <= g.params /\ g.params <= g.types.length := by
  simp only [z0s, Bool.and_eq_true] at h
  exact zv6 h.1.2
def z33 : Wh := ⟨false, false, [], [], []⟩
def iota (n : Nat) : List Int := (List.range n).map fun (i : Nat) => (i : Int)
def z2h (k n : Nat) : List Bool := List.replicate k true ++ List.replicate (n - k) false
def z2f (u : Un) (f : Fl) : Bool := !decide (f.params < 0) && !decide (f.params > 8) && !decide (f.params > f.types.length) && !decide ((f.types.length : Int) > 20000) && f.types.all (fun t => t == 1 || t == 2) &&
  (z0f u f 1 z33 (iota f.params.toNat) (z2h f.params.toNat f.types.length) f.body).1
theorem y0y (n : Nat) : iota n ++ [(n : Int)] = iota (n + 1) := by simp [iota, List.range_succ]
theorem z7e (n : Nat) : (iota n).length = n := by simp [iota]
theorem z2q {k n : Nat} (h : k <= n) : (z2h k n).length = n := by simp [z2h]; omega
theorem zw9 {k n : Nat} (h : k < n) : (z2h k n).set k true = z2h (k + 1) n := by
  unfold z2h
  rw [List.set_append_right _ _ sI0, List.length_replicate, Nat.sub_self]
  have : n - k = (n - (k + 1)) + 1 := by omega
  rw [this, List.replicate_succ, List.set_cons_zero, List.replicate_succ', List.append_assoc]
  rfl
def z3f (u : Un) : List Fl -> Int -> Int × Int
  | [], _ => (0, 0)
  | f :: r, i => if z2f u f then z3f u r (i + 1) else (80, i)
def z1i (u : Un) : Int × Int := if z0s u then z3f u u.flows 0 else (1, 0)
mutual
theorem ndW_le : ∀ x : Nd, ndW x <= 1 + wtN x
  | .mk k o n s a t p ks => by
    have := kdW_le ks
    simp only [ndW, wtN]
    omega
theorem y14 : ∀ l : List Nd, lsW l <= l.length + wtL l
  | [] => by simp [lsW]
  | x :: r => by
    have h1 := ndW_le x
    have h2 := y14 r
    simp only [lsW, wtL, List.length_cons]
    omega
theorem kdW_le : ∀ l : List (List Nd), kdW l <= wtK l
  | [] => by simp [kdW]
  | x :: r => by
    have h1 := y14 x
    have h2 := kdW_le r
    simp only [kdW, wtK]
    omega
end
theorem y2v : ∀ {l : List Fl} {f : Fl}, f ∈ l -> z1a f.body <= wtF l
  | g :: r, f, h => by
    rcases List.mem_cons.1 h with rfl | h
    · simp only [wtF]; omega
    · have := y2v h; simp only [wtF]; omega
theorem zh9 {u : Un} (h : z0x u <= 536870912) {f : Fl} (hf : f ∈ u.flows) : lsW f.body <= 536870912 := by
  have h1 := y2v hf
  have h2 := y14 f.body
  unfold z0x z1a at *
  omega
theorem y1y (u : Un) (f : Fl) (hg : ∀ g ∈ u.flows, 0 <= g.params /\ g.params <= g.types.length) (hb : lsW f.body <= 536870912) : SC Tryz.prog 33 [.pv u.enc, .pv (.agg f.enc)] [] (fun _ => False) (iBool (z2f u f)) [] := by
  refine SC.of Tryz.func33 rfl (lb rfl) fun F ρ w => ?_
  refine tQ <| tG <| cE rfl (z13 rfl rfl) <| cE rfl (z13 rfl rfl) <| sm 1 rfl <| nL <| tQ <| tQ <| tG <| sm 4 rfl ?_
  refine wS 12 rfl (fun hb12 => ?_) fun hb12 => ?_
  ·refine sm 18 rfl <| nL <| Tr.condT rfl <| tQ <| tG <| sm 1 rfl <| nL <| tRt <| rOk rfl ?_ nPo
   refine congrArg (fun b => iBool b) ?_
   have hno : (!decide (f.params < 0) && !decide (f.params > 8) && !decide (f.params > f.types.length) && !decide ((f.types.length : Int) > 20000)) = false := by
     simp_all
   simp only [z2f, hno, Bool.false_and]
  refine sm 5 rfl ?_
  refine wS 17 rfl (fun hb17 => ?_) fun hb17 => ?_
  ·refine sm 13 rfl <| nL <| Tr.condT rfl <| tQ <| tG <| sm 1 rfl <| nL <| tRt <| rOk rfl ?_ nPo
   refine congrArg (fun b => iBool b) ?_
   have hno : (!decide (f.params < 0) && !decide (f.params > 8) && !decide (f.params > f.types.length) && !decide ((f.types.length : Int) > 20000)) = false := by
     simp_all
   simp only [z2f, hno, Bool.false_and]
  refine sm 4 rfl <| yV rfl rfl (oSm uT35 rfl) <| sm 3 rfl ?_
  refine wS 25 rfl (fun hb25 => ?_) fun hb25 => ?_
  ·refine sm 5 rfl <| nL <| Tr.condT rfl <| tQ <| tG <| sm 1 rfl <| nL <| tRt <| rOk rfl ?_ nPo
   refine congrArg (fun b => iBool b) ?_
   have hno : (!decide (f.params < 0) && !decide (f.params > 8) && !decide (f.params > f.types.length) && !decide ((f.types.length : Int) > 20000)) = false := by
     simp_all
   simp only [z2f, hno, Bool.false_and]
  ·refine sm 2 rfl <| yV rfl rfl (oSm uT35 rfl) <| sm 2 rfl <| nL ?_
   refine tC rfl (fun hc30 => ?_) fun hc30 => ?_
   ·refine tQ <| tG <| sm 1 rfl <| nL <| tRt <| rOk rfl ?_ nPo
    refine congrArg (fun b => iBool b) ?_
    have hno : (!decide (f.params < 0) && !decide (f.params > 8) && !decide (f.params > f.types.length) && !decide ((f.types.length : Int) > 20000)) = false := by
      simp_all
    simp only [z2f, hno, Bool.false_and]
   ·have hpar : 0 <= f.params /\ f.params <= 8 /\ f.params <= f.types.length /\ f.types.length <= 20000 := by
      (simp_all <;> omega)
    refine tSk <| tQ <| tQ <| tG <| sm 1 rfl <| nL <| tBk <| Tr.sub (Sub.of (fr' := [(5, iInt 0), (2, .pv (.ept [arrs u.arrays, flws u.flows] 0)), (3, .pv (.ept [vStr f.name, vInt f.ty, vInt f.params, ints f.types, z07 f.body] 0))]) ⟨rfl, rfl, rfl, trivial⟩) ?_
    refine Tr.loop (fun fr σ m => ∃ (k : Nat), (k <= f.types.length) /\ (f.types.all (fun t => t == 1 || t == 2) = (f.types.drop k).all (fun t => t == 1 || t == 2)) /\ fr = [(5, iInt k), (2, .pv (.ept [arrs u.arrays, flws u.flows] 0)), (3, .pv (.ept [vStr f.name, vInt f.ty, vInt f.params, ints f.types, z07 f.body] 0))] /\ σ = look [] /\ m = f.types.length - k) (n := f.types.length - 0) ?_ ?_
    ·exact ⟨0, Nat.zero_le _, rfl, rfl, rfl, rfl⟩
    rintro fr σ m ⟨k, hI0, hI1, rfl, rfl, rfl⟩
    refine tQ <| tQ <| tG <| sm 3 rfl <| cV rfl (oSm uT35 rfl) <| sm 1 rfl <| nL ?_
    refine tC rfl (fun hc35 => ?_) fun hc35 => ?_
    ·have hlt : k < f.types.length := by simpa using hc35
     have hd := List.drop_eq_getElem_cons hlt
     have hm := List.getElem_mem hlt
     have hi := z0c (f := eInt) (List.getElem?_eq_getElem hlt)
     generalize f.types[k] = x at hd hm hi
     refine tSk <| tQ <| tBk <| tQ <| tG <| sm 3 rfl <| cV rfl (iSq rfl rfl rfl uT35 hi tS3 rfl (by rfl)) <| sm 3 rfl ?_
     refine wS 44 rfl (fun hb44 => ?_) fun hb44 => ?_
     ·refine sm 3 rfl <| yV rfl rfl (iSq rfl rfl rfl uT35 hi tS3 rfl (by rfl)) <| sm 3 rfl <| nL ?_
      refine tC rfl (fun hc51 => ?_) fun hc51 => ?_
      ·refine tQ <| tG <| sm 1 rfl <| nL <| tRt <| rOk rfl ?_ nPo
       have hx : (x == 1 || x == 2) = false := by
         clear hd hm hi hI1
         simp_all
       have hty : f.types.all (fun t => t == 1 || t == 2) = false := by rw [hI1, hd]; simp only [List.all_cons, hx, Bool.false_and]
       simp only [z2f, hty, Bool.and_false, Bool.false_and]
      refine tSk <| tG <| sm 1 rfl <| cV rfl (oB rfl rfl (z05 rfl oM0)) <| sm 1 rfl <| nL ?_
      refine ⟨_, _, ?_, Sub.of (fr' := [(5, iInt (k + 1)), (2, .pv (.ept [arrs u.arrays, flws u.flows] 0)), (3, .pv (.ept [vStr f.name, vInt f.ty, vInt f.params, ints f.types, z07 f.body] 0))]) ⟨rfl, rfl, rfl, trivial⟩, (k + 1), ?_, ?_, rfl, rfl, rfl⟩
      ·omega
      ·omega
      rw [hI1, hd]
      have hx : (x == 1 || x == 2) = true := by
        clear hd hm hi hI1
        simp_all
      simp only [List.all_cons, hx, Bool.true_and]
     refine sm 7 rfl <| nL <| Tr.condF rfl <| tSk <| tG <| sm 1 rfl <| cV rfl (oB rfl rfl (z05 rfl oM0)) <| sm 1 rfl <| nL ?_
     refine ⟨_, _, ?_, Sub.of (fr' := [(5, iInt (k + 1)), (2, .pv (.ept [arrs u.arrays, flws u.flows] 0)), (3, .pv (.ept [vStr f.name, vInt f.ty, vInt f.params, ints f.types, z07 f.body] 0))]) ⟨rfl, rfl, rfl, trivial⟩, (k + 1), ?_, ?_, rfl, rfl, rfl⟩
     ·omega
     ·omega
     rw [hI1, hd]
     have hx : (x == 1 || x == 2) = true := by
       clear hd hm hi hI1
       simp_all
     simp only [List.all_cons, hx, Bool.true_and]
    refine tEx <| tQ ?_
    have hty : f.types.all (fun t => t == 1 || t == 2) = true := by
      rw [hI1, List.drop_eq_nil_of_le (by simpa using hc35)]; rfl
    have hpt : f.params.toNat <= f.types.length := by omega
    have hpi : f.params = (f.params.toNat : Int) := by omega
    refine tDr z15 (fun k => k < 3) <| wR 4 [0, 1, 2, 3, 4] kR0 h30 <| rV rfl rfl (lEA rfl rfl uT25 rfl tS25 (lb rfl)) <| rV rfl rfl (lEA rfl rfl Tryz.underlying51 rfl tS51 (lb rfl)) <| smR 2 rfl <| rV rfl rfl (oSm uT35 rfl) <| nR <| wO 5 kR0 <| wI rfl rfl nf (z10 rfl) (fun _ _ => z0y (k := 4) (s := ⟨4, 1⟩) rfl rfl rfl Tryz.underlying87 tZ4 tC4 rfl dC0 oM0 oM0 rfl rfl rfl rfl) <| wR 2 [6] kR0 h30 <| rV rfl rfl (by exact z84 rfl rfl tZ89 tP89 rfl (z6a (by (simp [zu7, firm1, look, PV.one]; exact ⟨_, _, ⟨rfl, rfl⟩, by simp⟩)))) <| nR ?_
    refine wO 7 kR0 <| wI rfl rfl nf (z10 rfl) (fun _ _ => z4j (k := 3) rfl rfl rfl rfl rfl rfl rfl) <| wR 0 [8] kR0 h30 <| smR 1 rfl <| nR <| wDn kR0 <| tQ <| tG <| sm 1 rfl <| nL <| tQ <| tQ ?_
    refine Tr.grow (t := 7) (k := 107) ⟨3, 1⟩ rfl rfl rfl rfl rfl <| tG <| sm 1 rfl <| nL <| tBk <| Tr.sub (Sub.of (fr' := [(8, iInt 0), (7, .sl 107 (iota 0).length), (6, .ptr 3 0), (2, .pv (.ept [arrs u.arrays, flws u.flows] 0)), (3, .pv (.ept [vStr f.name, vInt f.ty, vInt f.params, ints f.types, z07 f.body] 0))]) ⟨rfl, rfl, rfl, rfl, rfl, trivial⟩) ?_
    refine Tr.heap (σ' := look ((107, some (.row ⟨3, 1⟩ ((iota 0).map eInt))) :: up (ckHp u f 4 (z2h 0 f.types.length)))) (fun k => by
  rw [show (z2h 0 f.types.length) = List.replicate f.types.length false by simp [z2h]]
  simp only [ckHp, up, List.map_cons, List.map_nil, look, List.length_map, List.length_replicate, List.map_replicate, iota, List.range_zero]
  by_cases h3 : 3 = k
  · subst h3; rfl
  · by_cases h4 : 4 = k
    · subst h4; rfl
    · simp [z00 h3, z00 h4]) ?_
    refine Tr.loop (fun fr σ m => ∃ (k : Nat), (k <= f.params.toNat) /\ fr = [(8, iInt k), (7, .sl 107 (iota k).length), (6, .ptr 3 0), (2, .pv (.ept [arrs u.arrays, flws u.flows] 0)), (3, .pv (.ept [vStr f.name, vInt f.ty, vInt f.params, ints f.types, z07 f.body] 0))] /\ σ = look ((107, some (.row ⟨3, 1⟩ ((iota k).map eInt))) :: up (ckHp u f 4 (z2h k f.types.length))) /\ m = f.params.toNat - k) (n := f.params.toNat - 0) ?_ ?_
    ·exact ⟨0, Nat.zero_le _, rfl, rfl, rfl⟩
    rintro fr σ m ⟨k, hJ0, rfl, rfl, rfl⟩
    refine tQ <| tQ <| tG <| sm 4 rfl <| nL ?_
    refine tC rfl (fun hc63 => ?_) fun hc63 => ?_
    ·have hkp : k < f.params.toNat := by simp at hc63; omega
     have hkt : k < f.types.length := by omega
     have hil := z7e k
     have hst : ((z2h k f.types.length).map z9d)[k]? = some [vBool false] := by
       rw [List.getElem?_map]
       simp only [z2h]
       rw [List.getElem?_append_right sI0]
       simp [List.getElem?_replicate, z9d]
       omega
     have hstl : k < ((z2h k f.types.length).map z9d).length := by rw [List.length_map, z2q oM0]; exact hkt
     refine tSk <| tQ <| tBk <| tQ <| tG <| sm 1 rfl <| cV rfl (nCk rfl rfl rfl) <| sm 3 rfl <| cV rfl (iRw rfl rfl rfl rfl rfl Tryz.underlying87 tS4 (by assumption) (by rfl)) <| c0 (z1l rfl rfl rfl rfl rfl (Nat.add_zero _).symm (by assumption) sI0 tS4 rfl ((fun h => h))) <| nL <| tG ?_
     refine sm 2 rfl <| cE rfl (bSl rfl rfl uT35 tZ3 tS3 rfl rfl rfl rfl (fbk rfl) rfl) ?_
     refine cE rfl (aPp rfl rfl rfl rfl (by (simp; done)) ((fun h => h)) uT35 tB3 dC0 (by (simp [z09]; done)) (by (simp [z09, PV.one]; rfl)) (by simp [maxLen, z09]; omega) (by simp [z09]; omega)) ?_
     refine sm 1 rfl <| nL <| tG <| sm 1 rfl <| cV rfl (oB rfl rfl (z05 rfl oM0)) <| sm 1 rfl <| nL ?_
     refine ⟨_, _, ?_, Sub.of (fr' := [(8, iInt (k + 1)), (7, .sl 107 (iota (k + 1)).length), (6, .ptr 3 0), (2, .pv (.ept [arrs u.arrays, flws u.flows] 0)), (3, .pv (.ept [vStr f.name, vInt f.ty, vInt f.params, ints f.types, z07 f.body] 0))]) ⟨rfl, congrArg (fun z => some (IV.sl 107 z)) (by (simp [z7e, z09]; done)), rfl, rfl, rfl, trivial⟩, (k + 1), ?_, rfl, (funext fun j => by
  rw [<- zw9 hkt, <- y0y, List.map_append]
  simp only [ckHp, up, List.map_cons, List.map_nil, look, List.length_map, List.length_set]
  by_cases h7 : 107 = j
  · subst h7; rfl
  · by_cases h4 : 4 = j
    · subst h4; simp [List.map_set, z9d, show Nat.beq 3 4 = false from rfl, show Nat.beq 107 4 = false from rfl]
    · by_cases h3 : 3 = j
      · subst h3; simp [show Nat.beq 4 3 = false from rfl, show Nat.beq 107 3 = false from rfl]
      · simp [z00 h3, z00 h4, z00 h7]), rfl⟩
     all_goals omega
    refine tEx <| tQ ?_
    have hkp : k = f.params.toNat := by simp at hc63; omega
    subst hkp
    have hbl : (iota f.params.toNat).length + lsW f.body <= 1073741824 := by rw [z7e]; omega
    refine tG <| sm 4 rfl <| cV rfl (bPu rfl rfl tZ91 tP91 rfl (fbk rfl) rfl) <| cE rfl (z29 (fun k => k = 107) (y21 u f hg f.body 1 z33 (iota f.params.toNat) (z2h f.params.toNat f.types.length) ⟨by omega, by omega⟩ (z2q hpt) hbl) zl4 rfl rfl (sSm rfl (sSm rfl (sSm rfl (Subs.cons (fun _ _ _ _ h => z42 (q := whv z33) (PSub.agg (ps := [vBool false, vBool false, .val (.slice none 0 0), .val (.slice none 0 0), .val (.slice none 0 0)]) (And.intro (PSub.refl _) (And.intro (PSub.refl _) (And.intro PSub.nil (And.intro PSub.nil (And.intro PSub.nil trivial)))))) h) (sSm rfl Subs.nil))))) (And.intro LendOf.same (And.intro LendOf.same (And.intro (LendOf.row rfl rfl (by (simp; done)) (by rfl)) (And.intro LendOf.same (And.intro LendOf.same (trivial)))))) (fun k h => by subst h; rfl) (po2 rfl rfl) rfl (fun k (h : _) => (show False from h).elim) ⟨_, rfl⟩ (z2d (z2a ..))) <| sm 1 rfl <| nL <| tRt <| rOk rfl ?_ nPo
    have hno : (!decide (f.params < 0) && !decide (f.params > 8) && !decide (f.params > f.types.length) && !decide ((f.types.length : Int) > 20000)) = true := by
      simp
      omega
    simp only [z2f, hno, hty, Bool.true_and]
theorem zo8 (u : Un) : SC Tryz.prog 32 [.pv u.enc] [] (fun _ => False) (iBool (z0s u)) [] := by
  refine SC.of Tryz.func32 rfl (lb rfl) fun F ρ w => ?_
  refine tQ <| tG <| cE rfl (z13 rfl rfl) <| sm 1 rfl <| nL <| tQ <| tQ <| tG <| sm 1 rfl <| nL <| tBk <| Tr.sub (Sub.of (fr' := [(3, iInt 0), (1, .pv (.ept [arrs u.arrays, flws u.flows] 0))]) ⟨rfl, rfl, trivial⟩) ?_
  refine Tr.loop (fun fr σ m => ∃ (k : Nat), (k <= u.arrays.length) /\ (r8gA u u.arrays 0 = r8gA u (u.arrays.drop k) k) /\ fr = [(3, iInt k), (1, .pv (.ept [arrs u.arrays, flws u.flows] 0))] /\ σ = look [] /\ m = u.arrays.length - k) (n := u.arrays.length - 0) ?_ ?_
  ·exact ⟨0, Nat.zero_le _, rfl, rfl, rfl, rfl⟩
  rintro fr σ m ⟨k, hI0, hI1, rfl, rfl, rfl⟩
  refine tQ <| tQ <| tG <| sm 3 rfl ?_
  refine WL.lenOf (t := 10) rfl (fun hl1 => ?_)
  simp only [List.length_map] at hl1
  refine cV rfl (oSm uT22 rfl) <| sm 1 rfl <| nL ?_
  refine tC rfl (fun hc12 => ?_) fun hc12 => ?_
  ·have hlt : k < u.arrays.length := by simpa using hc12
   have hd := List.drop_eq_getElem_cons hlt
   have hm := List.getElem_mem hlt
   have hi := z0c (f := Ar.enc) (List.getElem?_eq_getElem hlt)
   generalize u.arrays[k] = x at hd hm hi
   refine tSk <| tQ <| tBk <| tQ <| tG <| sm 3 rfl <| cV rfl (iSq rfl rfl rfl uT22 hi tS49 rfl (by rfl)) <| cV rfl (lEA rfl rfl Tryz.underlying49 rfl tS49 (lb rfl)) <| cE rfl (aLc (k := 104) rfl tZ49 rfl rfl rfl rfl) <| c0 (sBA rfl rfl rfl rfl rfl ((fun h => h)) tS49 (flk rfl) (lb rfl)) <| nL <| tQ ?_
   refine Tr.freezeBox (t := 4) (k := 104) rfl rfl rfl <| Tr.heap (σ' := look []) (fun k => by simp only [look]; cases Nat.beq 104 k <;> rfl) <| tG <| sm 2 rfl <| cE rfl (ocq (zo7 _) ent47 rfl rfl) <| sm 2 rfl ?_
   refine wS 24 rfl (fun hb24 => ?_) fun hb24 => ?_
   ·refine sm 24 rfl <| nL <| Tr.condT rfl <| tQ <| tG <| sm 1 rfl <| nL <| tRt <| rOk rfl ?_ nPo
    have hx : gArr u x k = false := by
      clear hd hm hi hI1
      simp_all [gArr]
    have hA : r8gA u u.arrays 0 = false := by rw [hI1, hd]; simp only [r8gA, hx, Bool.false_and]
    simp only [z0s, hA, Bool.false_and]
   refine sm 5 rfl ?_
   refine wS 29 rfl (fun hb29 => ?_) fun hb29 => ?_
   ·refine sm 19 rfl <| nL <| Tr.condT rfl <| tQ <| tG <| sm 1 rfl <| nL <| tRt <| rOk rfl ?_ nPo
    have hx : gArr u x k = false := by
      clear hd hm hi hI1
      simp_all [gArr]
    have hA : r8gA u u.arrays 0 = false := by rw [hI1, hd]; simp only [r8gA, hx, Bool.false_and]
    simp only [z0s, hA, Bool.false_and]
   refine sm 5 rfl ?_
   refine wS 34 rfl (fun hb34 => ?_) fun hb34 => ?_
   ·refine sm 14 rfl <| nL <| Tr.condT rfl <| tQ <| tG <| sm 1 rfl <| nL <| tRt <| rOk rfl ?_ nPo
    have hx : gArr u x k = false := by
      clear hd hm hi hI1
      simp_all [gArr]
    have hA : r8gA u u.arrays 0 = false := by rw [hI1, hd]; simp only [r8gA, hx, Bool.false_and]
    simp only [z0s, hA, Bool.false_and]
   refine yV rfl rfl (lEA rfl rfl uT25 rfl tS25 (lb rfl)) <| sm 2 rfl <| WL.yes rfl rfl rfl rfl rfl rfl (z0r (z6z _ _) ent48 rfl rfl (sRf _ _) rfl) <| sm 4 rfl ?_
   refine wS 42 rfl (fun hb42 => ?_) fun hb42 => ?_
   ·refine sm 6 rfl <| nL <| Tr.condT rfl <| tQ <| tG <| sm 1 rfl <| nL <| tRt <| rOk rfl ?_ nPo
    have hx : gArr u x k = false := by
      clear hd hm hi hI1
      simp_all [gArr]
    have hA : r8gA u u.arrays 0 = false := by rw [hI1, hd]; simp only [r8gA, hx, Bool.false_and]
    simp only [z0s, hA, Bool.false_and]
   refine yV rfl rfl (lEA rfl rfl uT25 rfl tS25 (lb rfl)) <| sm 2 rfl <| WL.yes rfl rfl rfl rfl rfl rfl (z0r (z49 _ _) zw7 rfl rfl (sRf _ _) rfl) <| sm 2 rfl <| nL ?_
   refine tC rfl (fun hc48 => ?_) fun hc48 => ?_
   ·refine tQ <| tG <| sm 1 rfl <| nL <| tRt <| rOk rfl ?_ nPo
    have hx : gArr u x k = false := by
      clear hd hm hi hI1
      simp_all [gArr]
    have hA : r8gA u u.arrays 0 = false := by rw [hI1, hd]; simp only [r8gA, hx, Bool.false_and]
    simp only [z0s, hA, Bool.false_and]
   refine tSk <| tG <| sm 1 rfl <| cV rfl (oB rfl rfl (z05 rfl oM0)) <| sm 1 rfl <| nL ?_
   refine ⟨_, _, ?_, Sub.of (fr' := [(3, iInt (k + 1)), (1, .pv (.ept [arrs u.arrays, flws u.flows] 0))]) ⟨rfl, rfl, trivial⟩, (k + 1), ?_, ?_, rfl, rfl, rfl⟩
   ·omega
   ·omega
   rw [hI1, hd]
   have hx : gArr u x k = true := by
     clear hd hm hi hI1
     simp_all [gArr]
   simp only [r8gA, hx, Bool.true_and]
   rfl
  refine tEx <| tQ <| tQ ?_
  have hA : r8gA u u.arrays 0 = true := by
    rw [hI1, List.drop_eq_nil_of_le (by simpa using hc12)]; rfl
  refine tG <| sm 1 rfl <| nL <| tBk <| Tr.sub (Sub.of (fr' := [(5, iInt 0), (1, .pv (.ept [arrs u.arrays, flws u.flows] 0))]) ⟨rfl, rfl, trivial⟩) ?_
  refine Tr.loop (fun fr σ m => ∃ (k : Nat), (k <= u.flows.length) /\ (r8gF u u.flows 0 = r8gF u (u.flows.drop k) k) /\ fr = [(5, iInt k), (1, .pv (.ept [arrs u.arrays, flws u.flows] 0))] /\ σ = look [] /\ m = u.flows.length - k) (n := u.flows.length - 0) ?_ ?_
  ·exact ⟨0, Nat.zero_le _, rfl, rfl, rfl, rfl⟩
  rintro fr σ m ⟨k, hJ0, hJ1, rfl, rfl, rfl⟩
  refine tQ <| tQ <| tG <| sm 3 rfl ?_
  refine WL.lenOf (t := 51) rfl (fun hl2 => ?_)
  simp only [List.length_map] at hl2
  refine cV rfl (oSm uT23 rfl) <| sm 1 rfl <| nL ?_
  refine tC rfl (fun hc53 => ?_) fun hc53 => ?_
  ·have hlt : k < u.flows.length := by simpa using hc53
   have hd := List.drop_eq_getElem_cons hlt
   have hm := List.getElem_mem hlt
   have hi := z0c (f := Fl.enc) (List.getElem?_eq_getElem hlt)
   generalize u.flows[k] = x at hd hm hi
   refine tSk <| tQ <| tBk <| tQ <| tG <| sm 3 rfl <| cV rfl (iSq rfl rfl rfl uT23 hi tS51 rfl (by rfl)) <| cV rfl (lEA rfl rfl Tryz.underlying51 rfl tS51 (lb rfl)) <| cE rfl (aLc (k := 106) rfl tZ51 rfl rfl rfl rfl) <| c0 (sBA rfl rfl rfl rfl rfl ((fun h => h)) tS51 (flk rfl) (lb rfl)) <| nL <| tQ ?_
   refine Tr.freezeBox (t := 6) (k := 106) rfl rfl rfl <| Tr.heap (σ' := look []) (fun k => by simp only [look]; cases Nat.beq 106 k <;> rfl) <| tG <| sm 2 rfl <| cE rfl (ocq (zo7 _) ent47 rfl rfl) <| sm 2 rfl ?_
   refine wS 65 rfl (fun hb65 => ?_) fun hb65 => ?_
   ·refine sm 12 rfl <| nUu rfl rfl rfl rfl rfl rfl <| nUu rfl rfl rfl rfl rfl rfl <| nUu rfl rfl rfl rfl rfl rfl <| sm 15 rfl <| nL <| Tr.condT rfl <| tQ <| tG <| sm 1 rfl <| nL <| tRt <| rOk rfl ?_ nPo
    have hx : gFlw u x k = false := by
      clear hd hm hi hJ1
      simp_all [gFlw]
    have hF : r8gF u u.flows 0 = false := by rw [hJ1, hd]; simp only [r8gF, hx, Bool.false_and]
    simp only [z0s, hF, Bool.false_and, Bool.and_false]
   refine yV rfl rfl (lEA rfl rfl uT25 rfl tS25 (lb rfl)) <| sm 2 rfl <| WL.yes rfl rfl rfl rfl rfl rfl (z0r (z49 _ _) zw7 rfl rfl (sRf _ _) rfl) <| sm 4 rfl ?_
   refine wS 73 rfl (fun hb73 => ?_) fun hb73 => ?_
   ·refine sm 4 rfl <| nUu rfl rfl rfl rfl rfl rfl <| nUu rfl rfl rfl rfl rfl rfl <| nUu rfl rfl rfl rfl rfl rfl <| sm 15 rfl <| nL <| Tr.condT rfl <| tQ <| tG <| sm 1 rfl <| nL <| tRt <| rOk rfl ?_ nPo
    have hx : gFlw u x k = false := by
      clear hd hm hi hJ1
      simp_all [gFlw]
    have hF : r8gF u u.flows 0 = false := by rw [hJ1, hd]; simp only [r8gF, hx, Bool.false_and]
    simp only [z0s, hF, Bool.false_and, Bool.and_false]
   refine sm 4 rfl ?_
   refine wS 77 rfl (fun hb77 => ?_) fun hb77 => ?_
   ·refine sm 6 rfl ?_
    refine wS 83 rfl (fun hb83 => ?_) fun hb83 => ?_
    ·refine sm 12 rfl <| nL <| Tr.condT rfl <| tQ <| tG <| sm 1 rfl <| nL <| tRt <| rOk rfl ?_ nPo
     have hx : gFlw u x k = false := by
       clear hd hm hi hJ1
       simp_all [gFlw]
     have hF : r8gF u u.flows 0 = false := by rw [hJ1, hd]; simp only [r8gF, hx, Bool.false_and]
     simp only [z0s, hF, Bool.false_and, Bool.and_false]
    refine sm 5 rfl ?_
    refine wS 88 rfl (fun hb88 => ?_) fun hb88 => ?_
    ·refine sm 7 rfl <| nL <| Tr.condT rfl <| tQ <| tG <| sm 1 rfl <| nL <| tRt <| rOk rfl ?_ nPo
     have hx : gFlw u x k = false := by
       clear hd hm hi hJ1
       simp_all [gFlw]
     have hF : r8gF u u.flows 0 = false := by rw [hJ1, hd]; simp only [r8gF, hx, Bool.false_and]
     simp only [z0s, hF, Bool.false_and, Bool.and_false]
    refine sm 4 rfl <| yV rfl rfl (oSm uT35 rfl) <| sm 2 rfl <| nL ?_
    refine tC rfl (fun hc95 => ?_) fun hc95 => ?_
    ·refine tQ <| tG <| sm 1 rfl <| nL <| tRt <| rOk rfl ?_ nPo
     have hx : gFlw u x k = false := by
       clear hd hm hi hJ1
       simp_all [gFlw]
     have hF : r8gF u u.flows 0 = false := by rw [hJ1, hd]; simp only [r8gF, hx, Bool.false_and]
     simp only [z0s, hF, Bool.false_and, Bool.and_false]
    refine tSk <| tG <| sm 1 rfl <| cV rfl (oB rfl rfl (z05 rfl oM0)) <| sm 1 rfl <| nL ?_
    refine ⟨_, _, ?_, Sub.of (fr' := [(5, iInt (k + 1)), (1, .pv (.ept [arrs u.arrays, flws u.flows] 0))]) ⟨rfl, rfl, trivial⟩, (k + 1), ?_, ?_, rfl, rfl, rfl⟩
    ·omega
    ·omega
    rw [hJ1, hd]
    have hx : gFlw u x k = true := by
      clear hd hm hi hJ1
      simp_all [gFlw]
    simp only [r8gF, hx, Bool.true_and]
    rfl
   refine sm 11 rfl ?_
   refine wS 88 rfl (fun hb88 => ?_) fun hb88 => ?_
   ·refine sm 7 rfl <| nL <| Tr.condT rfl <| tQ <| tG <| sm 1 rfl <| nL <| tRt <| rOk rfl ?_ nPo
    have hx : gFlw u x k = false := by
      clear hd hm hi hJ1
      simp_all [gFlw]
    have hF : r8gF u u.flows 0 = false := by rw [hJ1, hd]; simp only [r8gF, hx, Bool.false_and]
    simp only [z0s, hF, Bool.false_and, Bool.and_false]
   refine sm 4 rfl <| yV rfl rfl (oSm uT35 rfl) <| sm 2 rfl <| nL ?_
   refine tC rfl (fun hc95 => ?_) fun hc95 => ?_
   ·refine tQ <| tG <| sm 1 rfl <| nL <| tRt <| rOk rfl ?_ nPo
    have hx : gFlw u x k = false := by
      clear hd hm hi hJ1
      simp_all [gFlw]
    have hF : r8gF u u.flows 0 = false := by rw [hJ1, hd]; simp only [r8gF, hx, Bool.false_and]
    simp only [z0s, hF, Bool.false_and, Bool.and_false]
   refine tSk <| tG <| sm 1 rfl <| cV rfl (oB rfl rfl (z05 rfl oM0)) <| sm 1 rfl <| nL ?_
   refine ⟨_, _, ?_, Sub.of (fr' := [(5, iInt (k + 1)), (1, .pv (.ept [arrs u.arrays, flws u.flows] 0))]) ⟨rfl, rfl, trivial⟩, (k + 1), ?_, ?_, rfl, rfl, rfl⟩
   ·omega
   ·omega
   rw [hJ1, hd]
   have hx : gFlw u x k = true := by
     clear hd hm hi hJ1
     simp_all [gFlw]
   simp only [r8gF, hx, Bool.true_and]
   rfl
  refine tEx <| tQ ?_
  have hF : r8gF u u.flows 0 = true := by
    rw [hJ1, List.drop_eq_nil_of_le (by simpa using hc53)]; rfl
  refine tG <| cV rfl (lEA rfl rfl uT25 rfl tS25 (lb rfl)) <| cE rfl (ocq (z49 _ z1g) zw7 rfl rfl) <| sm 1 rfl <| nL <| tQ <| tG <| sm 3 rfl ?_
  refine wS 100 rfl (fun hb100 => ?_) fun hb100 => ?_
  ·have hk0 : z0a z1g u.flows 0 ≥ 0 := by simpa using hb100
   obtain ⟨g, hgk, _⟩ := z5d hk0
   have hgi : (u.flows.map Fl.enc)[(z0a z1g u.flows 0).toNat]? = some g.enc := z0c hgk
   have hgd : u.flows.getD (z0a z1g u.flows 0).toNat zl6 = g := by simp [List.getD, hgk]
   refine sm 3 rfl <| yV rfl rfl (iSq rfl rfl rfl uT23 hgi tS51 rfl oM0) <| sm 5 rfl ?_
   refine wS 109 rfl (fun hb109 => ?_) fun hb109 => ?_
   ·refine sm 3 rfl <| yV rfl rfl (iSq rfl rfl rfl uT23 hgi tS51 rfl oM0) <| sm 5 rfl <| nL <| tRt <| rOk rfl ?_ nPo
    refine congrArg (fun b => iBool b) ?_
    simp only [z0s, hA, hF, z76, Bool.true_and]
    simp_all
   refine sm 9 rfl <| nL <| tRt <| rOk rfl ?_ nPo
   refine congrArg (fun b => iBool b) ?_
   simp only [z0s, hA, hF, z76, Bool.true_and]
   simp_all
  refine sm 18 rfl <| nL <| tRt <| rOk rfl ?_ nPo
  refine congrArg (fun b => iBool b) ?_
  simp only [z0s, hA, hF, z76, Bool.true_and]
  (simp_all; intro h; omega)
theorem z8q (u : Un) (hW : z0x u <= 536870912) : SC Tryz.prog 19 [.pv u.enc] [] (fun _ => False) (.tup [iInt (z1i u).1, iInt (z1i u).2]) [] := by
  refine SC.of Tryz.func19 rfl (lb rfl) fun F ρ w => ?_
  refine tQ <| tG <| cE rfl (z13 rfl rfl) <| sm 2 rfl <| nL <| tQ <| tQ <| tG <| cV rfl (lEA rfl rfl uT25 rfl tS25 (lb rfl)) <| cE rfl (ocq (zo8 u) ent32 rfl rfl) <| sm 1 rfl <| nL ?_
  refine tC rfl (fun hc7 => ?_) fun hc7 => ?_
  ·refine tQ <| tG <| sm 2 rfl <| nL <| tRt <| rOk rfl ?_ nPo
   have hg : z0s u = false := by simpa using hc7
   simp [z1i, hg]
  have hg : z0s u = true := by simpa using hc7
  refine tSk <| tQ <| tQ <| tG <| sm 1 rfl <| nL <| tBk <| Tr.sub (Sub.of (fr' := [(4, iInt 0), (1, .pv (.ept [arrs u.arrays, flws u.flows] 0))]) ⟨rfl, rfl, trivial⟩) ?_
  refine Tr.loop (fun fr σ m => ∃ (k : Nat), (k <= u.flows.length) /\ (z3f u u.flows 0 = z3f u (u.flows.drop k) k) /\ fr = [(4, iInt k), (1, .pv (.ept [arrs u.arrays, flws u.flows] 0))] /\ σ = look [] /\ m = u.flows.length - k) (n := u.flows.length - 0) ?_ ?_
  ·exact ⟨0, Nat.zero_le _, rfl, rfl, rfl, rfl⟩
  rintro fr σ m ⟨k, hI0, hI1, rfl, rfl, rfl⟩
  refine tQ <| tQ <| tG <| sm 3 rfl ?_
  refine WL.lenOf (t := 10) rfl (fun hl1 => ?_)
  simp only [List.length_map] at hl1
  refine cV rfl (oSm uT23 rfl) <| sm 1 rfl <| nL ?_
  refine tC rfl (fun hc12 => ?_) fun hc12 => ?_
  ·have hlt : k < u.flows.length := by simpa using hc12
   have hd := List.drop_eq_getElem_cons hlt
   have hm := List.getElem_mem hlt
   have hi := z0c (f := Fl.enc) (List.getElem?_eq_getElem hlt)
   generalize u.flows[k] = x at hd hm hi
   refine tSk <| tQ <| tBk <| tQ <| tDr z15 (fun k => k ∈ ([] : List Nat)) <| wR 2 [0, 1, 2, 3, 4, 5] kR0 h30 <| rV rfl rfl (lEA rfl rfl uT25 rfl tS25 (lb rfl)) <| smR 3 rfl <| rV rfl rfl (iSq rfl rfl rfl uT23 hi tS51 rfl (by rfl)) <| rV rfl rfl (lEA rfl rfl Tryz.underlying51 rfl tS51 (lb rfl)) <| nR <| wO 6 kR0 ?_
   refine wI rfl rfl nf nw (fun _ _ => ocq (y1y u x (z63 hg) (zh9 hW hm)) ent33 rfl rfl) <| wR 0 [7] kR0 h30 <| smR 1 rfl <| nR <| wDn kR0 ?_
   refine tC rfl (fun hc22 => ?_) fun hc22 => ?_
   ·refine tQ <| tG <| sm 3 rfl <| nL <| tRt <| rOk rfl ?_ nPo
    have hx : z2f u x = false := by simpa using hc22
    simp only [z1i, hg, if_true, hI1, hd, z3f, hx, Bool.false_eq_true, if_false]
   refine tSk <| tG <| sm 1 rfl <| cV rfl (oB rfl rfl (z05 rfl oM0)) <| sm 1 rfl <| nL ?_
   refine ⟨_, _, ?_, Sub.of (fr' := [(4, iInt (k + 1)), (1, .pv (.ept [arrs u.arrays, flws u.flows] 0))]) ⟨rfl, rfl, trivial⟩, (k + 1), ?_, ?_, rfl, rfl, rfl⟩
   ·omega
   ·omega
   rw [hI1, hd]
   have hx : z2f u x = true := by simpa using hc22
   simp only [z3f, hx, if_true]
   rfl
  refine tEx <| tQ <| tG <| sm 2 rfl <| nL <| tRt <| rOk rfl ?_ nPo
  have hge : u.flows.length <= k := by simpa using hc12
  simp only [z1i, hg, if_true, hI1, List.drop_eq_nil_of_le hge, z3f]
section
variable {P : Program} {c : Cx} {R1 : Nat -> Prop} {o : Oper} {fr : Fr} {hp : Hp}
theorem y1c {t : TypeId} {x : Operand} {p : PV} {σ : Heap'} (ho : o.op = .box t x) (hx : fr.ev x = some (.pv p)) (h1 : p.one = true) : Ok P c o fr σ (.pv (.ept [p] 0)) σ := by
  intro ρ w a K Q h hK
  have hr := h.ev hx
  have hone := RepI.one hr (show (IV.pv p).firm σ from h1)
  generalize hv : a.eval x = v at hr hone
  cases hr with
  | pv _ _ hr =>
    have hcells : v.cells = #[v] := by cases v <;> first | rfl | cases hone
    have hrun : (execOp a.eval o).run P w = .ok (.value (.pointer (some ⟨w.heap.size, 0, none⟩))) (w.alloc (.cells #[v] t)) := by
      have hn : (newVar t v).run P w = .ok ⟨w.heap.size, 0, none⟩ (w.alloc (.cells v.cells t)) := rfl
      rw [hcells] at hn
      simp only [execOp, ho, hv, Instr.box, Sem.run_bind, hn, Result.andThen_ok]
      rfl
    unfold Oper.wp
    rw [hrun]
    obtain ⟨h3, keep⟩ := h.push (.cells #[v] t)
    refine hK ρ _ _ h3 (.pv _ _ (.ept [p] 0 w.heap.size 0 (fun _ => v) ⟨h.fresh, by simp⟩ (fun j z hj => ?_) fun j z hj => ?_))
    ·have h0 : j = 0 := by have := (List.getElem?_eq_some_iff.1 hj).1; simp at this; exact this
     subst h0
     rw [z4d (z3d w _)]; rfl
    have h0 : j = 0 := by have := (List.getElem?_eq_some_iff.1 hj).1; simp at this; exact this
    subst h0
    simp only [List.getElem?_cons_zero, Option.some.injEq] at hj
    subst hj
    exact keep _ _ hr
theorem zg6 {t : TypeId} {x : Operand} {k : Nat} {z : IV} (ho : o.op = .box t x) (hx : fr.ev x = some z) (hz : z.firm (look hp)) (hσ : look hp k = none) (hc : c.σ k = none) (hfr : nmFr k fr = false) (hhp : nmHp k hp = false) (hcs : nm k z = false) :
    Ok P c o fr (look hp) (.ptr k 0) (look ((k, some (.box [z])) :: hp)) := by
  intro ρ w a K Q h hK
  have hr := h.ev hx
  have hone := RepI.one hr hz
  generalize hv : a.eval x = v at hr hone
  have hcells : v.cells = #[v] := by cases v <;> first | rfl | cases hone
  have hrun : (execOp a.eval o).run P w = .ok (.value (.pointer (some ⟨w.heap.size, 0, none⟩))) (w.alloc (.cells #[v] t)) := by
    have hn : (newVar t v).run P w = .ok ⟨w.heap.size, 0, none⟩ (w.alloc (.cells v.cells t)) := rfl
    rw [hcells] at hn
    simp only [execOp, ho, hv, Instr.box, Sem.run_bind, hn, Result.andThen_ok]
    rfl
  unfold Oper.wp
  rw [hrun]
  refine hK (z1k ρ k (some (w.heap.size, 1))) _ _ (h.alloc hσ hc hfr hhp 1 _ _ fun keep _ => ?_) (.ptr _ _ _ fun cs' _ => ⟨w.heap.size, 1, z0g, rfl⟩)
  refine .box _ t #[v] (fun _ => v) (z3d w _) rfl (fun j x hj => ?_) fun j x hj => ?_
  ·have h0 : j = 0 := by have := (List.getElem?_eq_some_iff.1 hj).1; simp at this; exact this
   subst h0; rfl
  have h0 : j = 0 := by have := (List.getElem?_eq_some_iff.1 hj).1; simp at this; exact this
  subst h0
  simp only [List.getElem?_cons_zero, Option.some.injEq] at hj
  subst hj
  exact keep _ _ hr hcs
theorem z7x {l r : Hp} {k : Nat} : look (l ++ r) k = if k ∈ l.map (·.1) then look l k else look r k := by
  induction l with
  | nil => simp
  | cons a l ih =>
    obtain ⟨j, q⟩ := a
    simp only [List.cons_append, look, ih]
    by_cases e : j = k
    ·subst e; simp
    have : (k ∈ List.map (fun (x : Nat × Option HO) => x.1) ((j, q) :: l)) ↔ k ∈ List.map (fun (x : Nat × Option HO) => x.1) l := by simp [Ne.symm e]
    simp only [z00 e, cond_false, this]
theorem zm4 {l : Hp} {k : Nat} (h : k ∉ l.map (·.1)) : look l k = none := by
  induction l with
  | nil => rfl
  | cons a l ih =>
    obtain ⟨j, q⟩ := a
    simp only [List.map_cons, List.mem_cons, not_or] at h
    simp only [look, z00 (Ne.symm h.1), cond_false]
    exact ih h.2
theorem z1q {l r : List (Nat × HO)} (h : l.map (·.1) = r.map (·.1)) : look (up l ++ up r) = look (up l) := by
  have hu : ∀ l : List (Nat × HO), (up l).map (·.1) = l.map (·.1) := fun l => by simp [up]
  funext k
  rw [z7x]
  split
  ·rfl
  rename_i hk
  rw [zm4 (by rw [hu, <- h, <- hu]; exact hk), zm4 hk]
theorem z2z {l r : List (Nat × HO)} (h : l.map (·.1) = r.map (·.1)) (k : Nat) (o : HO) (hk : look (up l) k = some o) : look (up l ++ up r) k = some o := by
  rw [z1q h]; exact hk
theorem zn5 {t e : TypeId} {x y : Operand} {k off n s i : Nat} {m : Int} {cs : List IV} {kk : IntKind} (ho : o.op = .indexAddr t x y) (hx : fr.ev x = some (.ptr k off)) (hy : fr.ev y = some (.pv (.val (.int kk m)))) (hk : look hp k = some (.box cs))
    (hu : P.underlying t = some (.array n e)) (hs : (P.info? e).map (·.size) = some s) (hm : m = i) (hi : i < n) : OkV P c R1 o fr (look hp) (.ptr k (off + i * s)) := by
  subst hm
  intro ρ w a h
  obtain ⟨b, cc, e', r, u, hv, hρ, h3, h4, h5, h6⟩ := h.box hx hk
  refine ⟨.pointer (some ⟨b, off + i * s, none⟩), fun w2 _ => ?_, .ptr _ _ _ fun cs' _ => ⟨b, cc, hρ, rfl⟩⟩
  have hs' := z1x hs w2
  have h0 : (0 : Int) <= i /\ (i : Int) < n := by omega
  simp [execOp, ho, hv, z16 h hy, Instr.indexAt, Sem.run_bind, asIntOf, run_underlying hu, Instr.sureAddr, h0, hi, hs', Addr.add]
theorem zn4 {t e : TypeId} {n s : Nat} {parts : Array (Nat × Operand)} {xs : List (Nat × IV)} {z : Value} {out : List IV} {σ : Heap'} (ho : o.op = .build t parts) (hx : z7b fr parts.toList = some xs)
    (hz : ((P.info? t).bind (·.zero)) = some z) (hu : P.underlying t = some (.array n e)) (hs : (P.info? e).map (·.size) = some s) (hf : z7s (fun i => some (i * s, s)) (z58 z) xs = some out) (hfirm : z5a σ xs) : OkV P c R1 o fr σ (.agg out) := by
  intro ρ w a h
  have hzv : ∀ w, (zeroValue t).run P w = .ok z w := fun w => by
    cases hq : P.info? t with
    | none => simp [hq] at hz
    | some i => simp [hq] at hz; simp [zeroValue, typeInfo, hq, hz]
  obtain ⟨hl, hv⟩ := z5j h hx
  obtain ⟨vs, h1, h2⟩ := z9i (zq7 c.F ρ σ w z) hl (fun j i x hj => by
    obtain ⟨v, h3, h4⟩ := hv j i x hj
    exact ⟨v, h3, h4, hfirm _ (List.mem_of_getElem? hj)⟩) hf
  have hparts : (parts.map fun (i, x) => (i, a.eval x)).toList = parts.toList.map fun p => (p.1, a.eval p.2) := by simp
  refine ⟨.agg vs, fun w2 _ => ?_, .agg _ _ (fun j => vs.getD j undef) h2.1 (fun j x hj => ?_) fun j x hj => ?_⟩
  ·have hso := z1x hs w2
   simp only [execOp, ho, Instr.build, Sem.run_bind, hzv, run_underlying hu, hso, Result.andThen_ok, hparts, h1]
   rfl
  ·obtain ⟨v, h3, _⟩ := h2.2 j x hj
   simp [h3, Array.getD_eq_getD_getElem?]
  obtain ⟨v, h3, h4⟩ := h2.2 j x hj
  simp only [Array.getD_eq_getD_getElem?, h3, Option.getD_some]
  exact h4
end
def idxP {α : Type} (p : α -> Bool) : List α -> Int -> Int
  | [], _ => -1
  | x :: r, i => if p x then i else idxP p r (i + 1)
theorem z7v {α : Type} (p : α -> Bool) : ∀ (l : List α) (i : Int), 0 <= i -> decide (idxP p l i ≥ 0) = l.any p
  | [], _, _ => rfl
  | x :: r, i, hi => by
    unfold idxP
    cases hx : p x with
    | true => simp [hx, hi]
    | false => simp [hx, z7v p r (i + 1) oM0]
def eqGo {S : Type} (p : S -> Int -> Int -> Bool × S) : S -> List Int -> List Int -> Bool × S
  | s, x :: a, y :: b => if (p s x y).1 then eqGo p (p s x y).2 a b else (false, (p s x y).2)
  | s, _, _ => (true, s)
def eqf {S : Type} (p : S -> Int -> Int -> Bool × S) (s : S) (a b : List Int) : Bool × S := if (a.length : Int) = b.length then eqGo p s a b else (false, s)
theorem zz5 (fq : FuncId) (ws : List IV) (pre : List (Nat × HO)) (hon : z2k (pre.map (·.1)) pre = true) (hent : z04 Tryz.prog fq) (p : Int -> Bool) (l : List Int) (h : ∀ x ∈ l, SC Tryz.prog fq ((iInt x) :: ws) pre (fun _ => True) (iBool (p x)) pre) : SC Tryz.prog 84 [.pv (ints l), .fn (.func fq) [] ws] pre (fun _ => True) (iInt (idxP p l 0)) pre := by
  refine SC.of Tryz.func84 rfl (lb rfl) fun F ρ w => ?_
  refine Tr.lenOf (t := 0) rfl (fun hl => ?_)
  simp only [List.length_map] at hl
  refine tQ <| tG <| sm 1 rfl <| nL <| tQ <| tQ <| tG <| sm 1 rfl <| cV rfl (oSm uT35 rfl) <| sm 1 rfl <| nL <| tBk ?_
  refine Tr.sub (Sub.of (fr' := [(8, iInt 0), (7, iInt l.length), (0, .pv (ints l)), (1, .fn (.func fq) [] ws)]) ⟨rfl, rfl, rfl, rfl, trivial⟩) ?_
  refine Tr.loop (fun fr σ m => ∃ (k : Nat), (k <= l.length) /\ (idxP p l 0 = idxP p (l.drop k) k) /\ fr = [(8, iInt k), (7, iInt l.length), (0, .pv (ints l)), (1, .fn (.func fq) [] ws)] /\ σ = look (up pre) /\ m = l.length - k) (n := l.length - 0) ?_ ?_
  ·exact ⟨0, Nat.zero_le _, rfl, rfl, rfl, rfl⟩
  rintro fr σ m ⟨k, hI0, hI1, rfl, rfl, rfl⟩
  refine tQ <| tG <| sm 1 rfl <| nL <| tQ ?_
  refine tC rfl (fun hc9 => ?_) fun hc9 => ?_
  ·have hlt : k < l.length := by simpa using hc9
   have hd := List.drop_eq_getElem_cons hlt
   have hm := List.getElem_mem hlt
   have hi := z0c (f := eInt) (List.getElem?_eq_getElem hlt)
   generalize l[k] = x at hd hm hi
   refine tSk <| tQ <| tBk <| tQ <| tG <| sm 2 rfl <| nL <| tQ <| tG <| sm 3 rfl <| cV rfl (iSq rfl rfl rfl uT35 hi tS3 rfl (by rfl)) <| sm 1 rfl ?_
   refine cE rfl (z6u (h x hm) hent rfl rfl rfl (sRf _ _) (fun _ _ h => h) (by rfl) (fun k (h : _) => trivial) rfl (by assumption)) <| nL ?_
   refine tC rfl (fun hc16 => ?_) fun hc16 => ?_
   ·refine tQ <| tG <| sm 2 rfl <| nL <| tRt <| rOk rfl ?_ (fun k o h => z2z rfl k o h)
    have hx : p x = true := by simpa using hc16
    rw [hI1, hd]
    simp only [idxP, hx, if_true]
   refine tSk <| tG <| cV rfl (oB rfl rfl (z05 rfl oM0)) <| sm 1 rfl <| nL ?_
   refine ⟨_, _, ?_, Sub.of (fr' := [(8, iInt (k + 1)), (7, iInt l.length), (0, .pv (ints l)), (1, .fn (.func fq) [] ws)]) ⟨rfl, rfl, rfl, rfl, trivial⟩, (k + 1), ?_, ?_, rfl, (z1q rfl), rfl⟩
   ·omega
   ·omega
   rw [hI1, hd]
   have hx : p x = false := by simpa using hc16
   simp only [idxP, hx, Bool.false_eq_true, if_false]
   rfl
  refine tEx <| tQ <| tG <| sm 1 rfl <| nL <| tRt <| rOk rfl ?_ (fun _ _ h => h)
  have hge : l.length <= k := by simpa using hc9
  rw [hI1, List.drop_eq_nil_of_le hge]
  rfl
theorem zz2 (fq : FuncId) (ws : List IV) (pre : List (Nat × HO)) (hon : z2k (pre.map (·.1)) pre = true) (hent : z04 Tryz.prog fq) (p : Int -> Bool) (l : List Int) (h : ∀ x ∈ l, SC Tryz.prog fq ((iInt x) :: ws) pre (fun _ => True) (iBool (p x)) pre) : SC Tryz.prog 59 [.pv (ints l), .fn (.func fq) [] ws] pre (fun _ => True) (iBool (l.any p)) pre := by
  refine SC.of Tryz.func59 rfl (lb rfl) fun F ρ w => ?_
  refine tQ <| tG <| sm 1 rfl <| nL <| tQ <| tG <| sm 2 rfl <| cE rfl (cRr (zz5 fq ws pre hon hent p l h) ent84 rfl rfl (sRf _ _) (fun _ _ h => h) (by rfl) (fun k (h : _) => .inr trivial) rfl (by assumption)) <| sm 2 rfl <| nL <| tRt <| rOk rfl ?_ (fun k o h => z2z rfl k o h)
  exact congrArg (fun b => iBool b) (z7v p l 0 (Int.le_refl 0))
theorem zs7 (fq : FuncId) (ws : List IV) (pre : List (Nat × HO)) (hon : z2k (pre.map (·.1)) pre = true) (hent : z04 Tryz.prog fq) (p : Nd -> Bool) (l : List Nd) (h : ∀ x ∈ l, SC Tryz.prog fq ((.pv (ndv x)) :: ws) pre (fun _ => True) (iBool (p x)) pre) : SC Tryz.prog 130 [.pv (z07 l), .fn (.func fq) [] ws] pre (fun _ => True) (iInt (idxP p l 0)) pre := by
  refine SC.of Tryz.func130 rfl (lb rfl) fun F ρ w => ?_
  refine Tr.lenOf (t := 0) rfl (fun hl => ?_)
  simp only [List.length_map] at hl
  refine tQ <| tG <| sm 1 rfl <| nL <| tQ <| tQ <| tG <| sm 1 rfl <| cV rfl (oSm uT44 rfl) <| sm 1 rfl <| nL <| tBk ?_
  refine Tr.sub (Sub.of (fr' := [(8, iInt 0), (7, iInt l.length), (0, .pv (z07 l)), (1, .fn (.func fq) [] ws)]) ⟨rfl, rfl, rfl, rfl, trivial⟩) ?_
  refine Tr.loop (fun fr σ m => ∃ (k : Nat), (k <= l.length) /\ (idxP p l 0 = idxP p (l.drop k) k) /\ fr = [(8, iInt k), (7, iInt l.length), (0, .pv (z07 l)), (1, .fn (.func fq) [] ws)] /\ σ = look (up pre) /\ m = l.length - k) (n := l.length - 0) ?_ ?_
  ·exact ⟨0, Nat.zero_le _, rfl, rfl, rfl, rfl⟩
  rintro fr σ m ⟨k, hI0, hI1, rfl, rfl, rfl⟩
  refine tQ <| tG <| sm 1 rfl <| nL <| tQ ?_
  refine tC rfl (fun hc9 => ?_) fun hc9 => ?_
  ·have hlt : k < l.length := by simpa using hc9
   have hd := List.drop_eq_getElem_cons hlt
   have hm := List.getElem_mem hlt
   have hi := z20 (List.getElem?_eq_getElem hlt)
   generalize l[k] = x at hd hm hi
   refine tSk <| tQ <| tBk <| tQ <| tG <| sm 2 rfl <| nL <| tQ <| tG <| sm 3 rfl <| cV rfl (iSq rfl rfl rfl uT44 hi tS43 rfl (by rfl)) <| cV rfl (lEA rfl rfl uT43 rfl tS43 (lb rfl)) ?_
   refine cE rfl (z6u (h x hm) hent rfl rfl rfl (sRf _ _) (fun _ _ h => h) (by rfl) (fun k (h : _) => trivial) rfl (by assumption)) <| nL ?_
   refine tC rfl (fun hc16 => ?_) fun hc16 => ?_
   ·refine tQ <| tG <| sm 2 rfl <| nL <| tRt <| rOk rfl ?_ (fun k o h => z2z rfl k o h)
    have hx : p x = true := by simpa using hc16
    rw [hI1, hd]
    simp only [idxP, hx, if_true]
   refine tSk <| tG <| cV rfl (oB rfl rfl (z05 rfl oM0)) <| sm 1 rfl <| nL ?_
   refine ⟨_, _, ?_, Sub.of (fr' := [(8, iInt (k + 1)), (7, iInt l.length), (0, .pv (z07 l)), (1, .fn (.func fq) [] ws)]) ⟨rfl, rfl, rfl, rfl, trivial⟩, (k + 1), ?_, ?_, rfl, (z1q rfl), rfl⟩
   ·omega
   ·omega
   rw [hI1, hd]
   have hx : p x = false := by simpa using hc16
   simp only [idxP, hx, Bool.false_eq_true, if_false]
   rfl
  refine tEx <| tQ <| tG <| sm 1 rfl <| nL <| tRt <| rOk rfl ?_ (fun _ _ h => h)
  have hge : l.length <= k := by simpa using hc9
  rw [hI1, List.drop_eq_nil_of_le hge]
  rfl
theorem zs5 (fq : FuncId) (ws : List IV) (pre : List (Nat × HO)) (hon : z2k (pre.map (·.1)) pre = true) (hent : z04 Tryz.prog fq) (p : Nd -> Bool) (l : List Nd) (h : ∀ x ∈ l, SC Tryz.prog fq ((.pv (ndv x)) :: ws) pre (fun _ => True) (iBool (p x)) pre) : SC Tryz.prog 119 [.pv (z07 l), .fn (.func fq) [] ws] pre (fun _ => True) (iBool (l.any p)) pre := by
  refine SC.of Tryz.func119 rfl (lb rfl) fun F ρ w => ?_
  refine tQ <| tG <| sm 1 rfl <| nL <| tQ <| tG <| sm 2 rfl <| cE rfl (cRr (zs7 fq ws pre hon hent p l h) ent130 rfl rfl (sRf _ _) (fun _ _ h => h) (by rfl) (fun k (h : _) => .inr trivial) rfl (by assumption)) <| sm 2 rfl <| nL <| tRt <| rOk rfl ?_ (fun k o h => z2z rfl k o h)
  exact congrArg (fun b => iBool b) (z7v p l 0 (Int.le_refl 0))
theorem zz6 (fq : FuncId) (ws : List IV) (pre : List (Nat × HO)) (hon : z2k (pre.map (·.1)) pre = true) (hent : z04 Tryz.prog fq) (p : (List Nd) -> Bool) (l : List (List Nd)) (h : ∀ x ∈ l, SC Tryz.prog fq ((.pv (z07 x)) :: ws) pre (fun _ => True) (iBool (p x)) pre) : SC Tryz.prog 131 [.pv (kids l), .fn (.func fq) [] ws] pre (fun _ => True) (iInt (idxP p l 0)) pre := by
  refine SC.of Tryz.func131 rfl (lb rfl) fun F ρ w => ?_
  refine Tr.lenOf (t := 0) rfl (fun hl => ?_)
  simp only [List.length_map] at hl
  refine tQ <| tG <| sm 1 rfl <| nL <| tQ <| tQ <| tG <| sm 1 rfl <| cV rfl (oSm uT41 rfl) <| sm 1 rfl <| nL <| tBk ?_
  refine Tr.sub (Sub.of (fr' := [(8, iInt 0), (7, iInt l.length), (0, .pv (kids l)), (1, .fn (.func fq) [] ws)]) ⟨rfl, rfl, rfl, rfl, trivial⟩) ?_
  refine Tr.loop (fun fr σ m => ∃ (k : Nat), (k <= l.length) /\ (idxP p l 0 = idxP p (l.drop k) k) /\ fr = [(8, iInt k), (7, iInt l.length), (0, .pv (kids l)), (1, .fn (.func fq) [] ws)] /\ σ = look (up pre) /\ m = l.length - k) (n := l.length - 0) ?_ ?_
  ·exact ⟨0, Nat.zero_le _, rfl, rfl, rfl, rfl⟩
  rintro fr σ m ⟨k, hI0, hI1, rfl, rfl, rfl⟩
  refine tQ <| tG <| sm 1 rfl <| nL <| tQ ?_
  refine tC rfl (fun hc9 => ?_) fun hc9 => ?_
  ·have hlt : k < l.length := by simpa using hc9
   have hd := List.drop_eq_getElem_cons hlt
   have hm := List.getElem_mem hlt
   have hi := z0c (f := eKid) (List.getElem?_eq_getElem hlt)
   generalize l[k] = x at hd hm hi
   refine tSk <| tQ <| tBk <| tQ <| tG <| sm 2 rfl <| nL <| tQ <| tG <| sm 3 rfl <| cV rfl (iSq rfl rfl rfl uT41 hi tS44 rfl (by rfl)) <| sm 1 rfl ?_
   refine cE rfl (z6u (h x hm) hent rfl rfl rfl (sRf _ _) (fun _ _ h => h) (by rfl) (fun k (h : _) => trivial) rfl (by assumption)) <| nL ?_
   refine tC rfl (fun hc16 => ?_) fun hc16 => ?_
   ·refine tQ <| tG <| sm 2 rfl <| nL <| tRt <| rOk rfl ?_ (fun k o h => z2z rfl k o h)
    have hx : p x = true := by simpa using hc16
    rw [hI1, hd]
    simp only [idxP, hx, if_true]
   refine tSk <| tG <| cV rfl (oB rfl rfl (z05 rfl oM0)) <| sm 1 rfl <| nL ?_
   refine ⟨_, _, ?_, Sub.of (fr' := [(8, iInt (k + 1)), (7, iInt l.length), (0, .pv (kids l)), (1, .fn (.func fq) [] ws)]) ⟨rfl, rfl, rfl, rfl, trivial⟩, (k + 1), ?_, ?_, rfl, (z1q rfl), rfl⟩
   ·omega
   ·omega
   rw [hI1, hd]
   have hx : p x = false := by simpa using hc16
   simp only [idxP, hx, Bool.false_eq_true, if_false]
   rfl
  refine tEx <| tQ <| tG <| sm 1 rfl <| nL <| tRt <| rOk rfl ?_ (fun _ _ h => h)
  have hge : l.length <= k := by simpa using hc9
  rw [hI1, List.drop_eq_nil_of_le hge]
  rfl
theorem zz3 (fq : FuncId) (ws : List IV) (pre : List (Nat × HO)) (hon : z2k (pre.map (·.1)) pre = true) (hent : z04 Tryz.prog fq) (p : (List Nd) -> Bool) (l : List (List Nd)) (h : ∀ x ∈ l, SC Tryz.prog fq ((.pv (z07 x)) :: ws) pre (fun _ => True) (iBool (p x)) pre) : SC Tryz.prog 121 [.pv (kids l), .fn (.func fq) [] ws] pre (fun _ => True) (iBool (l.any p)) pre := by
  refine SC.of Tryz.func121 rfl (lb rfl) fun F ρ w => ?_
  refine tQ <| tG <| sm 1 rfl <| nL <| tQ <| tG <| sm 2 rfl <| cE rfl (cRr (zz6 fq ws pre hon hent p l h) ent131 rfl rfl (sRf _ _) (fun _ _ h => h) (by rfl) (fun k (h : _) => .inr trivial) rfl (by assumption)) <| sm 2 rfl <| nL <| tRt <| rOk rfl ?_ (fun k o h => z2z rfl k o h)
  exact congrArg (fun b => iBool b) (z7v p l 0 (Int.le_refl 0))
theorem zz4 (fq : FuncId) (ws : List IV) (pre : List (Nat × HO)) (hon : z2k (pre.map (·.1)) pre = true) (hent : z04 Tryz.prog fq) (p : Ar -> Bool) (l : List Ar) (h : ∀ x ∈ l, SC Tryz.prog fq ((.pv (.agg x.enc)) :: ws) pre (fun _ => True) (iBool (p x)) pre) : SC Tryz.prog 133 [.pv (arrs l), .fn (.func fq) [] ws] pre (fun _ => True) (iInt (idxP p l 0)) pre := by
  refine SC.of Tryz.func133 rfl (lb rfl) fun F ρ w => ?_
  refine Tr.lenOf (t := 0) rfl (fun hl => ?_)
  simp only [List.length_map] at hl
  refine tQ <| tG <| sm 1 rfl <| nL <| tQ <| tQ <| tG <| sm 1 rfl <| cV rfl (oSm uT22 rfl) <| sm 1 rfl <| nL <| tBk ?_
  refine Tr.sub (Sub.of (fr' := [(8, iInt 0), (7, iInt l.length), (0, .pv (arrs l)), (1, .fn (.func fq) [] ws)]) ⟨rfl, rfl, rfl, rfl, trivial⟩) ?_
  refine Tr.loop (fun fr σ m => ∃ (k : Nat), (k <= l.length) /\ (idxP p l 0 = idxP p (l.drop k) k) /\ fr = [(8, iInt k), (7, iInt l.length), (0, .pv (arrs l)), (1, .fn (.func fq) [] ws)] /\ σ = look (up pre) /\ m = l.length - k) (n := l.length - 0) ?_ ?_
  ·exact ⟨0, Nat.zero_le _, rfl, rfl, rfl, rfl⟩
  rintro fr σ m ⟨k, hI0, hI1, rfl, rfl, rfl⟩
  refine tQ <| tG <| sm 1 rfl <| nL <| tQ ?_
  refine tC rfl (fun hc9 => ?_) fun hc9 => ?_
  ·have hlt : k < l.length := by simpa using hc9
   have hd := List.drop_eq_getElem_cons hlt
   have hm := List.getElem_mem hlt
   have hi := z0c (f := Ar.enc) (List.getElem?_eq_getElem hlt)
   generalize l[k] = x at hd hm hi
   refine tSk <| tQ <| tBk <| tQ <| tG <| sm 2 rfl <| nL <| tQ <| tG <| sm 3 rfl <| cV rfl (iSq rfl rfl rfl uT22 hi tS49 rfl (by rfl)) <| cV rfl (lEA rfl rfl Tryz.underlying49 rfl tS49 (lb rfl)) ?_
   refine cE rfl (z6u (h x hm) hent rfl rfl rfl (sRf _ _) (fun _ _ h => h) (by rfl) (fun k (h : _) => trivial) rfl (by assumption)) <| nL ?_
   refine tC rfl (fun hc16 => ?_) fun hc16 => ?_
   ·refine tQ <| tG <| sm 2 rfl <| nL <| tRt <| rOk rfl ?_ (fun k o h => z2z rfl k o h)
    have hx : p x = true := by simpa using hc16
    rw [hI1, hd]
    simp only [idxP, hx, if_true]
   refine tSk <| tG <| cV rfl (oB rfl rfl (z05 rfl oM0)) <| sm 1 rfl <| nL ?_
   refine ⟨_, _, ?_, Sub.of (fr' := [(8, iInt (k + 1)), (7, iInt l.length), (0, .pv (arrs l)), (1, .fn (.func fq) [] ws)]) ⟨rfl, rfl, rfl, rfl, trivial⟩, (k + 1), ?_, ?_, rfl, (z1q rfl), rfl⟩
   ·omega
   ·omega
   rw [hI1, hd]
   have hx : p x = false := by simpa using hc16
   simp only [idxP, hx, Bool.false_eq_true, if_false]
   rfl
  refine tEx <| tQ <| tG <| sm 1 rfl <| nL <| tRt <| rOk rfl ?_ (fun _ _ h => h)
  have hge : l.length <= k := by simpa using hc9
  rw [hI1, List.drop_eq_nil_of_le hge]
  rfl
theorem zz1 (fq : FuncId) (ws : List IV) (pre : List (Nat × HO)) (hon : z2k (pre.map (·.1)) pre = true) (hent : z04 Tryz.prog fq) (p : Ar -> Bool) (l : List Ar) (h : ∀ x ∈ l, SC Tryz.prog fq ((.pv (.agg x.enc)) :: ws) pre (fun _ => True) (iBool (p x)) pre) : SC Tryz.prog 128 [.pv (arrs l), .fn (.func fq) [] ws] pre (fun _ => True) (iBool (l.any p)) pre := by
  refine SC.of Tryz.func128 rfl (lb rfl) fun F ρ w => ?_
  refine tQ <| tG <| sm 1 rfl <| nL <| tQ <| tG <| sm 2 rfl <| cE rfl (cRr (zz4 fq ws pre hon hent p l h) ent133 rfl rfl (sRf _ _) (fun _ _ h => h) (by rfl) (fun k (h : _) => .inr trivial) rfl (by assumption)) <| sm 2 rfl <| nL <| tRt <| rOk rfl ?_ (fun k o h => z2z rfl k o h)
  exact congrArg (fun b => iBool b) (z7v p l 0 (Int.le_refl 0))
theorem zs6 (fq : FuncId) (ws : List IV) (pre : List (Nat × HO)) (hon : z2k (pre.map (·.1)) pre = true) (hent : z04 Tryz.prog fq) (p : Fl -> Bool) (l : List Fl) (h : ∀ x ∈ l, SC Tryz.prog fq ((.pv (.agg x.enc)) :: ws) pre (fun _ => True) (iBool (p x)) pre) : SC Tryz.prog 82 [.pv (flws l), .fn (.func fq) [] ws] pre (fun _ => True) (iInt (idxP p l 0)) pre := by
  refine SC.of Tryz.func82 rfl (lb rfl) fun F ρ w => ?_
  refine Tr.lenOf (t := 0) rfl (fun hl => ?_)
  simp only [List.length_map] at hl
  refine tQ <| tG <| sm 1 rfl <| nL <| tQ <| tQ <| tG <| sm 1 rfl <| cV rfl (oSm uT23 rfl) <| sm 1 rfl <| nL <| tBk ?_
  refine Tr.sub (Sub.of (fr' := [(8, iInt 0), (7, iInt l.length), (0, .pv (flws l)), (1, .fn (.func fq) [] ws)]) ⟨rfl, rfl, rfl, rfl, trivial⟩) ?_
  refine Tr.loop (fun fr σ m => ∃ (k : Nat), (k <= l.length) /\ (idxP p l 0 = idxP p (l.drop k) k) /\ fr = [(8, iInt k), (7, iInt l.length), (0, .pv (flws l)), (1, .fn (.func fq) [] ws)] /\ σ = look (up pre) /\ m = l.length - k) (n := l.length - 0) ?_ ?_
  ·exact ⟨0, Nat.zero_le _, rfl, rfl, rfl, rfl⟩
  rintro fr σ m ⟨k, hI0, hI1, rfl, rfl, rfl⟩
  refine tQ <| tG <| sm 1 rfl <| nL <| tQ ?_
  refine tC rfl (fun hc9 => ?_) fun hc9 => ?_
  ·have hlt : k < l.length := by simpa using hc9
   have hd := List.drop_eq_getElem_cons hlt
   have hm := List.getElem_mem hlt
   have hi := z0c (f := Fl.enc) (List.getElem?_eq_getElem hlt)
   generalize l[k] = x at hd hm hi
   refine tSk <| tQ <| tBk <| tQ <| tG <| sm 2 rfl <| nL <| tQ <| tG <| sm 3 rfl <| cV rfl (iSq rfl rfl rfl uT23 hi tS51 rfl (by rfl)) <| cV rfl (lEA rfl rfl Tryz.underlying51 rfl tS51 (lb rfl)) ?_
   refine cE rfl (z6u (h x hm) hent rfl rfl rfl (sRf _ _) (fun _ _ h => h) (by rfl) (fun k (h : _) => trivial) rfl (by assumption)) <| nL ?_
   refine tC rfl (fun hc16 => ?_) fun hc16 => ?_
   ·refine tQ <| tG <| sm 2 rfl <| nL <| tRt <| rOk rfl ?_ (fun k o h => z2z rfl k o h)
    have hx : p x = true := by simpa using hc16
    rw [hI1, hd]
    simp only [idxP, hx, if_true]
   refine tSk <| tG <| cV rfl (oB rfl rfl (z05 rfl oM0)) <| sm 1 rfl <| nL ?_
   refine ⟨_, _, ?_, Sub.of (fr' := [(8, iInt (k + 1)), (7, iInt l.length), (0, .pv (flws l)), (1, .fn (.func fq) [] ws)]) ⟨rfl, rfl, rfl, rfl, trivial⟩, (k + 1), ?_, ?_, rfl, (z1q rfl), rfl⟩
   ·omega
   ·omega
   rw [hI1, hd]
   have hx : p x = false := by simpa using hc16
   simp only [idxP, hx, Bool.false_eq_true, if_false]
   rfl
  refine tEx <| tQ <| tG <| sm 1 rfl <| nL <| tRt <| rOk rfl ?_ (fun _ _ h => h)
  have hge : l.length <= k := by simpa using hc9
  rw [hI1, List.drop_eq_nil_of_le hge]
  rfl
theorem sc_eqf (fq : FuncId) (ws : List IV) (S : Type) (H : S -> List (Nat × HO)) (ks : List Nat) (hks : ∀ s, (H s).map (·.1) = ks) (hon : ∀ s, z2k ((H s).map (·.1)) (H s) = true) (hent : z04 Tryz.prog fq) (p : S -> Int -> Int -> Bool × S) (R : Nat -> Prop) (G : S -> Prop) (hG : ∀ s x y, G s -> G (p s x y).2) (h : ∀ s x y, G s -> SC Tryz.prog fq (iInt x :: iInt y :: ws) (H s) R (iBool (p s x y).1) (H (p s x y).2)) (s : S) (hs : G s) (a b : List Int) : SC Tryz.prog 123 [.pv (ints a), .pv (ints b), .fn (.func fq) [] ws] (H s) (R) (iBool (eqf p s a b).1) (H (eqf p s a b).2) := by
  refine SC.of Tryz.func123 rfl (lb rfl) fun F ρ w => ?_
  refine Tr.lenOf (t := 0) rfl (fun hl => ?_)
  simp only [List.length_map] at hl
  refine Tr.lenOf (t := 1) rfl (fun hl2 => ?_)
  simp only [List.length_map] at hl2
  refine tQ <| tG <| sm 1 rfl <| nL <| tQ <| tQ <| tG <| sm 1 rfl <| cV rfl (oSm uT35 rfl) <| sm 1 rfl <| cV rfl (oSm uT35 rfl) <| sm 1 rfl ?_
  refine nL ?_
  refine tC rfl (fun hc14 => ?_) fun hc14 => ?_
  ·refine tQ <| tG <| sm 1 rfl <| nL <| tRt ?_
   have hne : ¬ (a.length : Int) = b.length := by simpa using hc14
   have he : eqf p s a b = (false, s) := by simp only [eqf, hne, if_false]
   rw [he]
   exact rOk rfl rfl (fun _ _ h => h)
  have hlen : a.length = b.length := by simp at hc14; omega
  have hlz : (a.length : Int) = b.length := by omega
  refine tSk <| tQ <| tQ <| tG <| sm 1 rfl <| cV rfl (oSm uT35 rfl) <| sm 1 rfl <| nL <| tBk <| Tr.sub (Sub.of (fr' := [(17, iInt 0), (16, iInt a.length), (15, .pv (ints a)), (0, .pv (ints a)), (1, .pv (ints b)), (2, .fn (.func fq) [] ws)]) ⟨rfl, rfl, rfl, rfl, rfl, rfl, trivial⟩) ?_
  refine Tr.loop (fun fr σ m => ∃ (k : Nat) (st : S), (k <= a.length) /\ (eqGo p s a b = eqGo p st (a.drop k) (b.drop k)) /\ (G st) /\ fr = [(17, iInt k), (16, iInt a.length), (15, .pv (ints a)), (0, .pv (ints a)), (1, .pv (ints b)), (2, .fn (.func fq) [] ws)] /\ σ = look (up (H st)) /\ m = a.length - k) (n := a.length - 0) ?_ ?_
  ·exact ⟨0, s, Nat.zero_le _, rfl, hs, rfl, rfl, rfl⟩
  rintro fr σ m ⟨k, st, hI0, hI1, hI2, rfl, rfl, rfl⟩
  refine tQ <| tG <| sm 1 rfl <| nL <| tQ ?_
  refine tC rfl (fun hc18 => ?_) fun hc18 => ?_
  ·have hlt : k < a.length := by simpa using hc18
   have hd := List.drop_eq_getElem_cons hlt
   have hm := List.getElem_mem hlt
   have hi := z0c (f := eInt) (List.getElem?_eq_getElem hlt)
   generalize a[k] = x at hd hm hi
   have hltw : k < b.length := by omega
   have hdw := List.drop_eq_getElem_cons hltw
   have hw := z0c (f := eInt) (List.getElem?_eq_getElem hltw)
   generalize b[k] = y at hdw hw
   have hdom := (hks st).trans (hks (p st x y).2).symm
   have hon2 := hon (p st x y).2
   refine tSk <| tQ <| tBk <| tQ <| tG <| sm 1 rfl <| cV rfl (iSq rfl rfl rfl uT35 hi tS3 rfl (by rfl)) <| sm 3 rfl <| nL <| tQ <| tG <| sm 2 rfl ?_
   refine cV rfl (iSq rfl rfl rfl uT35 hw tS3 rfl (by rfl)) <| sm 2 rfl <| nL <| tQ <| tG <| sm 3 rfl <| cE rfl (z6u (h st x y hI2) hent rfl rfl rfl (sRf _ _) (fun _ _ h => h) (by assumption) (fun k (h : _) => h) rfl (by assumption)) <| sm 1 rfl <| nL ?_
   refine tC rfl (fun hc30 => ?_) fun hc30 => ?_
   ·refine tQ <| tG <| sm 1 rfl <| nL <| tRt ?_
    have hx : (p st x y).1 = false := by simpa using hc30
    have he : eqf p s a b = (false, (p st x y).2) := by simp only [eqf, hlz, if_true, hI1, hd, hdw, eqGo, hx, Bool.false_eq_true, if_false]
    rw [he]
    exact rOk rfl rfl (fun k o h => z2z ((hks _).trans (hks _).symm) k o h)
   refine tSk <| tG <| cV rfl (oB rfl rfl (z05 rfl oM0)) <| sm 1 rfl <| nL ?_
   refine ⟨_, _, ?_, Sub.of (fr' := [(17, iInt (k + 1)), (16, iInt a.length), (15, .pv (ints a)), (0, .pv (ints a)), (1, .pv (ints b)), (2, .fn (.func fq) [] ws)]) ⟨rfl, rfl, rfl, rfl, rfl, rfl, trivial⟩, (k + 1), (p st x y).2, ?_, ?_, ?_, rfl, (z1q ((hks _).trans (hks _).symm)), rfl⟩
   ·omega
   ·omega
   ·rw [hI1, hd, hdw]
    have hx : (p st x y).1 = true := by simpa using hc30
    simp only [eqGo, hx, if_true]
   exact hG _ _ _ hI2
  refine tEx <| tQ <| tG <| sm 1 rfl <| nL <| tRt ?_
  have hge : a.length <= k := by simpa using hc18
  have he : eqf p s a b = (true, st) := by simp only [eqf, hlz, if_true, hI1, List.drop_eq_nil_of_le hge, eqGo]
  rw [he]
  exact rOk rfl rfl (fun _ _ h => h)
theorem z99 : ∀ l : List Nd, z11 l = l.any z3e
  | [] => rfl
  | x :: r => by simp [z11, z99 r]
theorem z43 : ∀ l : List (List Nd), z21 l = l.any z11
  | [] => rfl
  | x :: r => by simp [z21, z43 r]
def z9s (l : List Nd) : Bool := match l.getLast? with
  | some x => x.kind == 12
  | none => false
theorem z2p (l : List Nd) : (z6f l != 12) = !z9s l := by
  unfold z6f z9s
  cases l.getLast? with
  | none => rfl
  | some x =>
    simp only [z1d]
    by_cases h : x.kind = 12
    ·simp [h]
    have hb : (x.kind == 12) = false := by simpa using h
    by_cases h2 : (decide (x.kind ≥ 12) && decide (x.kind <= 15)) = true
    ·simp only [h2, if_true, bne, hb]
    simp [h2, h]
theorem zg1 (name : ByteArray) : ∀ (l : List Fl) (i : Int), idxP (fun f : Fl => f.name.toList == name.toList) l i = z0a name l i
  | [], _ => rfl
  | f :: r, i => by
    unfold idxP z0a eqS
    rw [zg1 name r]
theorem zb8 (name : ByteArray) : ∀ (l : List Ar) (i : Int), 0 <= i -> decide (z1h name l i ≥ 0) = l.any (fun a : Ar => a.name.toList == name.toList)
  | [], _, _ => rfl
  | f :: r, i, hi => by
    have ih := zb8 name r (i + 1) oM0
    rw [List.any_cons, <- ih]
    rw [show z1h name (f :: r) i = if (f.name.toList == name.toList) = true then i else z1h name r (i + 1) from rfl]
    by_cases h : (f.name.toList == name.toList) = true
    ·rw [if_pos h, h]; simp [hi]
    rw [if_neg h, (by simpa using h : (f.name.toList == name.toList) = false)]; simp
def isTy (t : Int) : Bool := t == 1 || t == 2
def z06 (op : Int) : Int × Int :=
  if op == 22 then (2, 2) else if op == 16 || op == 17 then (0, 2) else if decide (op ≥ 12) && decide (op <= 15) then (1, 2) else (1, 1)
def wSigns : List ByteArray := [⟨#[]⟩, ⟨#[43]⟩, ⟨#[45]⟩, ⟨#[42]⟩, ⟨#[47]⟩, ⟨#[37]⟩, ⟨#[38]⟩, ⟨#[124]⟩, ⟨#[94]⟩, ⟨#[60, 60]⟩, ⟨#[62, 62]⟩, ⟨#[62, 62, 62]⟩, ⟨#[60]⟩, ⟨#[60, 61]⟩, ⟨#[62]⟩, ⟨#[62, 61]⟩, ⟨#[61, 61]⟩, ⟨#[33, 61]⟩, ⟨#[38, 38]⟩, ⟨#[124, 124]⟩, ⟨#[45]⟩, ⟨#[126]⟩, ⟨#[33]⟩, ⟨#[105, 56]⟩, ⟨#[105, 49, 54]⟩, ⟨#[105, 51, 50]⟩, ⟨#[117, 56]⟩, ⟨#[117, 49, 54]⟩, ⟨#[117, 51, 50]⟩]
def wSign (op : Int) : ByteArray := if op < 0 || op ≥ 29 then ⟨#[]⟩ else wSigns.getD op.toNat ⟨#[]⟩
def levelTab : List Int := [0, 9, 9, 10, 10, 10, 5, 3, 4, 8, 8, 8, 7, 7, 7, 7, 6, 6, 2, 1, 0, 0, 0, 0, 0, 0, 0, 0, 0]
def z79 (op : Int) : Int := if op < 0 || op ≥ 29 then 0 else levelTab.getD op.toNat 0
theorem y0f {op : Int} (h0 : 0 <= op) (h1 : op < 29) : op = 0 ∨ op = 1 ∨ op = 2 ∨ op = 3 ∨ op = 4 ∨ op = 5 ∨ op = 6 ∨ op = 7 ∨ op = 8 ∨ op = 9 ∨ op = 10 ∨ op = 11 ∨ op = 12 ∨ op = 13 ∨ op = 14 ∨ op = 15 ∨ op = 16 ∨ op = 17 ∨ op = 18 ∨ op = 19 ∨ op = 20 ∨ op = 21 ∨ op = 22 ∨ op = 23 ∨ op = 24 ∨ op = 25 ∨ op = 26 ∨ op = 27 ∨ op = 28 := by omega
def ckS (u : Un) (f : Fl) (it : TypeId) (st : List Int) : List (Nat × HO) := [(3, .box (ckBox u f (st.map eInt).length)), (4, .row ⟨it, 1⟩ (st.map eInt))]
def z4q (tys : List Int) (v t : Int) : Bool := decide (0 <= v) && decide (v < tys.length) && (t == 0 || tys.getD v.toNat 0 == t)
def z8v (tys : List Int) (st : List Int) (v t : Int) : Bool × List Int := (z4q tys v t && st.getD v.toNat 0 == 1, st)
def z2o (tys : List Int) (st : List Int) (v t : Int) : Bool × List Int := if z4q tys v t && st.getD v.toNat 0 == 0 then (true, st.set v.toNat 1) else (false, st)
def z12 (tys st l want : List Int) : Bool := (eqf (z8v tys) st l want).1
def z0q (tys st l want : List Int) : Bool × List Int := eqf (z2o tys) st l want
def z1v (st l : List Int) : List Int := l.foldl (fun s v => s.set v.toNat 2) st
theorem zq0 (tys : List Int) : ∀ (a b st : List Int), (eqGo (z8v tys) st a b).2 = st
  | [], _, st => by simp [eqGo]
  | _ :: _, [], st => by simp [eqGo]
  | x :: a, y :: b, st => by
    simp only [eqGo]
    split
    ·exact zq0 tys a b st
    rfl
theorem y06 (tys st a b : List Int) : (eqf (z8v tys) st a b).2 = st := by
  unfold eqf
  split
  ·exact zq0 tys a b st
  rfl
theorem z5u (tys st : List Int) (v t : Int) : (z2o tys st v t).2.length = st.length := by
  unfold z2o; split <;> simp
theorem z78 (tys : List Int) : ∀ (a b st : List Int), (eqGo (z2o tys) st a b).2.length = st.length
  | [], _, st => by simp [eqGo]
  | _ :: _, [], st => by simp [eqGo]
  | x :: a, y :: b, st => by
    simp only [eqGo]
    split
    ·rw [z78 tys a b, z5u]
    exact z5u ..
theorem z2b (tys st a b : List Int) : (z0q tys st a b).2.length = st.length := by
  unfold z0q eqf
  split
  ·exact z78 ..
  rfl
theorem z3h : ∀ (l st : List Int), (z1v st l).length = st.length
  | [], st => rfl
  | v :: r, st => by
    have := z3h r (st.set v.toNat 2)
    simpa [z1v] using this
theorem zh2 (tys : List Int) : ∀ (a b st : List Int), a.length = b.length -> (eqGo (z2o tys) st a b).1 = true -> ∀ v ∈ a, 0 <= v /\ v < tys.length
  | [], _, st, _, _, v, hv => by simp at hv
  | _ :: _, [], _, hl, _, _, _ => by simp at hl
  | x :: a, y :: b, st, hl, h, v, hv => by
    simp only [eqGo] at h
    split at h
    ·rename_i h1
     rcases List.mem_cons.1 hv with rfl | hv
     ·unfold z2o at h1
      split at h1
      ·rename_i h2
       simp only [z4q, Bool.and_eq_true, decide_eq_true_eq] at h2
       exact ⟨h2.1.1.1, h2.1.1.2⟩
      cases h1
     exact zh2 tys a b _ (by simpa using hl) h v hv
    cases h
theorem zd4 {tys st a b : List Int} (h : (z0q tys st a b).1 = true) : ∀ v ∈ a, 0 <= v /\ v < tys.length := by
  unfold z0q eqf at h
  split at h
  ·exact zh2 tys a b st oM0 h
  cases h
def ckSp (u : Un) (f : Fl) (it : TypeId) (q : Nat) (st : List Int) : List (Nat × HO) := (q, .box [.ptr 3 0]) :: ckS u f it st
theorem y0j {u : Un} {f : Fl} {it : TypeId} {st : List Int} {i : Nat} {z : Int} : ∀ k, look ((4, some (.row ⟨it, 1⟩ ((st.map eInt).set i [vInt z]))) :: up (ckS u f it st)) k = look (up (ckS u f it (st.set i z))) k := by
  intro k
  simp only [ckS, up, List.map_cons, List.map_nil, look, List.length_map, List.length_set]
  by_cases h4 : 4 = k
  ·subst h4
   simp [List.map_set, eInt, show Nat.beq 3 4 = false from rfl]
  by_cases h3 : 3 = k
  ·subst h3; simp [show Nat.beq 4 3 = false from rfl]
  simp [z00 h3, z00 h4]
theorem ckS_lend {u : Un} {f : Fl} {it : TypeId} {st st' : List Int} (h : st'.length = st.length) : ∀ k ob, look (up (ckS u f it st')) k = some ob -> zb7 ob = true ∨ (k = 3 /\ look (up (ckS u f it st)) k = some ob) := by
  intro k ob hk
  have hm := z3k hk
  simp only [ckS, List.mem_cons, List.not_mem_nil, or_false, Prod.mk.injEq] at hm
  rcases hm with ⟨rfl, rfl⟩ | ⟨rfl, rfl⟩
  ·exact .inr ⟨rfl, by simp [ckS, up, look, h]⟩
  refine .inl ?_
  simp [zb7, eInt, zv4]
theorem set3 {u : Un} {f : Fl} {st : List Int} {i : Nat} {z : Int} {x : Option HO} (h : x = some (.box (ckBox u f (st.map eInt).length))) : x = some (.box (ckBox u f ((st.set i z).map eInt).length)) := by
  rw [h, show ((st.set i z).map eInt).length = (st.map eInt).length by simp]
theorem set4 {it : TypeId} {st : List Int} {i : Nat} {z : Int} {x : Option HO} (h : x = some (.row ⟨it, 1⟩ ((st.map eInt).set i [vInt z]))) : x = some (.row ⟨it, 1⟩ ((st.set i z).map eInt)) := by
  rw [h, List.map_set]; rfl
theorem y1w (t : Int) : SC Tryz.prog 57 [iInt t] [] (fun _ => False) (iBool (isTy t)) [] := by
  refine SC.of Tryz.func57 rfl (lb rfl) fun F ρ w => ?_
  refine tQ <| tG <| sm 1 rfl <| nL <| tQ <| tG <| sm 3 rfl ?_
  refine wS 5 rfl (fun hb5 => ?_) fun hb5 => ?_
  ·refine sm 4 rfl <| nL <| tRt <| rOk rfl ?_ nPo
   simp_all [isTy]
  refine sm 4 rfl <| nL <| tRt <| rOk rfl ?_ nPo
  simp_all [isTy]
theorem sc_flow1 (t : Int) : SC Tryz.prog 60 [iInt t] [] (fun _ => False) (iBool (!isTy t)) [] := by
  refine SC.of Tryz.func60 rfl (lb rfl) fun F ρ w => ?_
  refine tQ <| tG <| sm 1 rfl <| nL <| tQ <| tG <| sm 1 rfl <| cE rfl (ocq (y1w _) ent57 rfl rfl) <| sm 2 rfl <| nL <| tRt <| rOk rfl ?_ nPo
  rfl
theorem z6k (x : Nd) : SC Tryz.prog 103 [.pv (ndv x)] [] (fun _ => False) (iBool (z1d x.kind)) [] := by
  refine SC.of Tryz.func103 rfl (lb rfl) fun F ρ w => ?_
  refine tQ <| tG <| cE rfl (z13 rfl rfl) <| sm 1 rfl <| nL <| tQ <| tG <| sm 4 rfl ?_
  refine wS 6 rfl (fun hb6 => ?_) fun hb6 => ?_
  ·refine sm 5 rfl <| nL <| tRt <| rOk rfl ?_ nPo
   unfold z1d
   simp_all <;> omega
  refine sm 5 rfl <| nL <| tRt <| rOk rfl ?_ nPo
  unfold z1d
  simp_all <;> omega
theorem zd1 (l : List Nd) : SC Tryz.prog 106 [.pv (z07 l)] [] (fun _ => False) (iBool (z9s l)) [] := by
  refine SC.of Tryz.func106 rfl (lb rfl) fun F ρ w => ?_
  refine Tr.lenOf (t := 0) rfl (fun hl => ?_)
  simp only [List.length_map] at hl
  refine tQ <| tG <| sm 1 rfl <| nL <| tQ <| tG <| sm 1 rfl <| cV rfl (oSm uT44 rfl) <| sm 2 rfl ?_
  refine wS 6 rfl (fun hb6 => ?_) fun hb6 => ?_
  ·have hpos : 0 < l.length := by simp at hb6; omega
   have hlt : l.length - 1 < l.length := by omega
   have hi := z20 (List.getElem?_eq_getElem hlt)
   have hlast : l.getLast? = some l[l.length - 1] := by rw [List.getLast?_eq_getElem?]; exact List.getElem?_eq_getElem hlt
   generalize l[l.length - 1] = x at hi hlast
   have hsub : (l.length : Int) - 1 = ((l.length - 1 : Nat) : Int) := by omega
   refine sm 2 rfl <| yV rfl rfl (oSm uT44 rfl) <| yV rfl rfl (oB rfl rfl (za5 rfl oM0)) <| WL.sub (Sub.of (fr' := [(10, iInt ((l.length - 1 : Nat) : Int)), (7, .pv (z07 l)), (6, iBool true)]) ⟨by rw [<- hsub]; rfl, rfl, rfl, trivial⟩) <| yV rfl rfl (iSq rfl rfl rfl uT44 (by assumption) tS43 rfl (by rfl)) <| sm 5 rfl <| nL <| tRt <| rOk rfl ?_ nPo
   refine congrArg (fun b => iBool b) ?_
   simp [z9s, hlast]
  refine sm 10 rfl <| nL <| tRt <| rOk rfl ?_ nPo
  refine congrArg (fun b => iBool b) ?_
  (have h0 : l = [] := by cases l <;> simp_all <;> omega
   subst h0; rfl)
theorem zp3 (op : Int) : SC Tryz.prog 126 [iInt op] [] (fun _ => False) (.tup [iInt (z06 op).1, iInt (z06 op).2]) [] := by
  refine SC.of Tryz.func126 rfl (lb rfl) fun F ρ w => ?_
  refine tQ <| tG <| sm 2 rfl <| nL <| tQ <| tQ <| tG <| sm 1 rfl <| nL <| tBk <| tQ <| tG ?_
  refine sm 2 rfl <| nL ?_
  refine tC rfl (fun hc5 => ?_) fun hc5 => ?_
  ·refine tQ <| tG <| sm 2 rfl <| nL <| tRt <| rOk rfl ?_ nPo
   first | (simp_all [z06]; done) | (simp_all [z06]; split <;> first | omega | (simp; done))
  refine tQ <| tQ <| tG <| sm 2 rfl <| nL ?_
  refine tC rfl (fun hc7 => ?_) fun hc7 => ?_
  ·refine tSk ?_
   refine tC rfl (fun hc7 => ?_) fun hc7 => ?_
   ·refine tQ <| tG <| sm 2 rfl <| nL <| tRt <| rOk rfl ?_ nPo
    first | (simp_all [z06]; done) | (simp_all [z06]; split <;> first | omega | (simp; done))
   refine tQ <| tQ <| tG <| sm 2 rfl <| nL ?_
   refine tC rfl (fun hc10 => ?_) fun hc10 => ?_
   ·refine tSk ?_
    refine tC rfl (fun hc10 => ?_) fun hc10 => ?_
    ·refine tQ <| tG <| sm 2 rfl <| nL <| tRt <| rOk rfl ?_ nPo
     first | (simp_all [z06]; done) | (simp_all [z06]; split <;> first | omega | (simp; done))
    refine tSk <| tQ <| tG <| sm 2 rfl <| nL <| tRt <| rOk rfl ?_ nPo
    first | (simp_all [z06]; done) | (simp_all [z06]; split <;> first | omega | (simp; done))
   refine tQ <| tG <| sm 2 rfl <| nL ?_
   refine tC rfl (fun hc10 => ?_) fun hc10 => ?_
   ·refine tSk ?_
    refine tC rfl (fun hc10 => ?_) fun hc10 => ?_
    ·refine tQ <| tG <| sm 2 rfl <| nL <| tRt <| rOk rfl ?_ nPo
     first | (simp_all [z06]; done) | (simp_all [z06]; split <;> first | omega | (simp; done))
    refine tSk <| tQ <| tG <| sm 2 rfl <| nL <| tRt <| rOk rfl ?_ nPo
    first | (simp_all [z06]; done) | (simp_all [z06]; split <;> first | omega | (simp; done))
   refine tQ <| tG <| sm 2 rfl <| nL ?_
   refine tC rfl (fun hc10 => ?_) fun hc10 => ?_
   ·refine tSk ?_
    refine tC rfl (fun hc10 => ?_) fun hc10 => ?_
    ·refine tQ <| tG <| sm 2 rfl <| nL <| tRt <| rOk rfl ?_ nPo
     first | (simp_all [z06]; done) | (simp_all [z06]; split <;> first | omega | (simp; done))
    refine tSk <| tQ <| tG <| sm 2 rfl <| nL <| tRt <| rOk rfl ?_ nPo
    first | (simp_all [z06]; done) | (simp_all [z06]; split <;> first | omega | (simp; done))
   refine tG <| sm 2 rfl <| nL ?_
   refine tC rfl (fun hc10 => ?_) fun hc10 => ?_
   ·refine tQ <| tG <| sm 2 rfl <| nL <| tRt <| rOk rfl ?_ nPo
    first | (simp_all [z06]; done) | (simp_all [z06]; split <;> first | omega | (simp; done))
   refine tSk <| tQ <| tG <| sm 2 rfl <| nL <| tRt <| rOk rfl ?_ nPo
   first | (simp_all [z06]; done) | (simp_all [z06]; split <;> first | omega | (simp; done))
  refine tG <| sm 2 rfl <| nL ?_
  refine tC rfl (fun hc7 => ?_) fun hc7 => ?_
  ·refine tQ <| tG <| sm 2 rfl <| nL <| tRt <| rOk rfl ?_ nPo
   first | (simp_all [z06]; done) | (simp_all [z06]; split <;> first | omega | (simp; done))
  refine tQ <| tQ <| tG <| sm 2 rfl <| nL ?_
  refine tC rfl (fun hc10 => ?_) fun hc10 => ?_
  ·refine tSk ?_
   refine tC rfl (fun hc10 => ?_) fun hc10 => ?_
   ·refine tQ <| tG <| sm 2 rfl <| nL <| tRt <| rOk rfl ?_ nPo
    first | (simp_all [z06]; done) | (simp_all [z06]; split <;> first | omega | (simp; done))
   refine tSk <| tQ <| tG <| sm 2 rfl <| nL <| tRt <| rOk rfl ?_ nPo
   first | (simp_all [z06]; done) | (simp_all [z06]; split <;> first | omega | (simp; done))
  refine tQ <| tG <| sm 2 rfl <| nL ?_
  refine tC rfl (fun hc10 => ?_) fun hc10 => ?_
  ·refine tSk ?_
   refine tC rfl (fun hc10 => ?_) fun hc10 => ?_
   ·refine tQ <| tG <| sm 2 rfl <| nL <| tRt <| rOk rfl ?_ nPo
    first | (simp_all [z06]; done) | (simp_all [z06]; split <;> first | omega | (simp; done))
   refine tSk <| tQ <| tG <| sm 2 rfl <| nL <| tRt <| rOk rfl ?_ nPo
   first | (simp_all [z06]; done) | (simp_all [z06]; split <;> first | omega | (simp; done))
  refine tQ <| tG <| sm 2 rfl <| nL ?_
  refine tC rfl (fun hc10 => ?_) fun hc10 => ?_
  ·refine tSk ?_
   refine tC rfl (fun hc10 => ?_) fun hc10 => ?_
   ·refine tQ <| tG <| sm 2 rfl <| nL <| tRt <| rOk rfl ?_ nPo
    first | (simp_all [z06]; done) | (simp_all [z06]; split <;> first | omega | (simp; done))
   refine tSk <| tQ <| tG <| sm 2 rfl <| nL <| tRt <| rOk rfl ?_ nPo
   first | (simp_all [z06]; done) | (simp_all [z06]; split <;> first | omega | (simp; done))
  refine tG <| sm 2 rfl <| nL ?_
  refine tC rfl (fun hc10 => ?_) fun hc10 => ?_
  ·refine tQ <| tG <| sm 2 rfl <| nL <| tRt <| rOk rfl ?_ nPo
   first | (simp_all [z06]; done) | (simp_all [z06]; split <;> first | omega | (simp; done))
  refine tSk <| tQ <| tG <| sm 2 rfl <| nL <| tRt <| rOk rfl ?_ nPo
  first | (simp_all [z06]; done) | (simp_all [z06]; split <;> first | omega | (simp; done))
theorem zp2 (x : Nd) (ih : ∀ q ∈ x.kids, SC Tryz.prog 107 [.pv (z07 q)] [] (fun _ => False) (iBool (z11 q)) []) : SC Tryz.prog 120 [.pv (ndv x)] [] (fun _ => False) (iBool (z3e x)) [] := by
  refine SC.of Tryz.func120 rfl (lb rfl) fun F ρ w => ?_
  refine tQ <| tG <| cE rfl (z13 rfl rfl) <| sm 1 rfl <| nL <| tQ <| tG <| sm 4 rfl ?_
  refine wS 6 rfl (fun hb6 => ?_) fun hb6 => ?_
  ·refine sm 4 rfl <| nUu rfl rfl rfl rfl rfl rfl <| nUu rfl rfl rfl rfl rfl rfl <| nUu rfl rfl rfl rfl rfl rfl <| sm 3 rfl <| nL <| tRt <| rOk rfl ?_ nPo
   rw [z3v, z43]
   simp_all
  refine sm 4 rfl ?_
  refine wS 10 rfl (fun hb10 => ?_) fun hb10 => ?_
  ·refine sm 2 rfl <| WL.yes rfl rfl rfl rfl rfl rfl (z0r (zz3 107 [] [] rfl y0q z11 x.kids (fun q hq => (ih q hq).anyR)) ent121 rfl rfl (sSm rfl (Subs.cons (fun _ _ _ _ h => zk0 h) Subs.nil)) rfl) <| sm 3 rfl <| nL <| tRt <| rOk rfl ?_ nPo
   rw [z3v, z43]
   simp_all
  refine sm 6 rfl <| nL <| tRt <| rOk rfl ?_ nPo
  rw [z3v, z43]
  simp_all
theorem zd0 (N : Nat) : ∀ (l : List Nd), SizeOf.sizeOf l < N -> SC Tryz.prog 107 [.pv (z07 l)] [] (fun _ => False) (iBool (z11 l)) [] := by
  induction N with
  | zero => intro l hN; exact absurd hN (Nat.not_lt_zero _)
  | succ N ih =>
    intro l hN
    refine SC.of Tryz.func107 rfl (lb rfl) fun F ρ w => ?_
    refine tQ <| tG <| sm 1 rfl <| nL <| tQ <| tG <| sm 1 rfl <| cE rfl (z0r (zs5 120 [] [] rfl ent120 z3e l (fun x hm => (zp2 x (fun q hq => ih q (Nat.lt_of_lt_of_le (z62 hm rfl hq) (Nat.le_of_lt_succ hN)))).anyR)) ent119 rfl rfl (sSm rfl (Subs.cons (fun _ _ _ _ h => zk0 h) Subs.nil)) rfl) <| sm 1 rfl <| nL <| tRt <| rOk rfl ?_ nPo
    rw [z99]
theorem zc9 (l : List Nd) : SC Tryz.prog 107 [.pv (z07 l)] [] (fun _ => False) (iBool (z11 l)) [] := zd0 _ l (Nat.lt_succ_self _)
theorem z7j (x : Nd) : SC Tryz.prog 86 [.pv (ndv x)] [] (fun _ => False) (iBool (z0e x)) [] := by
  refine SC.of Tryz.func86 rfl (lb rfl) fun F ρ w => ?_
  refine tQ <| tG <| cE rfl (z13 rfl rfl) <| sm 1 rfl <| nL <| tQ <| tBk <| tQ <| tG <| sm 4 rfl ?_
  refine wS 7 rfl (fun hb7 => ?_) fun hb7 => ?_
  ·refine sm 2 rfl <| yV rfl rfl (oSm uT41 rfl) <| sm 3 rfl <| nL ?_
   refine tC rfl (fun hc3 => ?_) fun hc3 => ?_
   ·have hl : x.kids.length = 2 := by first | (simp_all; done) | (simp_all; omega)
    have h10 : x.kind = 10 := by simp_all
    have hi0 : (x.kids.map eKid)[0]? = some [z07 (kid0 x.kids)] := by rw [List.getElem?_map]; simp [kid0, eKid, hl]
    have hi1 : (x.kids.map eKid)[1]? = some [z07 (kid1 x.kids)] := by rw [List.getElem?_map]; simp [kid1, eKid, hl]
    refine tQ <| tG <| sm 2 rfl <| cV rfl (iSq rfl rfl rfl uT41 hi0 tS44 rfl (by rfl)) <| sm 1 rfl <| cE rfl (ocq (zd1 _) ent106 rfl rfl) <| sm 2 rfl ?_
    refine wS 19 rfl (fun hb19 => ?_) fun hb19 => ?_
    ·refine sm 2 rfl <| yV rfl rfl (iSq rfl rfl rfl uT41 hi1 tS44 rfl (by rfl)) <| sm 1 rfl <| WL.yes rfl rfl rfl rfl rfl rfl (z0r (zd1 _) ent106 rfl rfl (sRf _ _) rfl) <| sm 3 rfl <| nL <| tRt <| rOk rfl ?_ nPo
     simp_all [z0e, z2p]
    refine sm 8 rfl <| nL <| tRt <| rOk rfl ?_ nPo
    simp_all [z0e, z2p]
   refine tQ <| tG <| sm 4 rfl ?_
   refine wS 31 rfl (fun hb31 => ?_) fun hb31 => ?_
   ·refine sm 2 rfl <| yV rfl rfl (oSm uT41 rfl) <| sm 3 rfl <| nL ?_
    refine tC rfl (fun hc27 => ?_) fun hc27 => ?_
    ·have hl : x.kids.length = 1 := by first | (simp_all; done) | (simp_all; omega)
     have h11 : x.kind = 11 := by simp_all
     have hi0 : (x.kids.map eKid)[0]? = some [z07 (kid0 x.kids)] := by rw [List.getElem?_map]; simp [kid0, eKid, hl]
     refine tQ <| tG <| sm 2 rfl <| cV rfl (iSq rfl rfl rfl uT41 hi0 tS44 rfl (by rfl)) <| sm 1 rfl <| cE rfl (ocq (zc9 _) y0q rfl rfl) <| sm 2 rfl <| nL <| tRt <| rOk rfl ?_ nPo
     simp_all [z0e, z2p]
    refine tSk <| tQ <| tG <| cV rfl (lEA rfl rfl uT43 rfl tS43 (lb rfl)) <| cE rfl (ocq (z6k x) zl1 rfl rfl) <| sm 1 rfl <| nL <| tRt <| rOk rfl ?_ nPo
    simp_all [z0e, z2p]
   refine sm 6 rfl <| nL <| Tr.condF rfl <| tSk <| tQ <| tG <| cV rfl (lEA rfl rfl uT43 rfl tS43 (lb rfl)) <| cE rfl (ocq (z6k x) zl1 rfl rfl) <| sm 1 rfl <| nL <| tRt <| rOk rfl ?_ nPo
   simp_all [z0e, z2p]
  refine sm 6 rfl <| nL <| Tr.condF rfl <| tQ <| tG <| sm 4 rfl ?_
  refine wS 31 rfl (fun hb31 => ?_) fun hb31 => ?_
  ·refine sm 2 rfl <| yV rfl rfl (oSm uT41 rfl) <| sm 3 rfl <| nL ?_
   refine tC rfl (fun hc27 => ?_) fun hc27 => ?_
   ·have hl : x.kids.length = 1 := by first | (simp_all; done) | (simp_all; omega)
    have h11 : x.kind = 11 := by simp_all
    have hi0 : (x.kids.map eKid)[0]? = some [z07 (kid0 x.kids)] := by rw [List.getElem?_map]; simp [kid0, eKid, hl]
    refine tQ <| tG <| sm 2 rfl <| cV rfl (iSq rfl rfl rfl uT41 hi0 tS44 rfl (by rfl)) <| sm 1 rfl <| cE rfl (ocq (zc9 _) y0q rfl rfl) <| sm 2 rfl <| nL <| tRt <| rOk rfl ?_ nPo
    simp_all [z0e, z2p]
   refine tSk <| tQ <| tG <| cV rfl (lEA rfl rfl uT43 rfl tS43 (lb rfl)) <| cE rfl (ocq (z6k x) zl1 rfl rfl) <| sm 1 rfl <| nL <| tRt <| rOk rfl ?_ nPo
   simp_all [z0e, z2p]
  refine sm 6 rfl <| nL <| Tr.condF rfl <| tSk <| tQ <| tG <| cV rfl (lEA rfl rfl uT43 rfl tS43 (lb rfl)) <| cE rfl (ocq (z6k x) zl1 rfl rfl) <| sm 1 rfl <| nL <| tRt <| rOk rfl ?_ nPo
  simp_all [z0e, z2p]
theorem zt2 (x : Fl) (s : ByteArray) : SC Tryz.prog 83 [.pv (.agg x.enc), .pv (.ept [vStr s] 0)] [] (fun _ => False) (iBool (x.name.toList == s.toList)) [] := by
  refine SC.of Tryz.func83 rfl (lb rfl) fun F ρ w => ?_
  refine tQ <| tG <| cE rfl (z13 rfl rfl) <| sm 1 rfl <| nL <| tQ <| tG <| sm 3 rfl <| cV rfl (bSt rfl rfl rfl rfl) <| sm 1 rfl <| nL <| tRt <| rOk rfl ?_ nPo
  rfl
theorem z8r (u : Un) (s : ByteArray) : SC Tryz.prog 58 [.pv u.enc, iStr s] [] (fun _ => False) (iInt (z0a s u.flows 0)) [] := by
  refine SC.of Tryz.func58 rfl (lb rfl) fun F ρ w => ?_
  refine tQ <| tG <| cE rfl (z13 rfl rfl) <| cE rfl (y1c rfl rfl rfl) <| sm 1 rfl <| nL <| tQ <| tG <| sm 2 rfl <| cV rfl (z5o rfl rfl rfl) <| cE rfl (ocq (zs6 83 [.pv (.ept [vStr s] 0)] [] rfl ent83 (fun f : Fl => f.name.toList == s.toList) u.flows (fun x hm => (zt2 x s).anyR)) ent82 rfl rfl) <| sm 1 rfl ?_
  refine nL <| tRt <| rOk rfl ?_ nPo
  rw [zg1]
theorem y25 (x : Ar) (s : ByteArray) : SC Tryz.prog 129 [.pv (.agg x.enc), .pv (.ept [vStr s] 0)] [] (fun _ => False) (iBool (x.name.toList == s.toList)) [] := by
  refine SC.of Tryz.func129 rfl (lb rfl) fun F ρ w => ?_
  refine tQ <| tG <| cE rfl (z13 rfl rfl) <| sm 1 rfl <| nL <| tQ <| tG <| sm 3 rfl <| cV rfl (bSt rfl rfl rfl rfl) <| sm 1 rfl <| nL <| tRt <| rOk rfl ?_ nPo
  rfl
theorem z9r (u : Un) (s : ByteArray) : SC Tryz.prog 118 [.pv u.enc, iStr s] [] (fun _ => False) (iBool (decide (z1h s u.arrays 0 ≥ 0))) [] := by
  refine SC.of Tryz.func118 rfl (lb rfl) fun F ρ w => ?_
  refine tQ <| tG <| cE rfl (z13 rfl rfl) <| cE rfl (y1c rfl rfl rfl) <| sm 1 rfl <| nL <| tQ <| tG <| sm 2 rfl <| cV rfl (z5o rfl rfl rfl) <| cE rfl (ocq (zz1 129 [.pv (.ept [vStr s] 0)] [] rfl ent129 (fun f : Ar => f.name.toList == s.toList) u.arrays (fun x hm => (y25 x s).anyR)) ent128 rfl rfl) <| sm 1 rfl ?_
  refine nL <| tRt <| rOk rfl ?_ nPo
  rw [zb8 _ _ _ (Int.le_refl 0)]
theorem zj3 (u : Un) (f : Fl) (st : List Int) (v t : Int) : SC Tryz.prog 122 [.ptr 3 0, iInt v, iInt t] (ckS u f 3 st) (fun _ => True) (iBool (z4q f.types v t)) (ckS u f 3 st) := by
  refine SC.of Tryz.func122 rfl (lb rfl) fun F ρ w => ?_
  refine tQ <| tG <| sm 1 rfl <| nL <| tQ <| tG <| sm 3 rfl ?_
  refine wS 9 rfl (fun hb9 => ?_) fun hb9 => ?_
  ·refine sm 2 rfl <| yV rfl rfl (nCk rfl rfl rfl) <| sm 3 rfl <| yV rfl rfl (oSm uT35 rfl) <| sm 3 rfl ?_
   refine wS 19 rfl (fun hb19 => ?_) fun hb19 => ?_
   ·refine sm 3 rfl ?_
    refine wS 22 rfl (fun hb22 => ?_) fun hb22 => ?_
    ·refine sm 13 rfl <| nL <| tRt <| rOk rfl ?_ (fun _ _ h => h)
     refine congrArg (fun b => iBool b) ?_
     try clear hvx
     simp_all [z4q]
    have hv0 : v.toNat < f.types.length := by simp at hb9 hb19; omega
    have hvx : v = ((v.toNat : Nat) : Int) := by simp at hb9; omega
    have hty : (f.types.map eInt)[v.toNat]? = some [vInt (f.types.getD v.toNat 0)] := by rw [List.getElem?_map]; simp [eInt, List.getD, hv0]
    refine sm 1 rfl <| yV rfl rfl (nCk rfl rfl rfl) <| sm 4 rfl <| yV rfl rfl (iSq rfl rfl rfl uT35 hty tS3 rfl oM0) <| sm 6 rfl <| nL <| tRt <| rOk rfl ?_ (fun _ _ h => h)
    refine congrArg (fun b => iBool b) ?_
    try clear hvx
    simp_all [z4q]
   refine sm 3 rfl <| nUu rfl rfl rfl rfl rfl rfl <| nUu rfl rfl rfl rfl rfl rfl <| nUu rfl rfl rfl rfl rfl rfl <| nUu rfl rfl rfl rfl rfl rfl <| nUu rfl rfl rfl rfl rfl rfl <| nUu rfl rfl rfl rfl rfl rfl <| nUu rfl rfl rfl rfl rfl rfl <| nUu rfl rfl rfl rfl rfl rfl <| nUu rfl rfl rfl rfl rfl rfl <| nUu rfl rfl rfl rfl rfl rfl <| sm 3 rfl ?_
   refine nL <| tRt <| rOk rfl ?_ (fun _ _ h => h)
   refine congrArg (fun b => iBool b) ?_
   try clear hvx
   (simp_all [z4q] <;> omega)
  refine sm 13 rfl <| nUu rfl rfl rfl rfl rfl rfl <| nUu rfl rfl rfl rfl rfl rfl <| nUu rfl rfl rfl rfl rfl rfl <| nUu rfl rfl rfl rfl rfl rfl <| nUu rfl rfl rfl rfl rfl rfl <| nUu rfl rfl rfl rfl rfl rfl <| nUu rfl rfl rfl rfl rfl rfl <| nUu rfl rfl rfl rfl rfl rfl <| nUu rfl rfl rfl rfl rfl rfl <| nUu rfl rfl rfl rfl rfl rfl <| sm 3 rfl ?_
  refine nL <| tRt <| rOk rfl ?_ (fun _ _ h => h)
  refine congrArg (fun b => iBool b) ?_
  try clear hvx
  (simp_all [z4q] <;> omega)
theorem y2b (u : Un) (f : Fl) (st : List Int) (hs : st.length = f.types.length) (v t : Int) : SC Tryz.prog 124 [iInt v, iInt t, .ptr 5 0] (ckSp u f 3 5 st) (fun _ => True) (iBool (z8v f.types st v t).1) (ckSp u f 3 5 st) := by
  refine SC.of Tryz.func124 rfl (lb rfl) fun F ρ w => ?_
  refine tQ <| tG <| sm 1 rfl <| nL <| tQ <| tG <| sm 3 rfl <| cE rfl (ocr (zj3 u f st v t) y0r rfl (po2 rfl rfl) rfl (fun k (h : _) => .inr trivial) rfl rfl) <| sm 1 rfl ?_
  refine wS 10 rfl (fun hb10 => ?_) fun hb10 => ?_
  ·have hrg : 0 <= v /\ v < f.types.length := by
     have hvv : z4q f.types v t = true := by simpa using hb10
     simp only [z4q, Bool.and_eq_true, decide_eq_true_eq] at hvv
     exact ⟨hvv.1.1, hvv.1.2⟩
   have hv0 : v.toNat < f.types.length := by omega
   have hvx : v = ((v.toNat : Nat) : Int) := by omega
   have hst : (st.map eInt)[v.toNat]? = some [vInt (st.getD v.toNat 0)] := by rw [List.getElem?_map]; simp [eInt, List.getD, hs, hv0]
   have hstl : v.toNat < (st.map eInt).length := by simpa [hs] using hv0
   refine sm 1 rfl <| yV rfl rfl (nCk rfl rfl rfl) <| sm 3 rfl <| yV rfl rfl (iRw rfl rfl rfl rfl rfl uT35 tS3 (by assumption) oM0) <| yV rfl rfl (lRw rfl rfl rfl rfl (Nat.add_zero _).symm (by assumption) rfl uT3 rfl trivial) <| sm 3 rfl <| nL <| tRt <| rOk rfl ?_ (z1r (And.intro rfl (And.intro rfl (And.intro rfl (trivial)))))
   refine congrArg (fun b => iBool b) ?_
   try clear hvx
   simp_all [z8v]
  refine sm 10 rfl <| nL <| tRt <| rOk rfl ?_ (z1r (And.intro rfl (And.intro rfl (And.intro rfl (trivial)))))
  refine congrArg (fun b => iBool b) ?_
  try clear hvx
  simp_all [z8v]
theorem z1c (u : Un) (f : Fl) (st : List Int) (hs : st.length = f.types.length) (l want : List Int) : SC Tryz.prog 114 [.ptr 3 0, .pv (ints l), .pv (ints want)] (ckS u f 3 st) (fun _ => True) (iBool (z12 f.types st l want)) (ckS u f 3 st) := by
  refine SC.of Tryz.func114 rfl (lb rfl) fun F ρ w => ?_
  refine tQ <| tG <| cE rfl (zg6 (k := 5) rfl rfl ⟨_, rfl⟩ rfl rfl rfl rfl rfl) <| sm 1 rfl <| nL <| tQ <| tG <| sm 2 rfl <| cV rfl (z5o rfl rfl rfl) <| cE rfl (ocr (sc_eqf 124 [.ptr 5 0] (List Int) (fun s => ckSp u f 3 5 s) [5, 3, 4] (fun _ => rfl) (fun _ => rfl) ent124 (z8v f.types) (fun _ => True) (fun s => s.length = f.types.length) (fun s x y h => h) (fun s x y h => y2b u f s h x y) st hs l want) ent123 rfl (po3 rfl rfl rfl) rfl (fun k (h : _) => .inr trivial) rfl rfl) <| sm 1 rfl <| nL ?_
  refine tRt ?_
  have h2 := y06 f.types st l want
  rw [h2]
  exact rOk rfl rfl (po2 rfl rfl)
theorem y2a (u : Un) (f : Fl) (st : List Int) (hs : st.length = f.types.length) (v t : Int) : SC Tryz.prog 125 [iInt v, iInt t, .ptr 5 0] (ckSp u f 3 5 st) (fun k => k = 3 ∨ k = 5) (iBool (z2o f.types st v t).1) (ckSp u f 3 5 (z2o f.types st v t).2) := by
  refine SC.of Tryz.func125 rfl (lb rfl) fun F ρ w => ?_
  refine tQ <| tG <| sm 1 rfl <| nL <| tQ <| tQ <| tG <| sm 3 rfl <| cE rfl (ocr (zj3 u f st v t) y0r rfl (po2 rfl rfl) rfl (fun k (h : _) => .inr trivial) rfl rfl) <| sm 2 rfl ?_
  refine wS 11 rfl (fun hb11 => ?_) fun hb11 => ?_
  ·refine sm 9 rfl <| nL <| Tr.condT rfl <| tQ <| tG <| sm 1 rfl <| nL <| tRt ?_
   have h2 : z2o f.types st v t = (false, st) := by
     try clear hvx
     simp_all [z2o]
   rw [h2]
   exact rOk rfl rfl (po3 rfl rfl rfl)
  have hrg : 0 <= v /\ v < f.types.length := by
    have hvv : z4q f.types v t = true := by simpa using hb11
    simp only [z4q, Bool.and_eq_true, decide_eq_true_eq] at hvv
    exact ⟨hvv.1.1, hvv.1.2⟩
  have hv0 : v.toNat < f.types.length := by omega
  have hvx : v = ((v.toNat : Nat) : Int) := by omega
  have hst : (st.map eInt)[v.toNat]? = some [vInt (st.getD v.toNat 0)] := by rw [List.getElem?_map]; simp [eInt, List.getD, hs, hv0]
  have hstl : v.toNat < (st.map eInt).length := by simpa [hs] using hv0
  refine sm 1 rfl <| yV rfl rfl (nCk rfl rfl rfl) <| sm 3 rfl <| yV rfl rfl (iRw rfl rfl rfl rfl rfl uT35 tS3 (by assumption) oM0) <| yV rfl rfl (lRw rfl rfl rfl rfl (Nat.add_zero _).symm (by assumption) rfl uT3 rfl trivial) <| sm 2 rfl <| nL ?_
  refine tC rfl (fun hc20 => ?_) fun hc20 => ?_
  ·refine tQ <| tG <| sm 1 rfl <| nL <| tRt ?_
   have h2 : z2o f.types st v t = (false, st) := by
     try clear hvx
     simp_all [z2o]
   rw [h2]
   exact rOk rfl rfl (po3 rfl rfl rfl)
  refine tSk <| tQ <| tG <| sm 1 rfl <| cV rfl (nCk rfl rfl rfl) <| sm 3 rfl <| cV rfl (iRw rfl rfl rfl rfl rfl uT35 tS3 (by assumption) oM0) <| c0 (z1l rfl rfl rfl rfl rfl (Nat.add_zero _).symm (by assumption) sI0 tS3 rfl sI0) <| nL <| tQ <| tG <| sm 1 rfl ?_
  refine nL <| tRt ?_
  have h2 : z2o f.types st v t = (true, st.set v.toNat 1) := by
    try clear hvx
    simp_all [z2o]
  rw [h2]
  exact rOk rfl rfl (z1r (And.intro rfl (And.intro (set3 rfl) (And.intro (set4 rfl) trivial))))
theorem z1o (u : Un) (f : Fl) (st : List Int) (hs : st.length = f.types.length) (l want : List Int) : SC Tryz.prog 116 [.ptr 3 0, .pv (ints l), .pv (ints want)] (ckS u f 3 st) (fun k => k = 3) (iBool (z0q f.types st l want).1) (ckS u f 3 (z0q f.types st l want).2) := by
  refine SC.of Tryz.func116 rfl (lb rfl) fun F ρ w => ?_
  refine tQ <| tG <| cE rfl (zg6 (k := 5) rfl rfl ⟨_, rfl⟩ rfl rfl rfl rfl rfl) <| sm 1 rfl <| nL <| tQ <| tG <| sm 2 rfl <| cV rfl (z5o rfl rfl rfl) <| cE rfl (ocr (sc_eqf 125 [.ptr 5 0] (List Int) (fun s => ckSp u f 3 5 s) [5, 3, 4] (fun _ => rfl) (fun _ => rfl) ent125 (z2o f.types) (fun k => k = 3 ∨ k = 5) (fun s => s.length = f.types.length) (fun s x y h => (z5u f.types s x y).trans h) (fun s x y h => y2a u f s h x y) st hs l want) ent123 rfl (po3 rfl rfl rfl) rfl (fun k (h : _) => by (subst h; first | exact .inl rfl | exact .inr rfl | exact .inr dC0)) rfl rfl) <| sm 1 rfl <| nL ?_
  refine tRt <| rOk rfl ?_ (z1r (And.intro rfl (And.intro rfl (trivial))))
  rfl
theorem z8a (u : Un) (f : Fl) (st : List Int) (hs : st.length = f.types.length) (l : List Int) (hb : l.length <= 1073741824) : SC Tryz.prog 115 [.ptr 3 0, .pv (ints l)] (ckS u f 3 st) (fun k => k = 3) (iBool (z0q f.types st l (List.replicate l.length 0)).1) (ckS u f 3 (z0q f.types st l (List.replicate l.length 0)).2) := by
  refine SC.of Tryz.func115 rfl (lb rfl) fun F ρ w => ?_
  refine tQ <| tG <| sm 1 rfl <| nL <| tQ <| tG <| sm 3 rfl <| cV rfl (oSm uT35 rfl) <| cE rfl (z0y (k := 109) (s := ⟨3, 1⟩) rfl rfl rfl uT35 tZ3 tC3 rfl dC0 oM0 oM0 rfl rfl rfl rfl) <| cE rfl (z29 (fun k => k = 109) (z1o u f st hs l (List.replicate l.length 0)) z3z rfl rfl (sRf _ _) (And.intro LendOf.same (And.intro LendOf.same (And.intro (LendOf.row rfl rfl (by (simp; done)) (by (simp only [List.map_replicate]; rfl))) (trivial)))) (fun k h => by subst h; rfl) (po2 rfl rfl) rfl (fun k (h : _) => .inr h) ⟨_, rfl⟩ (ckS_lend (z2b ..))) <| sm 1 rfl <| nL ?_
  refine tRt <| rOk rfl ?_ (z1r (And.intro rfl (And.intro rfl (trivial))))
  rfl
theorem zp1 (u : Un) (f : Fl) (st : List Int) (hs : st.length = f.types.length) (l : List Int) (hin : ∀ v ∈ l, 0 <= v /\ v < f.types.length) : SC Tryz.prog 87 [.ptr 3 0, .pv (ints l)] (ckS u f 3 st) (fun k => k = 3) (.tup []) (ckS u f 3 (z1v st l)) := by
  refine SC.of Tryz.func87 rfl (lb rfl) fun F ρ w => ?_
  refine Tr.lenOf (t := 1) rfl (fun hl => ?_)
  simp only [List.length_map] at hl
  refine tQ <| tG <| sm 1 rfl <| cV rfl (oSm uT35 rfl) <| sm 1 rfl <| nL <| tBk <| Tr.sub (Sub.of (fr' := [(8, iInt 0), (7, iInt l.length), (6, .pv (ints l)), (0, .ptr 3 0)]) ⟨rfl, rfl, rfl, rfl, trivial⟩) ?_
  refine Tr.loop (fun fr σ m => ∃ (k : Nat) (s : List Int), (k <= l.length) /\ (z1v st l = z1v s (l.drop k)) /\ (s.length = f.types.length) /\ fr = [(8, iInt k), (7, iInt l.length), (6, .pv (ints l)), (0, .ptr 3 0)] /\ σ = look (up (ckS u f 3 s)) /\ m = l.length - k) (n := l.length - 0) ?_ ?_
  ·exact ⟨0, st, Nat.zero_le _, rfl, hs, rfl, rfl, rfl⟩
  rintro fr σ m ⟨k, s, hI0, hI1, hI2, rfl, rfl, rfl⟩
  refine tQ <| tG <| sm 1 rfl <| nL <| tQ ?_
  refine tC rfl (fun hc9 => ?_) fun hc9 => ?_
  ·have hlt : k < l.length := by simpa using hc9
   have hd := List.drop_eq_getElem_cons hlt
   have hm := List.getElem_mem hlt
   have hi := z0c (f := eInt) (List.getElem?_eq_getElem hlt)
   generalize l[k] = x at hd hm hi
   obtain ⟨hx0, hx1⟩ := hin x hm
   have hv0 : x.toNat < f.types.length := by omega
   have hvx : x = ((x.toNat : Nat) : Int) := by omega
   have hst : (s.map eInt)[x.toNat]? = some [vInt (s.getD x.toNat 0)] := by rw [List.getElem?_map]; simp [eInt, List.getD, hI2, hv0]
   have hstl : x.toNat < (s.map eInt).length := by simpa [hI2] using hv0
   refine tSk <| tQ <| tBk <| tQ <| tG <| cV rfl (iSq rfl rfl rfl uT35 hi tS3 rfl (by rfl)) <| sm 2 rfl <| nL <| tG <| sm 1 rfl <| cV rfl (nCk rfl rfl rfl) <| sm 3 rfl ?_
   refine cV rfl (iRw rfl rfl rfl rfl rfl uT35 tS3 (by assumption) oM0) <| c0 (z1l rfl rfl rfl rfl rfl (Nat.add_zero _).symm (by assumption) sI0 tS3 rfl sI0) <| nL <| tG <| cV rfl (oB rfl rfl (z05 rfl oM0)) <| sm 1 rfl <| nL ?_
   refine ⟨_, _, ?_, Sub.of (fr' := [(8, iInt (k + 1)), (7, iInt l.length), (6, .pv (ints l)), (0, .ptr 3 0)]) ⟨rfl, rfl, rfl, rfl, trivial⟩, (k + 1), (s.set x.toNat 2), ?_, ?_, ?_, rfl, (funext y0j), rfl⟩
   ·omega
   ·omega
   ·rw [hI1, hd]; rfl
   simpa using hI2
  refine tEx ?_
  have hge : l.length <= k := by simpa using hc9
  have h2 : z1v st l = s := by rw [hI1, List.drop_eq_nil_of_le hge]; rfl
  rw [h2]
  exact end_ok rfl rfl (fun _ _ h => h)
section
variable {P : Program} {c : Cx} {R1 : Nat -> Prop} {o : Oper} {fr : Fr} {hp : Hp}
def ResC (P : Program) (fr : Fr) (σ : Heap') (a : Tmp) (t : TypeId) (x : IV) : Prop := ∀ (c : Cx) (o : Oper), o.op = .load t (.tmp a) -> OkV P c (fun _ => True) o fr σ x
theorem y1s {ρ : Loc} {σ : Heap'} {w : World} {a : Act} {q : Tmp} {t : TypeId} {x : IV} (h : All c ρ σ w fr a) (hr : ResC P fr σ q t x) : ∃ v ad, (asAddr ((a.tmps[q]?).getD undef)).run P w = .ok ad w /\ (loadVar t ad).run P w = .ok v w /\ RepI c.F ρ σ w x v := by
  obtain ⟨v, h1, h2⟩ := hr c { (default : Oper) with op := .load t (.tmp q) } rfl ρ w a h
  have h3 := h1 w (SameFor.refl _ _ _ _)
  simp only [execOp, Instr.loadAt, Sem.run_bind] at h3
  have hev : a.eval (.tmp q) = (a.tmps[q]?).getD undef := by simp [Act.eval]
  rw [hev] at h3
  generalize (a.tmps[q]?).getD undef = p at h3 ⊢
  cases p with
  | pointer ad =>
    cases ad with
    | none => simp [Instr.sureAddr] at h3
    | some ad =>
      refine ⟨v, ad, rfl, ?_, h2⟩
      simp only [Instr.sureAddr, Sem.run_bind, Sem.run_pure, Result.andThen_ok] at h3
      generalize (loadVar t ad).run P w = res at h3 ⊢
      cases res with
      | ok v' w' => simpa [Result.andThen] using h3
      | _ => simp [Result.andThen] at h3
  | _ => simp [Instr.sureAddr] at h3
theorem ze6 {α : Type} {k : Nat} {s : RT} {f : α -> List PV} {l : List α} {x : α} {q : Option HO} {pre : List (Nat × HO)} :
    look ((k, some (.row s (l.map f ++ [f x]))) :: (up pre ++ ((k, q) :: up pre))) = look ((k, some (.row s ((l ++ [x]).map f))) :: up pre) := by
  funext j
  simp only [look, List.map_append, List.map_cons, List.map_nil]
  by_cases e : k = j
  ·subst e; simp
  simp only [z00 e, cond_false]
  rw [z7x]
  split
  ·rfl
  simp only [look, z00 e, cond_false]
theorem z8m {t : TypeId} {x : Operand} {k : Nat} {ps : List PV} (ho : o.op = .box t x) (hx : fr.ev x = some (.pv (.agg ps))) (hσ : look hp k = none) (hc : c.σ k = none) (hfr : nmFr k fr = false) (hhp : nmHp k hp = false) :
    Ok P c o fr (look hp) (.ptr k 0) (look ((k, some (.box (ps.map .pv))) :: hp)) := by
  intro ρ w a K Q h hK
  have hr := h.ev hx
  generalize hv : a.eval x = v at hr
  cases hr with
  | pv _ _ hr =>
    cases hr with
    | agg _ vs u hl hvu hr =>
      have hrun : (execOp a.eval o).run P w = .ok (.value (.pointer (some ⟨w.heap.size, 0, none⟩))) (w.alloc (.cells vs t)) := by
        have hn : (newVar t (.agg vs)).run P w = .ok ⟨w.heap.size, 0, none⟩ (w.alloc (.cells vs t)) := rfl
        simp only [execOp, ho, hv, Instr.box, Sem.run_bind, hn, Result.andThen_ok]
        rfl
      unfold Oper.wp
      rw [hrun]
      refine hK (z1k ρ k (some (w.heap.size, 1))) _ _ (h.alloc hσ hc hfr hhp 1 _ _ fun keep keepP => ?_) (.ptr _ _ _ fun cs' _ => ⟨w.heap.size, 1, z0g, rfl⟩)
      refine .box _ t vs u (z3d w _) (by simpa using hl) (fun j x hj => ?_) fun j x hj => ?_
      ·rw [List.getElem?_map] at hj
       obtain ⟨p, hp, rfl⟩ := Option.map_eq_some_iff.1 hj
       exact hvu j p hp
      rw [List.getElem?_map] at hj
      obtain ⟨p, hp, rfl⟩ := Option.map_eq_some_iff.1 hj
      exact .pv _ _ (keepP _ _ (hr j p hp))
theorem zi6 {t : TypeId} {x : Operand} {f : Nat} {ps : List PV} {p : PV} {fs : Array Field} {fd : Field} {d : TypeDesc} {σ : Heap'} (ho : o.op = .field t x f) (hx : fr.ev x = some (.pv (.agg ps)))
    (hu : P.underlying t = some (.struct fs)) (hf : fs[f]? = some fd) (hd : P.underlying fd.type = some d) (hrow : d.isRow = false) (hp : ps[fd.offset]? = some p) : OkV P c R1 o fr σ (.pv p) := by
  intro ρ w a h
  have hr := h.ev hx
  generalize hv : a.eval x = v at hr
  cases hr with
  | pv _ _ hr =>
    cases hr with
    | agg _ vs u hl hvu hr =>
      refine ⟨u fd.offset, fun w2 _ => ?_, .pv _ _ (hr _ _ hp)⟩
      simp [execOp, ho, hv, Instr.field, Sem.run_bind, run_underlying hu, hf, part, asAgg, z2l hd, hrow, hvu _ _ hp]
def retC (P : Program) (a : Tmp) (t : TypeId) (r : IV) (post : List (Nat × HO)) : Exit -> Fr -> Heap' -> Prop
  | .ret, fr, σ | .normal, fr, σ => (∃ x, ResC P fr σ a t x /\ ∀ F ρ w v, RepI F ρ σ w x v -> RepI F ρ σ w r v) /\ ∀ k o, look (up post) k = some o -> σ k = some o
  | _, _, _ => False
def retC2 (P : Program) (a : Tmp) (t : TypeId) (b : Tmp) (r : IV) (post : List (Nat × HO)) : Exit -> Fr -> Heap' -> Prop
  | .ret, fr, σ | .normal, fr, σ => (∃ x y, ResC P fr σ a t x /\ fr.get b = some y /\ ∀ F ρ w v, RepI F ρ σ w (.tup [x, y]) v -> RepI F ρ σ w r v) /\ ∀ k o, look (up post) k = some o -> σ k = some o
  | _, _, _ => False
theorem SC.start {f : FuncId} {fn : Func} {code : Code} {args : List IV} {pre post : List (Nat × HO)} {R : Nat -> Prop} {r : IV} {Q : Exit -> Fr -> Heap' -> Prop} (hf : P.funcs[f]? = some fn) (hb : fn.body = some code) (hn : args.length <= fn.ntmps)
    (hQ : ∀ (c : Cx) (e : Exit) (fr : Fr) (σ : Heap'), Q e fr σ -> (e = .ret ∨ e = .normal) /\ (∀ k o, look (up post) k = some o -> σ k = some o) /\ ∀ ρ w a, All c ρ σ w fr a -> ∃ v, (results fn a.tmps).run P w = .ok v w /\ RepI c.F ρ σ w r v)
    (h : ∀ F ρ w, Tr P ⟨F, R, ρ, look (up pre), w, fn.ntmps⟩ code (frOf 0 args) (look (up pre)) Q) : SC P f args pre R r post := by
  intro F ρ w vs hrel hargs
  refine calls_of_wp hf hb ?_
  have ha : All ⟨F, R, ρ, look (up pre), w, fn.ntmps⟩ ρ (look (up pre)) w (frOf 0 args) { tmps := vs.toArray ++ Array.replicate (fn.ntmps - vs.toArray.size) undef, defers := [] } := by
    refine ⟨hrel, fun t x hx => ?_, .refl _ _ _ _ _, rfl, ?_⟩
    ·obtain ⟨v, hv, hr⟩ := hargs.2 t x (by simpa using (zi0 hx).2)
     refine ⟨v, ?_, hr⟩
     rw [Array.getElem?_append_left (by simpa using (List.getElem?_eq_some_iff.1 hv).1)]
     simpa using hv
    have := hargs.1
    simp; omega
  refine wp_mono (h F ρ w ρ w _ ha) fun e a' w' hq => ?_
  obtain ⟨ρ', σ', fr', ha', hq⟩ := hq
  obtain ⟨he, hσ, hres⟩ := hQ ⟨F, R, ρ, look (up pre), w, fn.ntmps⟩ e fr' σ' hq
  obtain ⟨v, hv, h1⟩ := hres ρ' w' a' ha'
  obtain ⟨ρ'', ha'', keep⟩ := ha'.restrict hσ
  rcases he with rfl | rfl
  ·exact ⟨ha'.df, v, hv, ρ'', v, rfl, keep _ _ h1, ha''.rel, ha''.tr⟩
  exact ⟨ha'.df, v, hv, ρ'', v, rfl, keep _ _ h1, ha''.rel, ha''.tr⟩
theorem SC.ofC {f : FuncId} {fn : Func} {code : Code} {args : List IV} {pre post : List (Nat × HO)} {R : Nat -> Prop} {r : IV} {q : Tmp} {t : TypeId} (hf : P.funcs[f]? = some fn) (hb : fn.body = some code) (hn : args.length <= fn.ntmps) (hrs : fn.results = #[.cell q t])
    (h : ∀ F ρ w, Tr P ⟨F, R, ρ, look (up pre), w, fn.ntmps⟩ code (frOf 0 args) (look (up pre)) (retC P q t r post)) : SC P f args pre R r post := by
  refine SC.start hf hb hn (fun c e fr σ hq => ?_) h
  have key : (∃ x, ResC P fr σ q t x /\ ∀ F ρ w v, RepI F ρ σ w x v -> RepI F ρ σ w r v) -> ∀ ρ w a, All c ρ σ w fr a -> ∃ v, (results fn a.tmps).run P w = .ok v w /\ RepI c.F ρ σ w r v := by
    rintro ⟨x, hx, hs⟩ ρ w a ha
    obtain ⟨v, ad, hv, hv2, h1⟩ := y1s ha hx
    refine ⟨v, ?_, hs _ _ _ _ h1⟩
    simp [results, hrs, hv, hv2, Sem.run_bind]
  cases e with
  | ret => exact ⟨.inl rfl, hq.2, key hq.1⟩
  | normal => exact ⟨.inr rfl, hq.2, key hq.1⟩
  | _ => exact hq.elim
theorem SC.ofC2 {f : FuncId} {fn : Func} {code : Code} {args : List IV} {pre post : List (Nat × HO)} {R : Nat -> Prop} {r : IV} {q b : Tmp} {t : TypeId} (hf : P.funcs[f]? = some fn) (hb : fn.body = some code) (hn : args.length <= fn.ntmps) (hrs : fn.results = #[.cell q t, .tmp b])
    (h : ∀ F ρ w, Tr P ⟨F, R, ρ, look (up pre), w, fn.ntmps⟩ code (frOf 0 args) (look (up pre)) (retC2 P q t b r post)) : SC P f args pre R r post := by
  refine SC.start hf hb hn (fun c e fr σ hq => ?_) h
  have key : (∃ x y, ResC P fr σ q t x /\ fr.get b = some y /\ ∀ F ρ w v, RepI F ρ σ w (.tup [x, y]) v -> RepI F ρ σ w r v) -> ∀ ρ w a, All c ρ σ w fr a -> ∃ v, (results fn a.tmps).run P w = .ok v w /\ RepI c.F ρ σ w r v := by
    rintro ⟨x, y, hx, hy, hs⟩ ρ w a ha
    obtain ⟨v, ad, hv, hv2, h1⟩ := y1s ha hx
    obtain ⟨v', hv', h1'⟩ := ha.fr b y hy
    refine ⟨.tuple #[v, v'], ?_, hs _ _ _ _ (y2r h1 h1')⟩
    simp [results, hrs, hv, hv2, hv', Sem.run_bind]
  cases e with
  | ret => exact ⟨.inl rfl, hq.2, key hq.1⟩
  | normal => exact ⟨.inr rfl, hq.2, key hq.1⟩
  | _ => exact hq.elim
theorem rCk {q : Tmp} {t : TypeId} {x r : IV} {post : List (Nat × HO)} {σ : Heap'} {e : Exit} (he : e = .ret ∨ e = .normal) (hx : ResC P fr σ q t x) (hr : x = r) (hσ : ∀ k o, look (up post) k = some o -> σ k = some o) : retC P q t r post e fr σ := by
  rcases he with rfl | rfl <;> exact ⟨⟨x, hx, fun _ _ _ _ h => hr ▸ h⟩, hσ⟩
theorem retC2_ok {q b : Tmp} {t : TypeId} {x y r : IV} {post : List (Nat × HO)} {σ : Heap'} {e : Exit} (he : e = .ret ∨ e = .normal) (hx : ResC P fr σ q t x) (hy : fr.get b = some y) (hr : .tup [x, y] = r) (hσ : ∀ k o, look (up post) k = some o -> σ k = some o) : retC2 P q t b r post e fr σ := by
  rcases he with rfl | rfl <;> exact ⟨⟨x, y, hx, hy, fun _ _ _ _ h => hr ▸ h⟩, hσ⟩
end
theorem tZ152 : ((Tryz.prog.info? 152).bind (·.zero)) = some (.agg #[.string ⟨#[]⟩, .int .i64 0, .string ⟨#[]⟩, .int .i64 0, .string ⟨#[]⟩, .int .i64 0, .string ⟨#[]⟩, .int .i64 0, .string ⟨#[]⟩, .int .i64 0, .string ⟨#[]⟩, .int .i64 0, .string ⟨#[]⟩, .int .i64 0, .string ⟨#[]⟩, .int .i64 0, .string ⟨#[]⟩, .int .i64 0, .string ⟨#[]⟩, .int .i64 0, .string ⟨#[]⟩, .int .i64 0, .string ⟨#[]⟩, .int .i64 0, .string ⟨#[]⟩, .int .i64 0, .string ⟨#[]⟩, .int .i64 0, .string ⟨#[]⟩, .int .i64 0, .string ⟨#[]⟩, .int .i64 0, .string ⟨#[]⟩, .int .i64 0, .string ⟨#[]⟩, .int .i64 0, .string ⟨#[]⟩, .int .i64 0, .string ⟨#[]⟩, .int .i64 0, .string ⟨#[]⟩, .int .i64 0, .string ⟨#[]⟩, .int .i64 0, .string ⟨#[]⟩, .int .i64 0, .string ⟨#[]⟩, .int .i64 0, .string ⟨#[]⟩, .int .i64 0, .string ⟨#[]⟩, .int .i64 0, .string ⟨#[]⟩, .int .i64 0, .string ⟨#[]⟩, .int .i64 0, .string ⟨#[]⟩, .int .i64 0]) := by kernel_rfl
theorem tS152 : (Tryz.prog.info? 152).map (·.size) = some 58 := by kernel_rfl
theorem sc_rowOf (op : Int) : SC Tryz.prog 132 [iInt op] [] (fun _ => False) (.pv (.agg [vStr (wSign op), vInt (z79 op)])) [] := by
  refine SC.ofC Tryz.func132 rfl (lb rfl) rfl fun F ρ w => ?_
  refine tQ ?_
  refine tG ?_
  refine cE rfl (aLc (k := 102) rfl z38 rfl rfl rfl rfl) ?_
  refine nL ?_
  refine tQ ?_
  refine tG ?_
  refine cV rfl (bPu rfl rfl z38 z3c rfl (fbk rfl) rfl) ?_
  refine cV rfl (bPu rfl rfl z38 z3c rfl (fbk rfl) rfl) ?_
  refine cV rfl (bPu rfl rfl z38 z3c rfl (fbk rfl) rfl) ?_
  refine cV rfl (bPu rfl rfl z38 z3c rfl (fbk rfl) rfl) ?_
  refine cV rfl (bPu rfl rfl z38 z3c rfl (fbk rfl) rfl) ?_
  refine cV rfl (bPu rfl rfl z38 z3c rfl (fbk rfl) rfl) ?_
  refine cV rfl (bPu rfl rfl z38 z3c rfl (fbk rfl) rfl) ?_
  refine cV rfl (bPu rfl rfl z38 z3c rfl (fbk rfl) rfl) ?_
  refine cV rfl (bPu rfl rfl z38 z3c rfl (fbk rfl) rfl) ?_
  refine cV rfl (bPu rfl rfl z38 z3c rfl (fbk rfl) rfl) ?_
  refine cV rfl (bPu rfl rfl z38 z3c rfl (fbk rfl) rfl) ?_
  refine cV rfl (bPu rfl rfl z38 z3c rfl (fbk rfl) rfl) ?_
  refine cV rfl (bPu rfl rfl z38 z3c rfl (fbk rfl) rfl) ?_
  refine cV rfl (bPu rfl rfl z38 z3c rfl (fbk rfl) rfl) ?_
  refine cV rfl (bPu rfl rfl z38 z3c rfl (fbk rfl) rfl) ?_
  refine cV rfl (bPu rfl rfl z38 z3c rfl (fbk rfl) rfl) ?_
  refine cV rfl (bPu rfl rfl z38 z3c rfl (fbk rfl) rfl) ?_
  refine cV rfl (bPu rfl rfl z38 z3c rfl (fbk rfl) rfl) ?_
  refine cV rfl (bPu rfl rfl z38 z3c rfl (fbk rfl) rfl) ?_
  refine cV rfl (bPu rfl rfl z38 z3c rfl (fbk rfl) rfl) ?_
  refine cV rfl (bPu rfl rfl z38 z3c rfl (fbk rfl) rfl) ?_
  refine cV rfl (bPu rfl rfl z38 z3c rfl (fbk rfl) rfl) ?_
  refine cV rfl (bPu rfl rfl z38 z3c rfl (fbk rfl) rfl) ?_
  refine cV rfl (bPu rfl rfl z38 z3c rfl (fbk rfl) rfl) ?_
  refine cV rfl (bPu rfl rfl z38 z3c rfl (fbk rfl) rfl) ?_
  refine cV rfl (bPu rfl rfl z38 z3c rfl (fbk rfl) rfl) ?_
  refine cV rfl (bPu rfl rfl z38 z3c rfl (fbk rfl) rfl) ?_
  refine cV rfl (bPu rfl rfl z38 z3c rfl (fbk rfl) rfl) ?_
  refine cV rfl (zn4 rfl rfl tZ152 Tryz.underlying152 zk2 rfl (fbk rfl)) ?_
  refine cE rfl (aLc (k := 103) rfl tZ152 rfl rfl rfl rfl) ?_
  refine c0 (sBA rfl rfl rfl rfl rfl ((fun h => h)) tS152 (flk rfl) (lb rfl)) ?_
  refine nL ?_
  refine tQ ?_
  refine tQ ?_
  refine tG ?_
  refine sm 3 rfl ?_
  refine wS 35 rfl (fun hb35 => ?_) fun hb35 => ?_
  ·refine sm 3 rfl ?_
   refine nL ?_
   refine Tr.condT rfl ?_
   refine tQ ?_
   refine tG ?_
   refine cV rfl (bPu rfl rfl z38 z3c rfl (fbk rfl) rfl) ?_
   refine c0 (sBA rfl rfl rfl rfl rfl ((fun h => h)) zk2 (flk rfl) (lb rfl)) ?_
   refine nL ?_
   refine tRt ?_
   have hop : op < 0 ∨ op ≥ 29 := by
     simp_all
   refine rCk (.inl rfl) (fun _ _ ho => lBP ho rfl rfl Tryz.underlying149 rfl zk2 (lb rfl) rfl trivial) ?_ nPo
   rcases hop with h | h <;> simp [wSign, z79, h] <;> rfl
  refine sm 3 rfl ?_
  refine nL ?_
  refine tC rfl (fun hc38 => ?_) fun hc38 => ?_
  ·refine tQ ?_
   refine tG ?_
   refine cV rfl (bPu rfl rfl z38 z3c rfl (fbk rfl) rfl) ?_
   refine c0 (sBA rfl rfl rfl rfl rfl ((fun h => h)) zk2 (flk rfl) (lb rfl)) ?_
   refine nL ?_
   refine tRt ?_
   have hop : op < 0 ∨ op ≥ 29 := by
     simp_all
   refine rCk (.inl rfl) (fun _ _ ho => lBP ho rfl rfl Tryz.underlying149 rfl zk2 (lb rfl) rfl trivial) ?_ nPo
   rcases hop with h | h <;> simp [wSign, z79, h] <;> rfl
  refine tSk ?_
  refine tQ ?_
  have hop : 0 <= op /\ op < 29 := by
    simp_all
  rcases y0f hop.1 hop.2 with rfl | rfl | rfl | rfl | rfl | rfl | rfl | rfl | rfl | rfl | rfl | rfl | rfl | rfl | rfl | rfl | rfl | rfl | rfl | rfl | rfl | rfl | rfl | rfl | rfl | rfl | rfl | rfl | rfl
  all_goals
    refine tG ?_
    refine sm 1 rfl ?_
    refine cV rfl (zn5 rfl rfl rfl rfl Tryz.underlying152 zk2 (by rfl) dC0) ?_
    refine cV rfl (lBP rfl rfl rfl Tryz.underlying149 rfl zk2 (lb rfl) rfl trivial) ?_
    refine c0 (sBA rfl rfl rfl rfl rfl ((fun h => h)) zk2 (flk rfl) (lb rfl)) ?_
    refine nL ?_
    refine tRt <| rCk (.inl rfl) (fun _ _ ho => lBP ho rfl rfl Tryz.underlying149 rfl zk2 (lb rfl) rfl trivial) ?_ nPo
    rfl
theorem y2g (op : Int) : SC Tryz.prog 127 [iInt op] [] (fun _ => False) (iInt (z79 op)) [] := by
  refine SC.of Tryz.func127 rfl (lb rfl) fun F ρ w => ?_
  refine tQ ?_
  refine tG ?_
  refine sm 1 rfl ?_
  refine nL ?_
  refine tQ ?_
  refine tG ?_
  refine sm 1 rfl ?_
  refine cE rfl (ocq (sc_rowOf op) ent132 rfl rfl) ?_
  refine cV rfl (zi6 rfl rfl Tryz.underlying149 rfl uT3 rfl rfl) ?_
  refine sm 1 rfl ?_
  refine nL ?_
  refine tRt <| rOk rfl ?_ nPo
  rfl
section
variable {P : Program} {c : Cx} {R1 : Nat -> Prop} {o : Oper} {fr : Fr} {hp : Hp} {σ : Heap'} {Q : Exit -> Fr -> Heap' -> Prop}
theorem RepP.keepIt {own : Nat -> Prop} {w w' : World} {b0 : Nat} {p : PV} {v : Value} (h : RepP own w p v) (hs : w.heap.size <= w'.heap.size) (h0 : ∀ off sp, w.cell? ⟨b0, off, sp⟩ = none)
    (hk : ∀ b, b ≠ b0 -> w'.heap[b]? = w.heap[b]?) : RepP own w' p v := by
  have key : ∀ (b off : Nat) (x : Value), w.cell? ⟨b, off, none⟩ = some x -> w'.cell? ⟨b, off, none⟩ = some x := by
    intro b off x hx
    by_cases e : b = b0
    ·subst e; rw [h0] at hx; cases hx
    rw [<- hx]; exact World.cell?_of_block (a := ⟨b, off, none⟩) (hk b e)
  induction h with
  | val v => exact .val v
  | seq els a cap b off u ha hb hl hm hc _ ih => exact .seq els a cap b off u ha (fun hne => ⟨(hb hne).1, Nat.lt_of_lt_of_le (hb hne).2 hs⟩) hl hm (fun i el hi j c hj => key _ _ _ (hc i el hi j c hj)) ih
  | agg cs vs u hl hv _ ih => exact .agg cs vs u hl hv ih
  | ept cs off b o u hb hc _ ih => exact .ept cs off b o u ⟨hb.1, Nat.lt_of_lt_of_le hb.2 hs⟩ (fun j c hj => key _ _ _ (hc j c hj)) ih
theorem RepI.mapP {F : Nat -> Prop} {ρ : Loc} {w w' : World} {x : IV} {v : Value} (hk : ∀ p v, RepP (owned F ρ) w p v -> RepP (owned F ρ) w' p v) (h : RepI F ρ σ w x v) : RepI F ρ σ w' x v := by
  induction h with
  | pv p v h => exact .pv p v (hk _ _ h)
  | ptr k off v h => exact .ptr k off v h
  | sl k len v h => exact .sl k len v h
  | rpt k len off v h => exact .rpt k len off v h
  | mp k v h => exact .mp k v h
  | agg cs vs u hl hv _ ih => exact .agg cs vs u hl hv ih
  | tup cs vs u hl hv _ ih => exact .tup cs vs u hl hv ih
  | fn f xs ys vs ws u t hl hv _ hl' hv' _ ih ih' => exact .fn f xs ys vs ws u t hl hv ih hl' hv' ih'
theorem RepO.mapP {F : Nat -> Prop} {ρ : Loc} {w w' : World} {b cc : Nat} {o : HO} (hb : w'.heap[b]? = w.heap[b]?) (hk : ∀ p v, RepP (owned F ρ) w p v -> RepP (owned F ρ) w' p v) (h : RepO F ρ σ w b cc o) : RepO F ρ σ w' b cc o := by
  cases h with
  | box cs e a u h hl hv hr => exact .box cs e a u (hb.trans h) hl hv fun j x hj => (hr j x hj).mapP hk
  | row s els a u h hs hl hm hw hv hr => exact .row s els a u (hb.trans h) hs hl hm hw hv fun i el hi j x hj => hk _ _ (hr i el hi j x hj)
  | map es a t u h hl hv hr => exact .map es a t u (hb.trans h) hl hv fun i k p hi => hk _ _ (hr i k p hi)
theorem z90 {w : World} {b0 : Nat} {s : ByteArray} {k : Nat} (h : w.heap[b0]? = some (.stringIter s k)) : ∀ off sp, w.cell? ⟨b0, off, sp⟩ = none := by
  intro off sp
  simp [World.cell?, h]
theorem All.iterSet {ρ : Loc} {w : World} {a : Act} {b0 k k' : Nat} {s : ByteArray} (h : All c ρ σ w fr a) (hit : w.heap[b0]? = some (.stringIter s k)) (hge : c.w.heap.size <= b0) (hun : ∀ j cc, ρ j ≠ some (b0, cc)) :
    All c ρ σ { w with heap := w.heap.setIfInBounds b0 (.stringIter s k') } fr a := by
  have hlt : b0 < w.heap.size := (Array.getElem?_eq_some_iff.1 hit).1
  have hoth : ∀ b, b ≠ b0 -> (w.heap.setIfInBounds b0 (Obj.stringIter s k'))[b]? = w.heap[b]? := fun b hb => by simp [Ne.symm hb]
  have hP : ∀ p v, RepP (owned c.F ρ) w p v -> RepP (owned c.F ρ) { w with heap := w.heap.setIfInBounds b0 (.stringIter s k') } p v := fun p v hp => hp.keepIt sI0 (z90 hit) hoth
  refine ⟨⟨h.rel.inj, h.rel.apart, fun b hb => by simpa using h.rel.old b hb, fun j b cc hj => ?_, h.rel.real⟩, fun t x hx => ?_, ?_, h.df, h.sz⟩
  ·obtain ⟨o, h1, h2⟩ := h.rel.obj j b cc hj
   exact ⟨o, h1, h2.mapP (hoth b fun e => hun j cc (e ▸ hj)) hP⟩
  ·obtain ⟨v, hv, hr⟩ := h.fr t x hx
   exact ⟨v, hv, hr.mapP hP⟩
  have t := h.tr
  exact { t with
    size := by simpa using t.size
    blk := fun b hb hall => (hoth b oM0).trans (t.blk b hb hall) }
theorem All.rebase {ρ : Loc} {w : World} {a : Act} (h : All c ρ σ w fr a) : All ⟨c.F, c.R, ρ, σ, w, c.n⟩ ρ σ w fr a := ⟨h.rel, h.fr, .refl _ _ _ _ _, h.df, h.sz⟩
theorem All.unbase {ρ ρ' : Loc} {σ' : Heap'} {w w' : World} {fr' : Fr} {a a' : Act} (h : All c ρ σ w fr a) (h' : All ⟨c.F, c.R, ρ, σ, w, c.n⟩ ρ' σ' w' fr' a') (hc : ∀ k, σ k = none -> c.σ k = none) : All c ρ' σ' w' fr' a' :=
  ⟨h'.rel, h'.fr, h.tr.trans h'.tr (fun _ h => h) (fun k h1 _ => hc k h1), h'.df, h'.sz⟩
abbrev itv (b0 : Nat) : IV := .pv (.val (.pointer (some ⟨b0, 0, none⟩)))
theorem zw5 (s : ByteArray) (i : Nat) : 1 <= (Utf8.decode s i).2 := by
  unfold Utf8.decode
  simp only
  repeat' split
  all_goals simp
def itPos (w : World) (b0 : Nat) : Nat := match w.heap[b0]? with
  | some (.stringIter _ k) => k
  | _ => 0
theorem Sub.cons {fr' : Fr} {d : Nat} {x : IV} (h : Sub σ fr fr') : Sub σ ((d, x) :: fr) ((d, x) :: fr') := by
  intro t y hy
  simp only [Fr.get] at hy ⊢
  cases hb : Nat.beq d t with
  | true => rw [hb] at hy; cases hy; exact ⟨_, rfl, fun _ _ _ _ h => h⟩
  | false => rw [hb] at hy; exact h t y hy
theorem Tr.strRange {id1 i2 bid : Nat} {ops1 ops2 : Array Oper} {rest : Code} {m g nx ex : Oper} {d0 d1 e1 e2 : Nat} {x0 : Operand} {ty : TypeId} {s : ByteArray}
    (h1 : ops1.toList = [m, g]) (hmo : m.op = .move x0) (hmd : m.dst = some d0) (hmg : m.guard = none) (hgo : g.op = .range ty (.tmp d0)) (hgd : g.dst = some d1) (hgg : g.guard = none)
    (hx0 : fr.ev x0 = some (iStr s)) (hty : P.underlying ty = some .string)
    (h2 : ops2.toList = [nx, ex]) (hno : nx.op = .next (.tmp d1) true) (hnd : nx.dst = some e1) (hng : nx.guard = none) (heo : ex.op = .extract (.tmp e1) 0) (hed : ex.dst = some e2) (heg : ex.guard = none)
    (hb0 : Nat.blt d0 c.n = true) (hb1 : Nat.blt d1 c.n = true) (hb2 : Nat.blt e1 c.n = true) (hb3 : Nat.blt e2 c.n = true)
    (hcσ : ∀ k, σ k = none -> c.σ k = none)
    (I : Nat -> Fr -> Prop) (h0 : ∃ fr0, Sub σ ((d0, iStr s) :: fr) fr0 /\ I 0 fr0)
    (hdone : ∀ b0 k fr', s.size <= k -> I k fr' -> Q .normal ((e2, iBool false) :: (e1, .tup [iBool false]) :: (d1, itv b0) :: fr') σ)
    (round : ∀ (ρ2 : Loc) (w2 : World) (b0 k : Nat) (fr' : Fr), k < s.size -> I k fr' ->
      Tr P ⟨c.F, c.R, ρ2, σ, w2, c.n⟩ rest ((e2, iBool true) :: (e1, .tup [iBool true, iInt k, .pv (.val (.int .i32 (Utf8.decode s k).1))]) :: (d1, itv b0) :: fr') σ (fun e fr1 σ1 => match e with
        | .normal => σ1 = σ /\ ∃ fr'', Sub σ fr1 ((d1, itv b0) :: fr'') /\ I (k + (Utf8.decode s k).2) fr''
        | .exit _ => False
        | e => Q e fr1 σ1)) :
    Tr P c (.seq (.region id1 ops1 false) (.block bid (.loop (.seq (.region i2 ops2 false) (.seq (.cond (.tmp e2) .skip (.exit bid)) rest))))) fr σ Q := by
  obtain ⟨fr0, hs0, hI0⟩ := h0
  intro ρ w a ha
  refine wp_seq (wp_region_list ?_)
  rw [h1]
  refine wpList_plain hmg fun K hK => ?_
  obtain ⟨v1, hr1, hv1⟩ := (zr8 (R1 := fun _ => True) hmo hx0) ρ w a ha
  unfold Oper.wp
  rw [hr1 w (.refl _ _ _ _), Oper.upon_value]
  refine hK _ _ ?_
  clear hK K
  have ha2 : All c ρ σ w ((d0, iStr s) :: fr) (a.put m.dst v1) := by
    have := ha.put (d := m.dst) hv1 (by rw [hmd]; intro t ht; cases ht; simpa using hb0)
    rwa [hmd] at this ⊢
  generalize a.put m.dst v1 = a2 at ha2 ⊢
  refine wpList_plain hgg fun K2 hK2 => ?_
  have hevs : a2.eval (.tmp d0) = .string s := z16 ha2 (show Fr.ev ((d0, iStr s) :: fr) (.tmp d0) = _ by simp [Fr.ev, Fr.get])
  have hrun : (execOp a2.eval g).run P w = .ok (.value (.pointer (some ⟨w.heap.size, 0, none⟩))) (w.iter s 0) := by
    simp [execOp, hgo, hevs, Sem.run_bind, run_range_string w ty s hty]
  unfold Oper.wp
  rw [hrun, Oper.upon_value]
  refine hK2 _ _ ?_
  obtain ⟨ha3, _⟩ := ha2.push (.stringIter s 0)
  have hfresh := ha2.fresh
  have ha4 : All c ρ σ (w.iter s 0) ((d1, itv w.heap.size) :: (d0, iStr s) :: fr) (a2.put g.dst (.pointer (some ⟨w.heap.size, 0, none⟩))) := by
    have := ha3.put (d := g.dst) (z2s (.pointer (some ⟨w.heap.size, 0, none⟩))) (by rw [hgd]; intro t ht; cases ht; simpa using hb1)
    rwa [hgd] at this ⊢
  have hge : c.w.heap.size <= w.heap.size := ha2.tr.size
  generalize hb : w.heap.size = b0 at *
  generalize a2.put g.dst (.pointer (some ⟨b0, 0, none⟩)) = a4 at ha4 ⊢
  show (Code.block _ _).wp P _ a4 (w.iter s 0)
  refine wp_block <| wp_loop (fun a' w' => ∃ k ρ' fr', All c ρ' σ w' ((d1, itv b0) :: fr') a' /\ I k fr' /\ w'.heap[b0]? = some (.stringIter s k) /\ ∀ j cc, ρ' j ≠ some (b0, cc)) (fun _ w' => s.size - itPos w' b0) ⟨0, ρ, fr0, ha4.sub (hs0.cons), hI0, by rw [<- hb]; exact World.iter_heap w s 0, fun j cc hj => by first | exact hfresh (.inr ⟨j, cc, hj⟩) | exact hfresh (by rw [hb]; exact .inr ⟨j, cc, hj⟩)⟩ ?_
  rintro a5 w5 ⟨k, ρ5, fr', ha5, hI, hit, hun⟩
  refine wp_seq (wp_region_list ?_)
  rw [h2]
  have hevp : a5.eval (.tmp d1) = .pointer (some ⟨b0, 0, none⟩) := z16 ha5 (show Fr.ev ((d1, itv b0) :: fr') (.tmp d1) = _ by simp [Fr.ev, Fr.get])
  have hpos : itPos w5 b0 = k := by simp [itPos, hit]
  have hlt0 : b0 < w5.heap.size := (Array.getElem?_eq_some_iff.1 hit).1
  by_cases hk : k < s.size
  ·have hrun5 : (execOp a5.eval nx).run P w5 = .ok (.value (.tuple #[.bool true, .int .i64 k, .int .i32 (Utf8.decode s k).1])) { w5 with heap := w5.heap.setIfInBounds b0 (.stringIter s (k + (Utf8.decode s k).2)) } := by
     simp [execOp, hno, hevp, Instr.next, getObj, setObj, Sem.run_bind, Sem.run, hit, hk, goInt, Result.andThen]
   refine wpList_plain hng fun K3 hK3 => ?_
   unfold Oper.wp
   rw [hrun5, Oper.upon_value]
   refine hK3 _ _ ?_
   have ha6 := ha5.iterSet (k' := k + (Utf8.decode s k).2) hit (by rw [<- hb] at hge ⊢; exact hge) hun
   have htup : RepI c.F ρ5 σ { w5 with heap := w5.heap.setIfInBounds b0 (.stringIter s (k + (Utf8.decode s k).2)) } (.tup [iBool true, iInt k, .pv (.val (.int .i32 (Utf8.decode s k).1))]) (.tuple #[.bool true, .int .i64 k, .int .i32 (Utf8.decode s k).1]) := zq3 (z2s _) (z2s _) (z2s _)
   have ha7 : All c ρ5 σ { w5 with heap := w5.heap.setIfInBounds b0 (.stringIter s (k + (Utf8.decode s k).2)) } ((e1, .tup [iBool true, iInt k, .pv (.val (.int .i32 (Utf8.decode s k).1))]) :: (d1, itv b0) :: fr') (a5.put nx.dst (.tuple #[.bool true, .int .i64 k, .int .i32 (Utf8.decode s k).1])) := by
     have := ha6.put (d := nx.dst) htup (by rw [hnd]; intro t ht; cases ht; simpa using hb2)
     rwa [hnd] at this ⊢
   generalize a5.put nx.dst (.tuple #[.bool true, .int .i64 k, .int .i32 (Utf8.decode s k).1]) = a7 at ha7 ⊢
   generalize hw7 : ({ w5 with heap := w5.heap.setIfInBounds b0 (.stringIter s (k + (Utf8.decode s k).2)) } : World) = w7 at ha7 ⊢
   have hit7 : w7.heap[b0]? = some (.stringIter s (k + (Utf8.decode s k).2)) := by rw [<- hw7]; simp [hlt0]
   refine wpList_plain heg fun K4 hK4 => ?_
   obtain ⟨v8, hr8, hv8⟩ := (z0d (R1 := fun _ => True) (vs := [iBool true, iInt k, .pv (.val (.int .i32 (Utf8.decode s k).1))]) (z := iBool true) heo (show Fr.ev ((e1, _) :: _) (.tmp e1) = _ by simp [Fr.ev, Fr.get]) rfl) ρ5 w7 a7 ha7
   unfold Oper.wp
   rw [hr8 w7 (.refl _ _ _ _), Oper.upon_value]
   refine hK4 _ _ ?_
   have ha8 : All c ρ5 σ w7 ((e2, iBool true) :: (e1, .tup [iBool true, iInt k, .pv (.val (.int .i32 (Utf8.decode s k).1))]) :: (d1, itv b0) :: fr') (a7.put ex.dst v8) := by
     have := ha7.put (d := ex.dst) hv8 (by rw [hed]; intro t ht; cases ht; simpa using hb3)
     rwa [hed] at this ⊢
   generalize a7.put ex.dst v8 = a8 at ha8 ⊢
   show (Code.seq _ _).wp P _ a8 w7
   refine wp_seq <| wp_cond (t := true) (z16 ha8 (show Fr.ev ((e2, iBool true) :: _) (.tmp e2) = _ by simp [Fr.ev, Fr.get])) ?_
   rw [if_pos rfl]
   refine wp_skip ?_
   show rest.wp P _ a8 w7
   refine wp_mono (round ρ5 w7 b0 k fr' hk hI ρ5 w7 a8 ha8.rebase) ?_
   rintro e a9 w9 ⟨ρ9, σ9, fr9, ha9, hq⟩
   have hlt7 : b0 < w7.heap.size := (Array.getElem?_eq_some_iff.1 hit7).1
   cases e with
   | normal =>
     obtain ⟨rfl, fr2, hsub, hI2⟩ := hq
     have hit9 : w9.heap[b0]? = some (.stringIter s (k + (Utf8.decode s k).2)) := (ha9.tr.blk b0 hlt7 fun j cc hj => absurd hj (hun j cc)).trans hit7
     refine ⟨⟨_, ρ9, fr2, (ha8.unbase ha9 hcσ).sub hsub, hI2, hit9, fun j cc hj => hun j cc (ha9.tr.own j b0 cc hj hlt7)⟩, ?_⟩
     have := zw5 s k
     rw [hpos]
     simp only [itPos, hit9]
     omega
   | exit id => exact hq.elim
   | _ => exact ⟨ρ9, σ9, fr9, ha8.unbase ha9 hcσ, hq⟩
  have hrun5 : (execOp a5.eval nx).run P w5 = .ok (.value (.tuple #[.bool false])) w5 := by
    simp [execOp, hno, hevp, Instr.next, getObj, Sem.run_bind, Sem.run, hit, hk, Result.andThen]
  refine wpList_plain hng fun K3 hK3 => ?_
  unfold Oper.wp
  rw [hrun5, Oper.upon_value]
  refine hK3 _ _ ?_
  have htup : RepI c.F ρ5 σ w5 (.tup [iBool false]) (.tuple #[.bool false]) := .tup _ _ (fun _ => .bool false) rfl (fun j x hj => by
    match j, hj with
    | 0, _ => rfl
    | j + 1, hj => simp at hj) fun j x hj => by
    match j, hj with
    | 0, hj => cases hj; exact z2s _
    | j + 1, hj => simp at hj
  have ha7 : All c ρ5 σ w5 ((e1, .tup [iBool false]) :: (d1, itv b0) :: fr') (a5.put nx.dst (.tuple #[.bool false])) := by
    have := ha5.put (d := nx.dst) htup (by rw [hnd]; intro t ht; cases ht; simpa using hb2)
    rwa [hnd] at this ⊢
  generalize a5.put nx.dst (.tuple #[.bool false]) = a7 at ha7 ⊢
  refine wpList_plain heg fun K4 hK4 => ?_
  obtain ⟨v8, hr8, hv8⟩ := (z0d (R1 := fun _ => True) (vs := [iBool false]) (z := iBool false) heo (show Fr.ev ((e1, _) :: _) (.tmp e1) = _ by simp [Fr.ev, Fr.get]) rfl) ρ5 w5 a7 ha7
  unfold Oper.wp
  rw [hr8 w5 (.refl _ _ _ _), Oper.upon_value]
  refine hK4 _ _ ?_
  have ha8 : All c ρ5 σ w5 ((e2, iBool false) :: (e1, .tup [iBool false]) :: (d1, itv b0) :: fr') (a7.put ex.dst v8) := by
    have := ha7.put (d := ex.dst) hv8 (by rw [hed]; intro t ht; cases ht; simpa using hb3)
    rwa [hed] at this ⊢
  generalize a7.put ex.dst v8 = a8 at ha8 ⊢
  show (Code.seq _ _).wp P _ a8 w5
  refine wp_seq <| wp_cond (t := false) (z16 ha8 (show Fr.ev ((e2, iBool false) :: _) (.tmp e2) = _ by simp [Fr.ev, Fr.get])) ?_
  rw [if_neg sI0]
  refine wp_exit ?_
  show (if bid = bid then _ else _)
  rw [if_pos rfl]
  exact ⟨ρ5, σ, _, ha8, hdone b0 k fr' oM0 hI⟩
end
section
variable {P : Program} {c : Cx} {R1 : Nat -> Prop} {o : Oper} {fr : Fr} {hp : Hp} {σ : Heap'} {Q : Exit -> Fr -> Heap' -> Prop}
theorem Sub.cons2 {fr' : Fr} {d : Nat} {x y : IV} (hx : ∀ F ρ w v, RepI F ρ σ w x v -> RepI F ρ σ w y v) (h : Sub σ fr fr') : Sub σ ((d, x) :: fr) ((d, y) :: fr') := by
  intro t z hz
  simp only [Fr.get] at hz ⊢
  cases hb : Nat.beq d t with
  | true => rw [hb] at hz; cases hz; exact ⟨_, rfl, hx⟩
  | false => rw [hb] at hz; exact h t z hz
theorem Sub.rfl' : Sub σ fr fr := fun _ y hy => ⟨y, hy, fun _ _ _ _ h => h⟩
theorem All.freezeCell {ρ : Loc} {w : World} {a : Act} {k k2 j n : Nat} {s : RT} {els : List (List PV)} {cs : List IV} (h : All c ρ (look hp) w fr a) (hk : look hp k = some (.row s els)) (hn : els.length = n) (hk2 : look hp k2 = some (.box cs)) (hj : cs[j]? = some (.sl k n)) (hne : k ≠ k2) :
    All c (z1k ρ k none) (look ((k2, some (.box (cs.set j (.pv (.seq els))))) :: (k, none) :: hp)) w fr a := by
  have h' := h.drop (k := k)
  have hown : ∀ b, owned c.F (z1k ρ k none) b -> owned c.F ρ b := fun b hb => by
    rcases hb with hb | ⟨i, cc, hi⟩
    ·exact .inl hb
    by_cases e : i = k
    ·subst e; rw [z0g] at hi; cases hi
    rw [z2i (Ne.symm e)] at hi; exact .inr ⟨i, cc, hi⟩
  have hlk : ∀ i, i ≠ k2 -> look ((k2, some (.box (cs.set j (.pv (.seq els))))) :: (k, none) :: hp) i = look ((k, none) :: hp) i := fun i hi => z4i (Ne.symm hi)
  have hlk2 : look ((k2, some (.box (cs.set j (.pv (.seq els))))) :: (k, none) :: hp) k2 = some (.box (cs.set j (.pv (.seq els)))) := z4h
  have hk2' : look ((k, none) :: hp) k2 = some (.box cs) := zr4 hne hk2
  have hnew : ∀ v, RepI c.F ρ (look hp) w (.sl k n) v -> RepP (owned c.F (z1k ρ k none)) w (.seq els) v := by
    intro v hv
    cases hv with
    | sl _ _ _ hv =>
      obtain ⟨_, h2⟩ := hv s els hk
      rcases h2 hn with ⟨b, cc, hρ, rfl⟩ | ⟨_, hz, rfl⟩
      ·obtain ⟨o1, h3, h4⟩ := h.rel.obj k b cc hρ
       rw [hk] at h3; cases h3
       cases h4 with
       | row _ _ r u h3 hs hl hm hwe hcells hu =>
         rw [<- hn]
         refine .seq els _ cc b 0 u (fun _ => rfl) (fun _ => ⟨fun ho => ?_, h.rel.lt hρ⟩) oM0 hm (fun i el hi q x hq => ?_) fun i el hi q x hq => (hu i el hi q x hq).own hown
         ·rcases ho with ho | ⟨i, cc', hi⟩
          ·exact h.rel.apart _ _ _ hρ ho
          by_cases e : i = k
          ·subst e; rw [z0g] at hi; cases hi
          rw [z2i (Ne.symm e)] at hi; exact e (h.rel.inj _ _ _ _ _ hi hρ)
         rw [z4d h3, Nat.zero_add, hwe el (List.mem_of_getElem? hi)]
         exact hcells i el hi q x hq
      have hnil : els = [] := List.eq_nil_of_length_eq_zero oM0
      subst hnil
      exact .seq [] none 0 0 0 (fun _ _ => undef) sI0 sI0 sI0 (by simp [maxLen]) sI0 sI0
  have hconv : ∀ x v, RepI c.F (z1k ρ k none) (look ((k, none) :: hp)) w x v -> RepI c.F (z1k ρ k none) (look ((k2, some (.box (cs.set j (.pv (.seq els))))) :: (k, none) :: hp)) w x v := by
    intro x v hx
    induction hx with
    | pv p v hp => exact .pv p v hp
    | ptr i off v hi =>
      refine .ptr i off v fun cs' h2 => ?_
      by_cases e : i = k2
      ·subst e; exact hi _ hk2'
      rw [hlk i e] at h2; exact hi _ h2
    | sl i len v hi =>
      refine .sl i len v fun s' els' h2 => ?_
      by_cases e : i = k2
      ·subst e; rw [hlk2] at h2; cases h2
      rw [hlk i e] at h2; exact hi _ _ h2
    | rpt i len off v hi =>
      refine .rpt i len off v fun s' els' h2 => ?_
      by_cases e : i = k2
      ·subst e; rw [hlk2] at h2; cases h2
      rw [hlk i e] at h2; exact hi _ _ h2
    | mp i v hi =>
      refine .mp i v fun es h2 => ?_
      by_cases e : i = k2
      ·subst e; rw [hlk2] at h2; cases h2
      rw [hlk i e] at h2; exact hi _ h2
    | agg cs vs u hl hv _ ih => exact .agg cs vs u hl hv ih
    | tup cs vs u hl hv _ ih => exact .tup cs vs u hl hv ih
    | fn f xs ys vs ws u t hl hv _ hl' hv' _ ih ih' => exact .fn f xs ys vs ws u t hl hv ih hl' hv' ih'
  refine ⟨⟨h'.rel.inj, h'.rel.apart, h'.rel.old, fun i b cc hi => ?_, fun i o h1 h2 => ?_⟩, fun t x hx => ?_, ?_, h'.df, h'.sz⟩
  ·obtain ⟨o1, h1, h2⟩ := h'.rel.obj i b cc hi
   by_cases e : i = k2
   ·subst e
    rw [hk2'] at h1; cases h1
    refine ⟨_, hlk2, ?_⟩
    have hρi : ρ i = some (b, cc) := by rwa [z2i hne] at hi
    obtain ⟨o3, h3, h4⟩ := h.rel.obj i b cc hρi
    rw [hk2] at h3; cases h3
    cases h2 with
    | box _ e' r u h5 hl hv hr =>
      cases h4 with
      | box _ e2 r2 u2 h6 hl2 hv2 hr2 =>
        rw [h5] at h6; cases h6
        refine .box _ e' r u h5 (by simpa using hl) (fun q x hq => ?_) fun q x hq => ?_
        ·by_cases eq : q = j
         ·subst eq
          exact hv q _ hj
         rw [List.getElem?_set_ne (Ne.symm eq)] at hq; exact hv q x hq
        by_cases eq : q = j
        ·subst eq
         have hlt : q < cs.length := (List.getElem?_eq_some_iff.1 hj).1
         rw [List.getElem?_set_self hlt] at hq; cases hq
         have e3 : u q = u2 q := by
           have a1 := hv q _ hj; have a2 := hv2 q _ hj
           rw [a1] at a2; exact Option.some.inj a2
         rw [e3]
         exact .pv _ _ (hnew _ (hr2 q _ hj))
        rw [List.getElem?_set_ne (Ne.symm eq)] at hq; exact hconv _ _ (hr q x hq)
   refine ⟨o1, (hlk i e).trans h1, ?_⟩
   cases h2 with
   | box cs' e' r u h hl hv hr => exact .box cs' e' r u h hl hv fun q x hq => hconv _ _ (hr q x hq)
   | row s' els' r u h hs hl hm hw hv hr => exact .row s' els' r u h hs hl hm hw hv hr
   | map es r t u h hl hv hr => exact .map es r t u h hl hv hr
  ·by_cases e : i = k2
   ·subst e
    rw [z2i hne] at h2
    obtain ⟨s', h3⟩ := h.rel.real i _ hk2 h2
    cases h3
   rw [hlk i e] at h1; exact h'.rel.real i o h1 h2
  ·obtain ⟨v, hv, hr⟩ := h'.fr t x hx
   exact ⟨v, hv, hconv _ _ hr⟩
  have t := h'.tr
  refine ⟨t.os, t.tape, t.output, t.size, t.blk, t.own, fun i a1 a2 e1 e2 => ?_, fun i a1 a2 e1 e2 => ?_, fun i s1 s2 a1 a2 e1 e2 hl => ?_, fun i s1 s2 a1 a2 e1 e2 => ?_, fun i a2 e2 => ?_, fun i a2 e2 => ?_, fun i s1 a2 e2 => ?_⟩
  all_goals by_cases e : i = k2
  ·subst e; exact t.box i _ _ e1 hk2'
  ·rw [hlk i e] at e2; exact t.box i _ _ e1 e2
  ·subst e; rw [hlk2] at e2; cases e2
  ·rw [hlk i e] at e2; exact t.map i _ _ e1 e2
  ·subst e; rw [hlk2] at e2; cases e2
  ·rw [hlk i e] at e2; exact t.row i _ _ _ _ e1 e2 hl
  ·subst e; rw [hlk2] at e2; cases e2
  ·rw [hlk i e] at e2; exact t.grow i _ _ _ _ e1 e2
  ·subst e; exact t.kindB i _ hk2'
  ·rw [hlk i e] at e2; exact t.kindB i _ e2
  ·subst e; rw [hlk2] at e2; cases e2
  ·rw [hlk i e] at e2; exact t.kindM i _ e2
  ·subst e; rw [hlk2] at e2; cases e2
  rw [hlk i e] at e2; exact t.kindR i _ _ e2
theorem Tr.freezeCell {x : Code} {k k2 j n : Nat} {s : RT} {els : List (List PV)} {cs : List IV} (hk : look hp k = some (.row s els)) (hn : els.length = n) (hk2 : look hp k2 = some (.box cs)) (hj : cs[j]? = some (.sl k n)) (hne : k ≠ k2)
    (h : Tr P c x fr (look ((k2, some (.box (cs.set j (.pv (.seq els))))) :: (k, none) :: hp)) Q) : Tr P c x fr (look hp) Q := fun _ w a ha => h _ w a (ha.freezeCell hk hn hk2 hj hne)
theorem Tr.growCell {x : Code} {k k2 j : Nat} {cs : List IV} (s : RT) (hk2 : look hp k2 = some (.box cs)) (hj : cs[j]? = some (.pv (.val (.slice none 0 0)))) (hσ : look hp k = none) (hc : c.σ k = none) (hfr : nmFr k fr = false) (hhp : nmHp k hp = false)
    (h : Tr P c x fr (look ((k2, some (.box (cs.set j (.sl k 0)))) :: (k, some (.row s [])) :: hp)) Q) : Tr P c x fr (look hp) Q := by
  intro ρ w a ha
  obtain ⟨hk, h'⟩ := ha.ghost hσ hc hfr hhp s
  refine h ρ w a ?_
  have hne : k ≠ k2 := fun e => by subst e; rw [hσ] at hk2; cases hk2
  have hk2' : look ((k, some (.row s [])) :: hp) k2 = some (.box cs) := zr4 hne hk2
  have hlk : ∀ i, i ≠ k2 -> look ((k2, some (.box (cs.set j (.sl k 0)))) :: (k, some (.row s [])) :: hp) i = look ((k, some (.row s [])) :: hp) i := fun i hi => z4i (Ne.symm hi)
  have hlk2 : look ((k2, some (.box (cs.set j (.sl k 0)))) :: (k, some (.row s [])) :: hp) k2 = some (.box (cs.set j (.sl k 0))) := z4h
  have hconv : ∀ x v, RepI c.F ρ (look ((k, some (.row s [])) :: hp)) w x v -> RepI c.F ρ (look ((k2, some (.box (cs.set j (.sl k 0)))) :: (k, some (.row s [])) :: hp)) w x v := by
    intro x v hx
    induction hx with
    | pv p v hp => exact .pv p v hp
    | ptr i off v hi =>
      refine .ptr i off v fun cs' h2 => ?_
      by_cases e : i = k2
      ·subst e; exact hi _ hk2'
      rw [hlk i e] at h2; exact hi _ h2
    | sl i len v hi =>
      refine .sl i len v fun s' els' h2 => ?_
      by_cases e : i = k2
      ·subst e; rw [hlk2] at h2; cases h2
      rw [hlk i e] at h2; exact hi _ _ h2
    | rpt i len off v hi =>
      refine .rpt i len off v fun s' els' h2 => ?_
      by_cases e : i = k2
      ·subst e; rw [hlk2] at h2; cases h2
      rw [hlk i e] at h2; exact hi _ _ h2
    | mp i v hi =>
      refine .mp i v fun es h2 => ?_
      by_cases e : i = k2
      ·subst e; rw [hlk2] at h2; cases h2
      rw [hlk i e] at h2; exact hi _ h2
    | agg cs vs u hl hv _ ih => exact .agg cs vs u hl hv ih
    | tup cs vs u hl hv _ ih => exact .tup cs vs u hl hv ih
    | fn f xs ys vs ws u t hl hv _ hl' hv' _ ih ih' => exact .fn f xs ys vs ws u t hl hv ih hl' hv' ih'
  refine ⟨⟨h'.rel.inj, h'.rel.apart, h'.rel.old, fun i b cc hi => ?_, fun i o h1 h2 => ?_⟩, fun t x hx => ?_, ?_, h'.df, h'.sz⟩
  ·obtain ⟨o1, h1, h2⟩ := h'.rel.obj i b cc hi
   by_cases e : i = k2
   ·subst e
    rw [hk2'] at h1; cases h1
    refine ⟨_, hlk2, ?_⟩
    cases h2 with
    | box _ e' r u h5 hl hv hr =>
      refine .box _ e' r u h5 (by simpa using hl) (fun q x hq => ?_) fun q x hq => ?_
      ·by_cases eq : q = j
       ·subst eq; exact hv q _ hj
       rw [List.getElem?_set_ne (Ne.symm eq)] at hq; exact hv q x hq
      by_cases eq : q = j
      ·subst eq
       have hlt : q < cs.length := (List.getElem?_eq_some_iff.1 hj).1
       rw [List.getElem?_set_self hlt] at hq; cases hq
       have hnil := (hr q _ hj).val
       rw [hnil]
       refine .sl _ _ _ fun s1 els1 h1 => ?_
       rw [hlk _ hne, z4h] at h1
       cases h1
       exact ⟨Nat.zero_le _, fun _ => .inr ⟨hk, rfl, rfl⟩⟩
      rw [List.getElem?_set_ne (Ne.symm eq)] at hq; exact hconv _ _ (hr q x hq)
   refine ⟨o1, (hlk i e).trans h1, ?_⟩
   cases h2 with
   | box cs' e' r u h hl hv hr => exact .box cs' e' r u h hl hv fun q x hq => hconv _ _ (hr q x hq)
   | row s' els' r u h hs hl hm hw hv hr => exact .row s' els' r u h hs hl hm hw hv hr
   | map es r t u h hl hv hr => exact .map es r t u h hl hv hr
  ·by_cases e : i = k2
   ·subst e
    obtain ⟨s', h3⟩ := h'.rel.real i _ hk2' h2
    cases h3
   rw [hlk i e] at h1; exact h'.rel.real i o h1 h2
  ·obtain ⟨v, hv, hr⟩ := h'.fr t x hx
   exact ⟨v, hv, hconv _ _ hr⟩
  have t := h'.tr
  refine ⟨t.os, t.tape, t.output, t.size, t.blk, t.own, fun i a1 a2 e1 e2 => ?_, fun i a1 a2 e1 e2 => ?_, fun i s1 s2 a1 a2 e1 e2 hl => ?_, fun i s1 s2 a1 a2 e1 e2 => ?_, fun i a2 e2 => ?_, fun i a2 e2 => ?_, fun i s1 a2 e2 => ?_⟩
  all_goals by_cases e : i = k2
  ·subst e; exact t.box i _ _ e1 hk2'
  ·rw [hlk i e] at e2; exact t.box i _ _ e1 e2
  ·subst e; rw [hlk2] at e2; cases e2
  ·rw [hlk i e] at e2; exact t.map i _ _ e1 e2
  ·subst e; rw [hlk2] at e2; cases e2
  ·rw [hlk i e] at e2; exact t.row i _ _ _ _ e1 e2 hl
  ·subst e; rw [hlk2] at e2; cases e2
  ·rw [hlk i e] at e2; exact t.grow i _ _ _ _ e1 e2
  ·subst e; exact t.kindB i _ hk2'
  ·rw [hlk i e] at e2; exact t.kindB i _ e2
  ·subst e; rw [hlk2] at e2; cases e2
  ·rw [hlk i e] at e2; exact t.kindM i _ e2
  ·subst e; rw [hlk2] at e2; cases e2
  rw [hlk i e] at e2; exact t.kindR i _ _ e2
theorem tup2_sub {F : Nat -> Prop} {ρ : Loc} {w : World} {x x' y : IV} {v : Value} (hx : ∀ v, RepI F ρ σ w x v -> RepI F ρ σ w x' v) (h : RepI F ρ σ w (.tup [x, y]) v) : RepI F ρ σ w (.tup [x', y]) v := by
  cases h with
  | tup _ vs u hl hv hr =>
    refine .tup _ vs u hl (fun j z hj => ?_) fun j z hj => ?_
    ·match j, hj with
     | 0, _ => exact hv 0 x rfl
     | 1, hj => exact hv 1 y rfl
     | j + 2, hj => simp at hj
    match j, hj with
    | 0, hj => cases hj; exact hx _ (hr 0 x rfl)
    | 1, hj => cases hj; exact hr 1 y rfl
    | j + 2, hj => simp at hj
end
section
variable {P : Program} {c : Cx} {fr : Fr} {hp : Hp} {Q : Exit -> Fr -> Heap' -> Prop}
def ISub (x y : IV) : Prop := ∀ F ρ σ w v, RepI F ρ σ w x v -> RepI F ρ σ w y v
theorem ISub.refl (x : IV) : ISub x x := fun _ _ _ _ _ h => h
theorem ISub.pv {p q : PV} (h : PSub p q) : ISub (.pv p) (.pv q) := fun _ _ _ _ _ hv => z42 h hv
def ISubs : List IV -> List IV -> Prop
  | [], [] => True
  | x :: xs, y :: ys => ISub x y /\ ISubs xs ys
  | _, _ => False
theorem ISubs.length : ∀ {xs ys : List IV}, ISubs xs ys -> xs.length = ys.length
  | [], [], _ => rfl
  | _ :: _, _ :: _, h => congrArg (· + 1) (ISubs.length h.2)
theorem ISubs.at : ∀ {xs ys : List IV}, ISubs xs ys -> ∀ {j : Nat} {y : IV}, ys[j]? = some y -> ∃ x, xs[j]? = some x /\ ISub x y
  | [], [], _, _, _, hj => by simp at hj
  | x :: xs, y :: ys, h, 0, y', hj => by simp at hj; subst hj; exact ⟨x, rfl, h.1⟩
  | x :: xs, y :: ys, h, j + 1, y', hj => by simpa using ISubs.at h.2 (by simpa using hj)
theorem All.subBox {ρ : Loc} {w : World} {a : Act} {k : Nat} {cs cs' : List IV} (h : All c ρ (look hp) w fr a) (hk : look hp k = some (.box cs)) (hs : ISubs cs cs') (hR : ¬ c.R k) : All c ρ (look ((k, some (.box cs')) :: hp)) w fr a := by
  cases hρ : ρ k with
  | none => obtain ⟨s, hs⟩ := h.rel.real k _ hk hρ; cases hs
  | some bc =>
    obtain ⟨b, cc⟩ := bc
    obtain ⟨o, ho, hro⟩ := h.rel.obj k b cc hρ
    rw [hk] at ho; cases ho
    refine h.write hρ hk trivial hR rfl rfl rfl rfl (fun _ _ => rfl) fun hI _ => ?_
    cases hro with
    | box _ e a' u h1 h2 h3 h4 =>
      refine .box _ e a' u h1 (h2.trans hs.length) (fun j x hj => ?_) fun j x hj => ?_
      ·obtain ⟨x0, h5, _⟩ := hs.at hj
       exact h3 j x0 h5
      obtain ⟨x0, h5, h6⟩ := hs.at hj
      exact h6 _ _ _ _ _ (hI _ _ (h4 j x0 h5))
theorem Tr.subBox {x : Code} {k : Nat} {cs : List IV} (cs' : List IV) (hk : look hp k = some (.box cs)) (hs : ISubs cs cs') (hR : ¬ c.R k) (h : Tr P c x fr (look ((k, some (.box cs')) :: hp)) Q) : Tr P c x fr (look hp) Q :=
  fun _ w a ha => h _ w a (ha.subBox hk hs hR)
theorem Tr.cutR {x : Code} {σ σ' : Heap'} {fr' : Fr} (h : Tr P c x fr σ (fun e fr1 σ1 => (e = .normal /\ Sub σ1 fr1 fr' /\ σ1 = σ') ∨ (e ≠ .normal /\ Q e fr1 σ1))) (h2 : Q .normal fr' σ') : Tr P c x fr σ Q :=
  fun ρ w a ha => wp_mono (h ρ w a ha) fun e a w ⟨ρ1, σ1, fr1, ha1, hq⟩ => by
    rcases hq with ⟨he, hs, hσ⟩ | ⟨_, hq⟩
    ·subst he; subst hσ
     exact ⟨ρ1, σ1, fr', ha1.sub hs, h2⟩
    exact ⟨ρ1, σ1, fr1, ha1, hq⟩
theorem ok_max {R1 : Nat -> Prop} {o : Oper} {σ : Heap'} {t : TypeId} {x y : Operand} {k : IntKind} {m n : Int} (ho : o.op = .call { callee := .builtin .max, args := #[x, y], argTypes := #[t, t] }) (hx : fr.ev x = some (.pv (.val (.int k m)))) (hy : fr.ev y = some (.pv (.val (.int k n)))) :
    OkV P c R1 o fr σ (.pv (.val (.int k (if m < n then n else m)))) := by
  intro ρ w a h
  refine ⟨.int k (if m < n then n else m), fun w2 _ => ?_, z2s _⟩
  simp [execOp, ho, z16 h hx, z16 h hy, resolve, invoke, builtin, Builtin.max_, Builtin.max2]
end
theorem y23 (x : Nd) : SC Tryz.prog 100 [.pv (ndv x)] [] (fun _ => False) (iBool (z0m x)) [] := by
  refine SC.of Tryz.func100 rfl (lb rfl) fun F ρ w => ?_
  refine tQ <| tG <| cE rfl (z8m (k := 101) rfl rfl rfl rfl rfl rfl) <| sm 1 rfl <| nL <| tQ <| tG <| cE rfl (z5b (k := 104) rfl rfl rfl rfl rfl) <| c0 (zn6 rfl rfl rfl rfl rfl ((fun h => h)) Tryz.underlying60 uT3 rfl dC0) <| c0 (zn6 rfl rfl rfl rfl rfl ((fun h => h)) Tryz.underlying60 uT3 rfl dC0) <| sm 3 rfl <| cV rfl (zb3 rfl rfl rfl rfl Tryz.underlying60 uT3 rfl dC0 tZ3 trivial) ?_
  have hkn : ((z3t (.int .i64 x.kind) (mput (.int .i64 11) (vInt 1) (mput (.int .i64 10) (vInt 2) []))).getD (.val (.int .i64 0))) = vInt (r8kn x) := by
    by_cases h10 : x.kind = 10
    ·simp [h10, mput, keyB, z3t, r8kn]
    by_cases h11 : x.kind = 11
    ·simp [h11, mput, keyB, z3t, r8kn]
    simp [h10, h11, mput, keyB, z3t, r8kn]
  refine WL.sub (Sub.of (fr' := [(8, iInt (r8kn x)), (1, .ptr 101 0)]) ⟨congrArg (fun p => some (IV.pv p)) hkn, rfl, trivial⟩) <| sm 1 rfl <| nL <| tQ <| tQ <| Tr.drop (k := 104) <| tG <| sm 2 rfl <| nL ?_
  refine Tr.cut (fr' := [(3, iInt (r8kn x)), (1, .ptr 101 0)]) (σ' := look [(101, some (.box [.pv (vInt x.kind), .pv (vInt (if r8op x then 0 else x.op)), .pv (vInt (if z1j x then 0 else x.n)), .pv (vStr (if z0w x then ⟨#[]⟩ else x.name)), .pv (ints x.args), .pv (ints x.outs), .pv (if x.kind == 11 then .val (.slice none 0 0) else ints x.params), .pv (kids x.kids)]))]) ?_ ?_
  ·refine tBk <| tQ <| tQ <| tG <| sm 2 rfl <| nL ?_
   refine tC rfl (fun hc11 => ?_) fun hc11 => ?_
   ·refine tSk ?_
    refine tC rfl (fun hc11 => ?_) fun hc11 => ?_
    ·refine tG <| sm 1 rfl <| c0 (sBx rfl rfl rfl rfl ((fun h => h)) tS3 (rfl) (lb rfl)) <| nL ?_
     refine ⟨rfl, Sub.of ⟨rfl, rfl, trivial⟩, funext fun j => ?_⟩
     by_cases h101 : 101 = j
     ·subst h101; exact congrArg (fun z => some (HO.box z)) (by simp_all [r8op, z1j, z0w])
     by_cases h104 : 104 = j
     ·subst h104; rfl
     simp [look, up, z00 h101, z00 h104]
    refine tQ <| tQ <| tG <| sm 2 rfl <| nL ?_
    refine tC rfl (fun hc15 => ?_) fun hc15 => ?_
    ·refine tSk ?_
     refine tC rfl (fun hc15 => ?_) fun hc15 => ?_
     ·refine tG <| sm 1 rfl <| c0 (sBx rfl rfl rfl rfl ((fun h => h)) tS3 (rfl) (lb rfl)) <| nL ?_
      refine ⟨rfl, Sub.of ⟨rfl, rfl, trivial⟩, funext fun j => ?_⟩
      by_cases h101 : 101 = j
      ·subst h101; exact congrArg (fun z => some (HO.box z)) (by simp_all [r8op, z1j, z0w])
      by_cases h104 : 104 = j
      ·subst h104; rfl
      simp [look, up, z00 h101, z00 h104]
     refine tQ <| tQ <| tG <| sm 2 rfl <| nL ?_
     refine tC rfl (fun hc19 => ?_) fun hc19 => ?_
     ·refine tSk ?_
      refine tC rfl (fun hc19 => ?_) fun hc19 => ?_
      ·refine tG <| sm 1 rfl <| c0 (sBx rfl rfl rfl rfl ((fun h => h)) tS9 (rfl) (lb rfl)) <| nL ?_
       refine ⟨rfl, Sub.of ⟨rfl, rfl, trivial⟩, funext fun j => ?_⟩
       by_cases h101 : 101 = j
       ·subst h101; exact congrArg (fun z => some (HO.box z)) (by simp_all [r8op, z1j, z0w])
       by_cases h104 : 104 = j
       ·subst h104; rfl
       simp [look, up, z00 h101, z00 h104]
      refine tQ <| tG <| sm 2 rfl <| nL ?_
      refine tC rfl (fun hc24 => ?_) fun hc24 => ?_
      ·refine tG <| sm 1 rfl <| c0 (sBx rfl rfl rfl rfl ((fun h => h)) tS35 (rfl) (lb rfl)) <| nL ?_
       refine ⟨rfl, Sub.of ⟨rfl, rfl, trivial⟩, funext fun j => ?_⟩
       by_cases h101 : 101 = j
       ·subst h101; exact congrArg (fun z => some (HO.box z)) (by simp_all [r8op, z1j, z0w])
       by_cases h104 : 104 = j
       ·subst h104; rfl
       simp [look, up, z00 h101, z00 h104]
      refine tSk ?_
      refine ⟨rfl, Sub.of ⟨rfl, rfl, trivial⟩, funext fun j => ?_⟩
      by_cases h101 : 101 = j
      ·subst h101; exact congrArg (fun z => some (HO.box z)) (by simp_all [r8op, z1j, z0w])
      by_cases h104 : 104 = j
      ·subst h104; rfl
      simp [look, up, z00 h101, z00 h104]
     refine tQ <| tG <| sm 2 rfl <| nL ?_
     refine tC rfl (fun hc19 => ?_) fun hc19 => ?_
     ·refine tSk ?_
      refine tC rfl (fun hc19 => ?_) fun hc19 => ?_
      ·refine tG <| sm 1 rfl <| c0 (sBx rfl rfl rfl rfl ((fun h => h)) tS9 (rfl) (lb rfl)) <| nL ?_
       refine ⟨rfl, Sub.of ⟨rfl, rfl, trivial⟩, funext fun j => ?_⟩
       by_cases h101 : 101 = j
       ·subst h101; exact congrArg (fun z => some (HO.box z)) (by simp_all [r8op, z1j, z0w])
       by_cases h104 : 104 = j
       ·subst h104; rfl
       simp [look, up, z00 h101, z00 h104]
      refine tQ <| tG <| sm 2 rfl <| nL ?_
      refine tC rfl (fun hc24 => ?_) fun hc24 => ?_
      ·refine tG <| sm 1 rfl <| c0 (sBx rfl rfl rfl rfl ((fun h => h)) tS35 (rfl) (lb rfl)) <| nL ?_
       refine ⟨rfl, Sub.of ⟨rfl, rfl, trivial⟩, funext fun j => ?_⟩
       by_cases h101 : 101 = j
       ·subst h101; exact congrArg (fun z => some (HO.box z)) (by simp_all [r8op, z1j, z0w])
       by_cases h104 : 104 = j
       ·subst h104; rfl
       simp [look, up, z00 h101, z00 h104]
      refine tSk ?_
      refine ⟨rfl, Sub.of ⟨rfl, rfl, trivial⟩, funext fun j => ?_⟩
      by_cases h101 : 101 = j
      ·subst h101; exact congrArg (fun z => some (HO.box z)) (by simp_all [r8op, z1j, z0w])
      by_cases h104 : 104 = j
      ·subst h104; rfl
      simp [look, up, z00 h101, z00 h104]
     refine tG <| sm 2 rfl <| nL ?_
     refine tC rfl (fun hc19 => ?_) fun hc19 => ?_
     ·refine tG <| sm 1 rfl <| c0 (sBx rfl rfl rfl rfl ((fun h => h)) tS9 (rfl) (lb rfl)) <| nL ?_
      refine ⟨rfl, Sub.of ⟨rfl, rfl, trivial⟩, funext fun j => ?_⟩
      by_cases h101 : 101 = j
      ·subst h101; exact congrArg (fun z => some (HO.box z)) (by simp_all [r8op, z1j, z0w])
      by_cases h104 : 104 = j
      ·subst h104; rfl
      simp [look, up, z00 h101, z00 h104]
     refine tQ <| tG <| sm 2 rfl <| nL ?_
     refine tC rfl (fun hc24 => ?_) fun hc24 => ?_
     ·refine tG <| sm 1 rfl <| c0 (sBx rfl rfl rfl rfl ((fun h => h)) tS35 (rfl) (lb rfl)) <| nL ?_
      refine ⟨rfl, Sub.of ⟨rfl, rfl, trivial⟩, funext fun j => ?_⟩
      by_cases h101 : 101 = j
      ·subst h101; exact congrArg (fun z => some (HO.box z)) (by simp_all [r8op, z1j, z0w])
      by_cases h104 : 104 = j
      ·subst h104; rfl
      simp [look, up, z00 h101, z00 h104]
     refine tSk ?_
     refine ⟨rfl, Sub.of ⟨rfl, rfl, trivial⟩, funext fun j => ?_⟩
     by_cases h101 : 101 = j
     ·subst h101; exact congrArg (fun z => some (HO.box z)) (by simp_all [r8op, z1j, z0w])
     by_cases h104 : 104 = j
     ·subst h104; rfl
     simp [look, up, z00 h101, z00 h104]
    refine tG <| sm 2 rfl <| nL ?_
    refine tC rfl (fun hc15 => ?_) fun hc15 => ?_
    ·refine tG <| sm 1 rfl <| c0 (sBx rfl rfl rfl rfl ((fun h => h)) tS3 (rfl) (lb rfl)) <| nL ?_
     refine ⟨rfl, Sub.of ⟨rfl, rfl, trivial⟩, funext fun j => ?_⟩
     by_cases h101 : 101 = j
     ·subst h101; exact congrArg (fun z => some (HO.box z)) (by simp_all [r8op, z1j, z0w])
     by_cases h104 : 104 = j
     ·subst h104; rfl
     simp [look, up, z00 h101, z00 h104]
    refine tQ <| tQ <| tG <| sm 2 rfl <| nL ?_
    refine tC rfl (fun hc19 => ?_) fun hc19 => ?_
    ·refine tSk ?_
     refine tC rfl (fun hc19 => ?_) fun hc19 => ?_
     ·refine tG <| sm 1 rfl <| c0 (sBx rfl rfl rfl rfl ((fun h => h)) tS9 (rfl) (lb rfl)) <| nL ?_
      refine ⟨rfl, Sub.of ⟨rfl, rfl, trivial⟩, funext fun j => ?_⟩
      by_cases h101 : 101 = j
      ·subst h101; exact congrArg (fun z => some (HO.box z)) (by simp_all [r8op, z1j, z0w])
      by_cases h104 : 104 = j
      ·subst h104; rfl
      simp [look, up, z00 h101, z00 h104]
     refine tQ <| tG <| sm 2 rfl <| nL ?_
     refine tC rfl (fun hc24 => ?_) fun hc24 => ?_
     ·refine tG <| sm 1 rfl <| c0 (sBx rfl rfl rfl rfl ((fun h => h)) tS35 (rfl) (lb rfl)) <| nL ?_
      refine ⟨rfl, Sub.of ⟨rfl, rfl, trivial⟩, funext fun j => ?_⟩
      by_cases h101 : 101 = j
      ·subst h101; exact congrArg (fun z => some (HO.box z)) (by simp_all [r8op, z1j, z0w])
      by_cases h104 : 104 = j
      ·subst h104; rfl
      simp [look, up, z00 h101, z00 h104]
     refine tSk ?_
     refine ⟨rfl, Sub.of ⟨rfl, rfl, trivial⟩, funext fun j => ?_⟩
     by_cases h101 : 101 = j
     ·subst h101; exact congrArg (fun z => some (HO.box z)) (by simp_all [r8op, z1j, z0w])
     by_cases h104 : 104 = j
     ·subst h104; rfl
     simp [look, up, z00 h101, z00 h104]
    refine tQ <| tG <| sm 2 rfl <| nL ?_
    refine tC rfl (fun hc19 => ?_) fun hc19 => ?_
    ·refine tSk ?_
     refine tC rfl (fun hc19 => ?_) fun hc19 => ?_
     ·refine tG <| sm 1 rfl <| c0 (sBx rfl rfl rfl rfl ((fun h => h)) tS9 (rfl) (lb rfl)) <| nL ?_
      refine ⟨rfl, Sub.of ⟨rfl, rfl, trivial⟩, funext fun j => ?_⟩
      by_cases h101 : 101 = j
      ·subst h101; exact congrArg (fun z => some (HO.box z)) (by simp_all [r8op, z1j, z0w])
      by_cases h104 : 104 = j
      ·subst h104; rfl
      simp [look, up, z00 h101, z00 h104]
     refine tQ <| tG <| sm 2 rfl <| nL ?_
     refine tC rfl (fun hc24 => ?_) fun hc24 => ?_
     ·refine tG <| sm 1 rfl <| c0 (sBx rfl rfl rfl rfl ((fun h => h)) tS35 (rfl) (lb rfl)) <| nL ?_
      refine ⟨rfl, Sub.of ⟨rfl, rfl, trivial⟩, funext fun j => ?_⟩
      by_cases h101 : 101 = j
      ·subst h101; exact congrArg (fun z => some (HO.box z)) (by simp_all [r8op, z1j, z0w])
      by_cases h104 : 104 = j
      ·subst h104; rfl
      simp [look, up, z00 h101, z00 h104]
     refine tSk ?_
     refine ⟨rfl, Sub.of ⟨rfl, rfl, trivial⟩, funext fun j => ?_⟩
     by_cases h101 : 101 = j
     ·subst h101; exact congrArg (fun z => some (HO.box z)) (by simp_all [r8op, z1j, z0w])
     by_cases h104 : 104 = j
     ·subst h104; rfl
     simp [look, up, z00 h101, z00 h104]
    refine tG <| sm 2 rfl <| nL ?_
    refine tC rfl (fun hc19 => ?_) fun hc19 => ?_
    ·refine tG <| sm 1 rfl <| c0 (sBx rfl rfl rfl rfl ((fun h => h)) tS9 (rfl) (lb rfl)) <| nL ?_
     refine ⟨rfl, Sub.of ⟨rfl, rfl, trivial⟩, funext fun j => ?_⟩
     by_cases h101 : 101 = j
     ·subst h101; exact congrArg (fun z => some (HO.box z)) (by simp_all [r8op, z1j, z0w])
     by_cases h104 : 104 = j
     ·subst h104; rfl
     simp [look, up, z00 h101, z00 h104]
    refine tQ <| tG <| sm 2 rfl <| nL ?_
    refine tC rfl (fun hc24 => ?_) fun hc24 => ?_
    ·refine tG <| sm 1 rfl <| c0 (sBx rfl rfl rfl rfl ((fun h => h)) tS35 (rfl) (lb rfl)) <| nL ?_
     refine ⟨rfl, Sub.of ⟨rfl, rfl, trivial⟩, funext fun j => ?_⟩
     by_cases h101 : 101 = j
     ·subst h101; exact congrArg (fun z => some (HO.box z)) (by simp_all [r8op, z1j, z0w])
     by_cases h104 : 104 = j
     ·subst h104; rfl
     simp [look, up, z00 h101, z00 h104]
    refine tSk ?_
    refine ⟨rfl, Sub.of ⟨rfl, rfl, trivial⟩, funext fun j => ?_⟩
    by_cases h101 : 101 = j
    ·subst h101; exact congrArg (fun z => some (HO.box z)) (by simp_all [r8op, z1j, z0w])
    by_cases h104 : 104 = j
    ·subst h104; rfl
    simp [look, up, z00 h101, z00 h104]
   refine tG <| sm 2 rfl <| nL ?_
   refine tC rfl (fun hc11 => ?_) fun hc11 => ?_
   ·refine tG <| sm 1 rfl <| c0 (sBx rfl rfl rfl rfl ((fun h => h)) tS3 (rfl) (lb rfl)) <| nL ?_
    refine ⟨rfl, Sub.of ⟨rfl, rfl, trivial⟩, funext fun j => ?_⟩
    by_cases h101 : 101 = j
    ·subst h101; exact congrArg (fun z => some (HO.box z)) (by simp_all [r8op, z1j, z0w])
    by_cases h104 : 104 = j
    ·subst h104; rfl
    simp [look, up, z00 h101, z00 h104]
   refine tQ <| tQ <| tG <| sm 2 rfl <| nL ?_
   refine tC rfl (fun hc15 => ?_) fun hc15 => ?_
   ·refine tSk ?_
    refine tC rfl (fun hc15 => ?_) fun hc15 => ?_
    ·refine tG <| sm 1 rfl <| c0 (sBx rfl rfl rfl rfl ((fun h => h)) tS3 (rfl) (lb rfl)) <| nL ?_
     refine ⟨rfl, Sub.of ⟨rfl, rfl, trivial⟩, funext fun j => ?_⟩
     by_cases h101 : 101 = j
     ·subst h101; exact congrArg (fun z => some (HO.box z)) (by simp_all [r8op, z1j, z0w])
     by_cases h104 : 104 = j
     ·subst h104; rfl
     simp [look, up, z00 h101, z00 h104]
    refine tQ <| tQ <| tG <| sm 2 rfl <| nL ?_
    refine tC rfl (fun hc19 => ?_) fun hc19 => ?_
    ·refine tSk ?_
     refine tC rfl (fun hc19 => ?_) fun hc19 => ?_
     ·refine tG <| sm 1 rfl <| c0 (sBx rfl rfl rfl rfl ((fun h => h)) tS9 (rfl) (lb rfl)) <| nL ?_
      refine ⟨rfl, Sub.of ⟨rfl, rfl, trivial⟩, funext fun j => ?_⟩
      by_cases h101 : 101 = j
      ·subst h101; exact congrArg (fun z => some (HO.box z)) (by simp_all [r8op, z1j, z0w])
      by_cases h104 : 104 = j
      ·subst h104; rfl
      simp [look, up, z00 h101, z00 h104]
     refine tQ <| tG <| sm 2 rfl <| nL ?_
     refine tC rfl (fun hc24 => ?_) fun hc24 => ?_
     ·refine tG <| sm 1 rfl <| c0 (sBx rfl rfl rfl rfl ((fun h => h)) tS35 (rfl) (lb rfl)) <| nL ?_
      refine ⟨rfl, Sub.of ⟨rfl, rfl, trivial⟩, funext fun j => ?_⟩
      by_cases h101 : 101 = j
      ·subst h101; exact congrArg (fun z => some (HO.box z)) (by simp_all [r8op, z1j, z0w])
      by_cases h104 : 104 = j
      ·subst h104; rfl
      simp [look, up, z00 h101, z00 h104]
     refine tSk ?_
     refine ⟨rfl, Sub.of ⟨rfl, rfl, trivial⟩, funext fun j => ?_⟩
     by_cases h101 : 101 = j
     ·subst h101; exact congrArg (fun z => some (HO.box z)) (by simp_all [r8op, z1j, z0w])
     by_cases h104 : 104 = j
     ·subst h104; rfl
     simp [look, up, z00 h101, z00 h104]
    refine tQ <| tG <| sm 2 rfl <| nL ?_
    refine tC rfl (fun hc19 => ?_) fun hc19 => ?_
    ·refine tSk ?_
     refine tC rfl (fun hc19 => ?_) fun hc19 => ?_
     ·refine tG <| sm 1 rfl <| c0 (sBx rfl rfl rfl rfl ((fun h => h)) tS9 (rfl) (lb rfl)) <| nL ?_
      refine ⟨rfl, Sub.of ⟨rfl, rfl, trivial⟩, funext fun j => ?_⟩
      by_cases h101 : 101 = j
      ·subst h101; exact congrArg (fun z => some (HO.box z)) (by simp_all [r8op, z1j, z0w])
      by_cases h104 : 104 = j
      ·subst h104; rfl
      simp [look, up, z00 h101, z00 h104]
     refine tQ <| tG <| sm 2 rfl <| nL ?_
     refine tC rfl (fun hc24 => ?_) fun hc24 => ?_
     ·refine tG <| sm 1 rfl <| c0 (sBx rfl rfl rfl rfl ((fun h => h)) tS35 (rfl) (lb rfl)) <| nL ?_
      refine ⟨rfl, Sub.of ⟨rfl, rfl, trivial⟩, funext fun j => ?_⟩
      by_cases h101 : 101 = j
      ·subst h101; exact congrArg (fun z => some (HO.box z)) (by simp_all [r8op, z1j, z0w])
      by_cases h104 : 104 = j
      ·subst h104; rfl
      simp [look, up, z00 h101, z00 h104]
     refine tSk ?_
     refine ⟨rfl, Sub.of ⟨rfl, rfl, trivial⟩, funext fun j => ?_⟩
     by_cases h101 : 101 = j
     ·subst h101; exact congrArg (fun z => some (HO.box z)) (by simp_all [r8op, z1j, z0w])
     by_cases h104 : 104 = j
     ·subst h104; rfl
     simp [look, up, z00 h101, z00 h104]
    refine tG <| sm 2 rfl <| nL ?_
    refine tC rfl (fun hc19 => ?_) fun hc19 => ?_
    ·refine tG <| sm 1 rfl <| c0 (sBx rfl rfl rfl rfl ((fun h => h)) tS9 (rfl) (lb rfl)) <| nL ?_
     refine ⟨rfl, Sub.of ⟨rfl, rfl, trivial⟩, funext fun j => ?_⟩
     by_cases h101 : 101 = j
     ·subst h101; exact congrArg (fun z => some (HO.box z)) (by simp_all [r8op, z1j, z0w])
     by_cases h104 : 104 = j
     ·subst h104; rfl
     simp [look, up, z00 h101, z00 h104]
    refine tQ <| tG <| sm 2 rfl <| nL ?_
    refine tC rfl (fun hc24 => ?_) fun hc24 => ?_
    ·refine tG <| sm 1 rfl <| c0 (sBx rfl rfl rfl rfl ((fun h => h)) tS35 (rfl) (lb rfl)) <| nL ?_
     refine ⟨rfl, Sub.of ⟨rfl, rfl, trivial⟩, funext fun j => ?_⟩
     by_cases h101 : 101 = j
     ·subst h101; exact congrArg (fun z => some (HO.box z)) (by simp_all [r8op, z1j, z0w])
     by_cases h104 : 104 = j
     ·subst h104; rfl
     simp [look, up, z00 h101, z00 h104]
    refine tSk ?_
    refine ⟨rfl, Sub.of ⟨rfl, rfl, trivial⟩, funext fun j => ?_⟩
    by_cases h101 : 101 = j
    ·subst h101; exact congrArg (fun z => some (HO.box z)) (by simp_all [r8op, z1j, z0w])
    by_cases h104 : 104 = j
    ·subst h104; rfl
    simp [look, up, z00 h101, z00 h104]
   refine tG <| sm 2 rfl <| nL ?_
   refine tC rfl (fun hc15 => ?_) fun hc15 => ?_
   ·refine tG <| sm 1 rfl <| c0 (sBx rfl rfl rfl rfl ((fun h => h)) tS3 (rfl) (lb rfl)) <| nL ?_
    refine ⟨rfl, Sub.of ⟨rfl, rfl, trivial⟩, funext fun j => ?_⟩
    by_cases h101 : 101 = j
    ·subst h101; exact congrArg (fun z => some (HO.box z)) (by simp_all [r8op, z1j, z0w])
    by_cases h104 : 104 = j
    ·subst h104; rfl
    simp [look, up, z00 h101, z00 h104]
   refine tQ <| tQ <| tG <| sm 2 rfl <| nL ?_
   refine tC rfl (fun hc19 => ?_) fun hc19 => ?_
   ·refine tSk ?_
    refine tC rfl (fun hc19 => ?_) fun hc19 => ?_
    ·refine tG <| sm 1 rfl <| c0 (sBx rfl rfl rfl rfl ((fun h => h)) tS9 (rfl) (lb rfl)) <| nL ?_
     refine ⟨rfl, Sub.of ⟨rfl, rfl, trivial⟩, funext fun j => ?_⟩
     by_cases h101 : 101 = j
     ·subst h101; exact congrArg (fun z => some (HO.box z)) (by simp_all [r8op, z1j, z0w])
     by_cases h104 : 104 = j
     ·subst h104; rfl
     simp [look, up, z00 h101, z00 h104]
    refine tQ <| tG <| sm 2 rfl <| nL ?_
    refine tC rfl (fun hc24 => ?_) fun hc24 => ?_
    ·refine tG <| sm 1 rfl <| c0 (sBx rfl rfl rfl rfl ((fun h => h)) tS35 (rfl) (lb rfl)) <| nL ?_
     refine ⟨rfl, Sub.of ⟨rfl, rfl, trivial⟩, funext fun j => ?_⟩
     by_cases h101 : 101 = j
     ·subst h101; exact congrArg (fun z => some (HO.box z)) (by simp_all [r8op, z1j, z0w])
     by_cases h104 : 104 = j
     ·subst h104; rfl
     simp [look, up, z00 h101, z00 h104]
    refine tSk ?_
    refine ⟨rfl, Sub.of ⟨rfl, rfl, trivial⟩, funext fun j => ?_⟩
    by_cases h101 : 101 = j
    ·subst h101; exact congrArg (fun z => some (HO.box z)) (by simp_all [r8op, z1j, z0w])
    by_cases h104 : 104 = j
    ·subst h104; rfl
    simp [look, up, z00 h101, z00 h104]
   refine tQ <| tG <| sm 2 rfl <| nL ?_
   refine tC rfl (fun hc19 => ?_) fun hc19 => ?_
   ·refine tSk ?_
    refine tC rfl (fun hc19 => ?_) fun hc19 => ?_
    ·refine tG <| sm 1 rfl <| c0 (sBx rfl rfl rfl rfl ((fun h => h)) tS9 (rfl) (lb rfl)) <| nL ?_
     refine ⟨rfl, Sub.of ⟨rfl, rfl, trivial⟩, funext fun j => ?_⟩
     by_cases h101 : 101 = j
     ·subst h101; exact congrArg (fun z => some (HO.box z)) (by simp_all [r8op, z1j, z0w])
     by_cases h104 : 104 = j
     ·subst h104; rfl
     simp [look, up, z00 h101, z00 h104]
    refine tQ <| tG <| sm 2 rfl <| nL ?_
    refine tC rfl (fun hc24 => ?_) fun hc24 => ?_
    ·refine tG <| sm 1 rfl <| c0 (sBx rfl rfl rfl rfl ((fun h => h)) tS35 (rfl) (lb rfl)) <| nL ?_
     refine ⟨rfl, Sub.of ⟨rfl, rfl, trivial⟩, funext fun j => ?_⟩
     by_cases h101 : 101 = j
     ·subst h101; exact congrArg (fun z => some (HO.box z)) (by simp_all [r8op, z1j, z0w])
     by_cases h104 : 104 = j
     ·subst h104; rfl
     simp [look, up, z00 h101, z00 h104]
    refine tSk ?_
    refine ⟨rfl, Sub.of ⟨rfl, rfl, trivial⟩, funext fun j => ?_⟩
    by_cases h101 : 101 = j
    ·subst h101; exact congrArg (fun z => some (HO.box z)) (by simp_all [r8op, z1j, z0w])
    by_cases h104 : 104 = j
    ·subst h104; rfl
    simp [look, up, z00 h101, z00 h104]
   refine tG <| sm 2 rfl <| nL ?_
   refine tC rfl (fun hc19 => ?_) fun hc19 => ?_
   ·refine tG <| sm 1 rfl <| c0 (sBx rfl rfl rfl rfl ((fun h => h)) tS9 (rfl) (lb rfl)) <| nL ?_
    refine ⟨rfl, Sub.of ⟨rfl, rfl, trivial⟩, funext fun j => ?_⟩
    by_cases h101 : 101 = j
    ·subst h101; exact congrArg (fun z => some (HO.box z)) (by simp_all [r8op, z1j, z0w])
    by_cases h104 : 104 = j
    ·subst h104; rfl
    simp [look, up, z00 h101, z00 h104]
   refine tQ <| tG <| sm 2 rfl <| nL ?_
   refine tC rfl (fun hc24 => ?_) fun hc24 => ?_
   ·refine tG <| sm 1 rfl <| c0 (sBx rfl rfl rfl rfl ((fun h => h)) tS35 (rfl) (lb rfl)) <| nL ?_
    refine ⟨rfl, Sub.of ⟨rfl, rfl, trivial⟩, funext fun j => ?_⟩
    by_cases h101 : 101 = j
    ·subst h101; exact congrArg (fun z => some (HO.box z)) (by simp_all [r8op, z1j, z0w])
    by_cases h104 : 104 = j
    ·subst h104; rfl
    simp [look, up, z00 h101, z00 h104]
   refine tSk ?_
   refine ⟨rfl, Sub.of ⟨rfl, rfl, trivial⟩, funext fun j => ?_⟩
   by_cases h101 : 101 = j
   ·subst h101; exact congrArg (fun z => some (HO.box z)) (by simp_all [r8op, z1j, z0w])
   by_cases h104 : 104 = j
   ·subst h104; rfl
   simp [look, up, z00 h101, z00 h104]
  refine Tr.subBox (k := 101) [.pv (vInt x.kind), .pv (vInt (if r8op x then 0 else x.op)), .pv (vInt (if z1j x then 0 else x.n)), .pv (vStr (if z0w x then ⟨#[]⟩ else x.name)), .pv (ints x.args), .pv (ints x.outs), .pv (ints (if x.kind == 11 then [] else x.params)), .pv (kids x.kids)] rfl ⟨ISub.refl _, ISub.refl _, ISub.refl _, ISub.refl _, ISub.refl _, ISub.refl _, ISub.pv (by cases x.kind == 11 <;> first | exact PSub.nil | exact PSub.refl _), ISub.refl _, trivial⟩ (fun h => h) ?_
  have e1 : ((if r8op x then 0 else x.op) == 0) = (r8op x || x.op == 0) := by cases r8op x <;> rfl
  have e2 : ((if z1j x then 0 else x.n) == 0) = (z1j x || x.n == 0) := by cases z1j x <;> rfl
  have e3 : ((if z0w x then (⟨#[]⟩ : ByteArray) else x.name).toList == (⟨#[]⟩ : ByteArray).toList) = (z0w x || x.name.toList == []) := by
    have e0 : (⟨#[]⟩ : ByteArray).toList = [] := z9w _
    rw [e0]
    cases z0w x
    ·rfl
    rw [if_pos rfl, e0]; rfl
  have e4 : (((if x.kind == 11 then [] else x.params).length : Int) == 0) = (x.kind == 11 || (x.params.length : Int) == 0) := by cases x.kind == 11 <;> rfl
  refine tQ <| tG <| sm 4 rfl ?_
  refine wS 30 rfl (fun hb30 => ?_) fun hb30 => ?_
  ·refine sm 5 rfl ?_
   refine wS 35 rfl (fun hb35 => ?_) fun hb35 => ?_
   ·refine sm 2 rfl <| yV rfl rfl (bSt rfl rfl rfl rfl) <| sm 2 rfl ?_
    refine wS 40 rfl (fun hb40 => ?_) fun hb40 => ?_
    ·refine sm 2 rfl <| yV rfl rfl (oSm uT35 rfl) <| sm 3 rfl ?_
     refine wS 46 rfl (fun hb46 => ?_) fun hb46 => ?_
     ·refine sm 2 rfl <| yV rfl rfl (oSm uT41 rfl) <| sm 4 rfl <| nL <| tRt <| rOk rfl ?_ nPo
      refine congrArg (fun b => iBool b) ?_
      unfold z0m
      rw [<- e1, <- e2, <- e3, <- e4]
      clear e1 e2 e3 e4 hkn
      simp only [*, Bool.true_and, Bool.false_and, Bool.and_true, Bool.and_false]
     refine sm 7 rfl <| nL <| tRt <| rOk rfl ?_ nPo
     refine congrArg (fun b => iBool b) ?_
     unfold z0m
     rw [<- e1, <- e2, <- e3, <- e4]
     clear e1 e2 e3 e4 hkn
     simp only [*, Bool.true_and, Bool.false_and, Bool.and_true, Bool.and_false]
    refine sm 13 rfl <| nL <| tRt <| rOk rfl ?_ nPo
    refine congrArg (fun b => iBool b) ?_
    unfold z0m
    rw [<- e1, <- e2, <- e3, <- e4]
    clear e1 e2 e3 e4 hkn
    simp only [*, Bool.true_and, Bool.false_and, Bool.and_true, Bool.and_false]
   refine sm 18 rfl <| nL <| tRt <| rOk rfl ?_ nPo
   refine congrArg (fun b => iBool b) ?_
   unfold z0m
   rw [<- e1, <- e2, <- e3, <- e4]
   clear e1 e2 e3 e4 hkn
   simp only [*, Bool.true_and, Bool.false_and, Bool.and_true, Bool.and_false]
  refine sm 23 rfl <| nL <| tRt <| rOk rfl ?_ nPo
  refine congrArg (fun b => iBool b) ?_
  unfold z0m
  rw [<- e1, <- e2, <- e3, <- e4]
  clear e1 e2 e3 e4 hkn
  simp only [*, Bool.true_and, Bool.false_and, Bool.and_true, Bool.and_false]
def andP {S : Type} (b : Bool) (s : S) (r : Bool × S) : Bool × S := if b then r else (false, s)
def andQ {S : Type} (r : Bool × S) (k : S -> Bool × S) : Bool × S := if r.1 then k r.2 else (false, r.2)
theorem y05 {tys st a b : List Int} (h : z12 tys st a b = true) : a.length = b.length := by
  unfold z12 eqf at h
  split at h
  · omega
  · cases h
theorem y07 {tys st l : List Int} {t : Int} (h : z12 tys st l [t, t] = true) : ∃ a b, l = [a, b] /\ a = (a.toNat : Int) /\ a.toNat < tys.length /\ b = (b.toNat : Int) /\ b.toNat < tys.length := by
  have hl := y05 h
  match l, hl with
  | [a, b], _ =>
    unfold z12 eqf at h
    simp only [List.length_cons, List.length_nil, if_true, eqGo] at h
    split at h
    · rename_i h1
      split at h
      · rename_i h2
        simp only [z8v, z4q, Bool.and_eq_true, decide_eq_true_eq] at h1 h2
        exact ⟨a, b, rfl, by omega, by omega, by omega, by omega⟩
      · cases h
    · cases h
def z2g (f : Fl) (st : List Int) (x : Nd) : Bool × List Int :=
  if x.kind == 3 then andP (z24 x.op && z12 f.types st x.args [(z06 x.op).1]) st (z0q f.types st x.outs [(z06 x.op).2])
  else andP (decide (z79 x.op > 0) && decide (x.op <= 17) && z12 f.types st x.args [(z06 x.op).1, (z06 x.op).1] && f.types.getD (x.args.getD 0 0).toNat 0 == f.types.getD (x.args.getD 1 0).toNat 0) st (z0q f.types st x.outs [(z06 x.op).2])
def z68 (f : Fl) (st : List Int) (x : Nd) (w : Wh) : Bool :=
  if x.kind == 12 then (x.outs.length : Int) == 0 && w.If && z12 f.types st x.args w.Yield
  else if x.kind == 13 then (x.outs.length : Int) == 0 && w.Loop && z12 f.types st x.args w.Next
  else if x.kind == 14 then (x.outs.length : Int) == 0 && w.Loop && z12 f.types st x.args w.Left
  else (x.outs.length : Int) == 0 && z12 f.types st x.args [f.ty]
def z3y (u : Un) (f : Fl) (st : List Int) (x : Nd) : Bool × List Int :=
  if z0a x.name u.flows 0 < 0 then (false, st) else
    match u.flows[(z0a x.name u.flows 0).toNat]? with
    | some g => andP (z12 f.types st x.args (g.types.take g.params.toNat)) st (z0q f.types st x.outs [g.ty])
    | none => (false, st)
def z02 (u : Un) (f : Fl) (st : List Int) (x : Nd) : Bool × List Int :=
  if x.kind == 1 then andP (z12 f.types st x.args []) st (z0q f.types st x.outs [1])
  else if x.kind == 2 then andP ((x.n == 0 || x.n == 1) && z12 f.types st x.args []) st (z0q f.types st x.outs [2])
  else if x.kind == 3 || x.kind == 4 then z2g f st x
  else if x.kind == 5 then andP (decide (z1h x.name u.arrays 0 ≥ 0) && z12 f.types st x.args [1]) st (z0q f.types st x.outs [1])
  else if x.kind == 6 then andP (decide (z1h x.name u.arrays 0 ≥ 0) && z12 f.types st x.args [1, 1]) st (z0q f.types st x.outs [])
  else if x.kind == 8 then andP (z12 f.types st x.args []) st (z0q f.types st x.outs [1])
  else if x.kind == 9 then andP (z12 f.types st x.args [1]) st (z0q f.types st x.outs [])
  else if x.kind == 7 then z3y u f st x
  else (false, st)
theorem z5i {b : Bool} {st : List Int} {r : Bool × List Int} (h : r.2.length = st.length) : (andP b st r).2.length = st.length := by
  unfold andP; split
  · exact h
  · rfl
theorem zp9 (f : Fl) (st : List Int) (x : Nd) : (z2g f st x).2.length = st.length := by
  unfold z2g; split <;> exact z5i (z2b ..)
theorem zj7 (u : Un) (f : Fl) (st : List Int) (x : Nd) : (z3y u f st x).2.length = st.length := by
  unfold z3y
  split
  · rfl
  · split
    · exact z5i (z2b ..)
    · rfl
theorem zd5 (u : Un) (f : Fl) (st : List Int) (x : Nd) : (z02 u f st x).2.length = st.length := by
  unfold z02
  repeat' split
  all_goals first
    | exact z5i (z2b ..)
    | exact zp9 ..
    | exact zj7 ..
    | rfl
theorem z4a (u : Un) (f : Fl) (st : List Int) (hs : st.length = f.types.length) (l : List Int) (hb : l.length <= 1073741824) : SC Tryz.prog 113 [.ptr 3 0, .pv (ints l)] (ckS u f 3 st) (fun k => k < 100) (.pv (ints (r8of f.types l))) (ckS u f 3 st) := by
  refine SC.of Tryz.func113 rfl (lb rfl) fun F ρ w => ?_
  refine Tr.lenOf (t := 1) rfl (fun hl => ?_)
  simp only [List.length_map] at hl
  rw [y1n]
  refine tQ <| tG <| sm 1 rfl <| nL <| tQ <| tQ <| Tr.grow (t := 4) (k := 104) ⟨3, 1⟩ rfl rfl rfl rfl rfl <| tG <| sm 1 rfl <| cV rfl (oSm uT35 rfl) <| sm 1 rfl <| nL ?_
  refine tBk <| Tr.sub (Sub.of (fr' := [(9, iInt 0), (8, iInt l.length), (7, .pv (ints l)), (4, .sl 104 0), (0, .ptr 3 0)]) ⟨rfl, rfl, rfl, rfl, rfl, trivial⟩) ?_
  refine Tr.loop (fun fr σ m => ∃ (k : Nat) (acc : List Int), (k <= l.length) /\ (acc.length = k) /\ (z52 f.types [] l = z52 f.types acc (l.drop k)) /\ fr = [(9, iInt k), (8, iInt l.length), (7, .pv (ints l)), (4, .sl 104 k), (0, .ptr 3 0)] /\ σ = look ((104, some (.row ⟨3, 1⟩ (acc.map eInt))) :: up (ckS u f 3 st)) /\ m = l.length - k) (n := l.length - 0) ?_ ?_
  ·exact ⟨0, [], Nat.zero_le _, rfl, rfl, rfl, rfl, rfl⟩
  rintro fr σ m ⟨k, acc, hI0, hI1, hI2, rfl, rfl, rfl⟩
  refine tQ <| tG <| sm 1 rfl <| nL <| tQ ?_
  refine tC rfl (fun hc10 => ?_) fun hc10 => ?_
  ·have hlt : k < l.length := by simpa using hc10
   have hd := List.drop_eq_getElem_cons hlt
   have hm := List.getElem_mem hlt
   have hi := z0c (f := eInt) (List.getElem?_eq_getElem hlt)
   generalize l[k] = x at hd hm hi
   refine tSk <| tQ <| tBk <| tQ <| tG <| cV rfl (iSq rfl rfl rfl uT35 hi tS3 rfl (by rfl)) <| sm 2 rfl <| nL <| tQ <| tQ <| tG <| sm 2 rfl ?_
   refine cE rfl (ocr (zj3 u f st x 0) y0r rfl (po2 rfl rfl) rfl (fun k (h : _) => .inr trivial) rfl rfl) <| sm 1 rfl <| nL ?_
   refine tC rfl (fun hc16 => ?_) fun hc16 => ?_
   ·refine tQ <| tG <| sm 1 rfl <| nL <| tRt ?_
    have hin : z6e f.types x = false := by
      cases hr : z6e f.types x with
      | false => rfl
      | true => simp [z6e] at hr; simp [z4q] at hc16; omega
    rw [hI2, hd]
    simp only [z52, hin]
    exact ⟨⟨_, rfl, fun _ _ _ _ h => z37 h⟩, (po2 rfl rfl)⟩
   have hin : z6e f.types x = true := by simp [z4q] at hc16; simp [z6e]; omega
   have hv0 : x.toNat < f.types.length := by simp [z6e] at hin; omega
   have hvx : x = ((x.toNat : Nat) : Int) := by simp [z6e] at hin; omega
   have hty : (f.types.map eInt)[x.toNat]? = some [vInt (f.types.getD x.toNat 0)] := by rw [List.getElem?_map]; simp [eInt, List.getD, hv0]
   refine tSk <| tG <| sm 2 rfl <| cV rfl (nCk rfl rfl rfl) <| sm 4 rfl <| cV rfl (iSq rfl rfl rfl uT35 hty tS3 rfl oM0) <| sm 1 rfl <| cE rfl (bSl rfl rfl uT35 tZ3 tS3 rfl rfl rfl rfl (fbk rfl) rfl) ?_
   refine cE rfl (aPp rfl rfl rfl rfl (by (simp; omega)) sI0 uT35 tB3 dC0 (by (simp [z09]; done)) (by (simp [z09, PV.one]; rfl)) (by simp [maxLen, z09]; omega) (by simp [z09]; omega)) ?_
   refine sm 1 rfl <| nL <| tG <| cV rfl (oB rfl rfl (z05 rfl oM0)) <| sm 1 rfl <| nL ?_
   refine ⟨_, _, ?_, Sub.of (fr' := [(9, iInt (k + 1)), (8, iInt l.length), (7, .pv (ints l)), (4, .sl 104 (k + 1)), (0, .ptr 3 0)]) ⟨rfl, rfl, rfl, rfl, rfl, trivial⟩, (k + 1), (acc ++ [f.types.getD x.toNat 0]), ?_, ?_, ?_, rfl, ze6, rfl⟩
   ·omega
   ·omega
   ·simp [hI1]
   rw [hI2, hd]
   simp [z52, hin]
  refine tEx <| tQ ?_
  refine Tr.freeze (t := 4) (k := 104) rfl rfl (by simpa using hI1) ?_
  refine tG <| sm 2 rfl <| nL <| tRt <| rOk rfl ?_ (po2 rfl rfl)
  have hge : l.length <= k := by simpa using hc10
  rw [hI2, List.drop_eq_nil_of_le hge]
  rfl
theorem zw1 (u : Un) (f : Fl) (st : List Int) (hs : st.length = f.types.length) (x : Nd) : SC Tryz.prog 117 [.ptr 3 0, .pv (ndv x)] (ckS u f 3 st) (fun k => k = 3) (iBool (z2g f st x).1) (ckS u f 3 (z2g f st x).2) := by
  refine SC.of Tryz.func117 rfl (lb rfl) fun F ρ w => ?_
  refine tQ <| tG <| cE rfl (z13 rfl rfl) <| sm 1 rfl <| nL <| tQ <| tG <| sm 2 rfl <| cE rfl (ocq (zp3 _) ent126 rfl rfl) <| sm 1 rfl <| cV rfl (z0d rfl rfl rfl) <| cV rfl (z0d rfl rfl rfl) ?_
  refine sm 2 rfl <| nL <| tQ <| tQ <| tG <| sm 3 rfl <| nL ?_
  refine tC rfl (fun hc16 => ?_) fun hc16 => ?_
  ·refine tQ <| tG <| sm 4 rfl ?_
   refine wS 20 rfl (fun hb20 => ?_) fun hb20 => ?_
   ·refine sm 5 rfl ?_
    refine wS 25 rfl (fun hb25 => ?_) fun hb25 => ?_
    ·refine sm 4 rfl <| WL.yes rfl rfl rfl rfl rfl rfl (bSl rfl rfl uT35 tZ3 tS3 rfl rfl rfl rfl (fbk rfl) rfl) <| WL.yes rfl rfl rfl rfl rfl rfl (cRr (z1c u f st hs x.args [(z06 x.op).1]) z2x rfl rfl (sRf _ _) (po2 rfl rfl) (by rfl) (fun k (h : _) => .inr trivial) rfl (by rfl)) <| sm 2 rfl ?_
     refine wS 33 rfl (fun hb33 => ?_) fun hb33 => ?_
     ·refine sm 4 rfl <| WL.yes rfl rfl rfl rfl rfl rfl (bSl rfl rfl uT35 tZ3 tS3 rfl rfl rfl rfl (fbk rfl) rfl) <| WL.yes rfl rfl rfl rfl rfl rfl (cRr (z1o u f st hs x.outs [(z06 x.op).2]) z3z rfl rfl (sRf _ _) (po2 rfl rfl) (by rfl) (fun k (h : _) => .inr h) rfl (by rfl)) <| sm 2 rfl <| nL <| tRt ?_
      (have h2 : (z2g f st x).2 = (z0q f.types st x.outs [(z06 x.op).2]).2 := (by simp_all [z2g, z24, andP]; done)
       rw [h2]
       refine rOk rfl ?_ (po2 rfl rfl)
       clear h2
       skip
       simp_all [z2g, z24, andP]
       done)
     refine sm 8 rfl <| nL <| tRt ?_
     (have h2 : (z2g f st x).2 = st := (by simp_all [z2g, z24, andP]; done)
      rw [h2]
      refine rOk rfl ?_ (po2 rfl rfl)
      clear h2
      skip
      simp_all [z2g, z24, andP]
      done)
    refine sm 16 rfl <| nL <| tRt ?_
    (have h2 : z2g f st x = (false, st) := (by (first | (simp_all [z2g, z24, andP]; done) | (simp_all [z2g, z24, andP] <;> omega)))
     rw [h2]
     exact rOk rfl rfl (po2 rfl rfl))
   refine sm 21 rfl <| nL <| tRt ?_
   (have h2 : z2g f st x = (false, st) := (by (first | (simp_all [z2g, z24, andP]; done) | (simp_all [z2g, z24, andP] <;> omega)))
    rw [h2]
    exact rOk rfl rfl (po2 rfl rfl))
  refine tSk <| tQ <| tG <| sm 2 rfl <| cE rfl (ocq (y2g _) ent127 rfl rfl) <| sm 2 rfl ?_
  refine wS 45 rfl (fun hb45 => ?_) fun hb45 => ?_
  ·refine sm 5 rfl ?_
   refine wS 50 rfl (fun hb50 => ?_) fun hb50 => ?_
   ·refine sm 5 rfl <| WL.yes rfl rfl rfl rfl rfl rfl (bSl rfl rfl uT35 tZ3 tS3 rfl rfl rfl rfl (fbk rfl) rfl) <| WL.yes rfl rfl rfl rfl rfl rfl (cRr (z1c u f st hs x.args [(z06 x.op).1, (z06 x.op).1]) z2x rfl rfl (sRf _ _) (po2 rfl rfl) (by rfl) (fun k (h : _) => .inr trivial) rfl (by rfl)) <| sm 2 rfl <| nL <| tQ <| tDr z15 (fun k => k ∈ ([3] : List Nat)) <| wR 4 [0, 1, 2, 3, 4, 5, 6, 7, 8, 9, 10, 11, 12, 13, 14, 15, 16, 17, 18, 19, 20, 21, 22, 23, 24, 25, 26, 27, 28, 29, 30] kR0 h30 <| smR 2 rfl ?_
    refine WR.split (t := 60) rfl (fun hb60 => ?_) (fun hb60 => ?_)
    ·obtain ⟨a, b, hab, ha0, hal, hb0, hbl⟩ := y07 (by simpa using hb60)
     have hi0 : (x.args.map eInt)[0]? = some [vInt a] := by rw [hab]; rfl
     have hi1 : (x.args.map eInt)[1]? = some [vInt b] := by rw [hab]; rfl
     have hta : (f.types.map eInt)[a.toNat]? = some [vInt (f.types.getD a.toNat 0)] := by rw [List.getElem?_map]; simp [eInt, List.getD, hal]
     have htb : (f.types.map eInt)[b.toNat]? = some [vInt (f.types.getD b.toNat 0)] := by rw [List.getElem?_map]; simp [eInt, List.getD, hbl]
     refine smR 1 rfl <| ryV rfl rfl rfl (nCk rfl rfl rfl) <| smR 2 rfl <| ryV rfl rfl rfl (oLb uT35 rfl rfl rfl dC0) <| smR 2 rfl <| ryV rfl rfl rfl (iSq rfl rfl rfl uT35 hi0 tS3 rfl (by rfl)) <| smR 1 rfl <| ryV rfl rfl rfl (iSq rfl rfl rfl uT35 hta tS3 rfl oM0) <| smR 2 rfl <| ryV rfl rfl rfl (nCk rfl rfl rfl) <| smR 2 rfl <| ryV rfl rfl rfl (oLb uT35 rfl rfl rfl dC0) ?_
     refine smR 2 rfl <| ryV rfl rfl rfl (iSq rfl rfl rfl uT35 hi1 tS3 rfl (by rfl)) <| smR 1 rfl <| ryV rfl rfl rfl (iSq rfl rfl rfl uT35 htb tS3 rfl oM0) <| smR 4 rfl ?_
     refine WR.split (t := 85) rfl (fun hb85 => ?_) (fun hb85 => ?_)
     ·refine smR 4 rfl <| nR <| wO 31 kR0 <| wY rfl rfl rfl (fun k (h : _) => by (simp at h ⊢; omega)) nw (fun _ _ => bSl rfl rfl uT35 tZ3 tS3 rfl rfl rfl rfl (fbk rfl) rfl) <| wO 32 kR0 <| wY rfl rfl rfl (fun k (h : _) => by (simp at h ⊢; omega)) (nAp rfl) (fun _ _ => ocr (z1o u f st hs x.outs [(z06 x.op).2]) z3z rfl (po2 rfl rfl) rfl (fun k (h : _) => by (simp only [List.mem_cons, List.not_mem_nil, or_false] at h; rcases h with rfl <;> first | exact .inl rfl | exact .inr rfl | exact .inr dC0)) rfl rfl) <| wR 0 [33, 34] kR0 h30 <| smR 2 rfl <| nR <| wDn kR0 <| tRt ?_
      (have h2 : (z2g f st x).2 = (z0q f.types st x.outs [(z06 x.op).2]).2 := (by (try (clear ha0 hb0)); simp_all [z2g, andP]; done)
       rw [h2]
       refine rOk rfl ?_ (po2 rfl rfl)
       clear h2
       try (clear ha0 hb0)
       simp_all [z2g, andP]
       done)
     refine smR 4 rfl <| nR <| wN 31 kR0 h30 rfl rfl rfl <| wN 32 kR0 h30 rfl rfl rfl <| wR 0 [33, 34] kR0 h30 <| smR 2 rfl <| nR <| wDn kR0 <| tRt ?_
     (have h2 : (z2g f st x).2 = st := (by (try (clear ha0 hb0)); simp_all [z2g, andP]; done)
      rw [h2]
      refine rOk rfl ?_ (po2 rfl rfl)
      clear h2
      try (clear ha0 hb0)
      simp_all [z2g, andP]
      done)
    refine smR 29 rfl <| nR <| wN 31 kR0 h30 rfl rfl rfl <| wN 32 kR0 h30 rfl rfl rfl <| wR 0 [33, 34] kR0 h30 <| smR 2 rfl <| nR <| wDn kR0 <| tRt ?_
    (have h2 : (z2g f st x).2 = st := (by (try (clear ha0 hb0)); simp_all [z2g, andP]; done)
     rw [h2]
     refine rOk rfl ?_ (po2 rfl rfl)
     clear h2
     try (clear ha0 hb0)
     simp_all [z2g, andP]
     done)
   refine sm 9 rfl <| nL <| tQ <| tDr z15 (fun k => k ∈ ([3] : List Nat)) <| wR 4 [0, 1, 2, 3, 4, 5, 6, 7, 8, 9, 10, 11, 12, 13, 14, 15, 16, 17, 18, 19, 20, 21, 22, 23, 24, 25, 26, 27, 28, 29, 30] kR0 h30 <| smR 31 rfl <| nR <| wN 31 kR0 h30 rfl rfl rfl <| wN 32 kR0 h30 rfl rfl rfl <| wR 0 [33, 34] kR0 h30 <| smR 2 rfl <| nR ?_
   refine wDn kR0 <| tRt ?_
   (have h2 : z2g f st x = (false, st) := (by (try (clear ha0 hb0)); (first | (simp_all [z2g, andP]; done) | (simp_all [z2g, andP] <;> omega)))
    rw [h2]
    exact rOk rfl rfl (po2 rfl rfl))
  refine sm 14 rfl <| nL <| tQ <| tDr z15 (fun k => k ∈ ([3] : List Nat)) <| wR 4 [0, 1, 2, 3, 4, 5, 6, 7, 8, 9, 10, 11, 12, 13, 14, 15, 16, 17, 18, 19, 20, 21, 22, 23, 24, 25, 26, 27, 28, 29, 30] kR0 h30 <| smR 31 rfl <| nR <| wN 31 kR0 h30 rfl rfl rfl <| wN 32 kR0 h30 rfl rfl rfl <| wR 0 [33, 34] kR0 h30 <| smR 2 rfl <| nR ?_
  refine wDn kR0 <| tRt ?_
  (have h2 : z2g f st x = (false, st) := (by (try (clear ha0 hb0)); (first | (simp_all [z2g, andP]; done) | (simp_all [z2g, andP] <;> omega)))
   rw [h2]
   exact rOk rfl rfl (po2 rfl rfl))
theorem sc_shEnd (u : Un) (f : Fl) (st : List Int) (hs : st.length = f.types.length) (x : Nd) (wh : Wh) : SC Tryz.prog 104 [.ptr 3 0, .pv (ndv x), .pv (whv wh)] (ckS u f 3 st) (fun k => k = 3) (iBool (z68 f st x wh)) (ckS u f 3 st) := by
  refine SC.of Tryz.func104 rfl (lb rfl) fun F ρ w => ?_
  refine tQ <| tG <| cE rfl (z13 rfl rfl) <| cE rfl (z13 rfl rfl) <| sm 1 rfl <| nL <| tQ <| tG <| sm 2 rfl <| cV rfl (oSm uT35 rfl) <| sm 2 rfl <| nL ?_
  refine tQ <| tQ <| tG <| sm 2 rfl <| nL <| tBk <| tQ <| tG <| sm 2 rfl <| nL ?_
  refine tC rfl (fun hc14 => ?_) fun hc14 => ?_
  ·refine tQ <| tG <| sm 2 rfl ?_
   refine wS 17 rfl (fun hb17 => ?_) fun hb17 => ?_
   ·refine sm 4 rfl ?_
    refine wS 21 rfl (fun hb21 => ?_) fun hb21 => ?_
    ·refine sm 5 rfl <| WL.yes rfl rfl rfl rfl rfl rfl (cRr (z1c u f st hs x.args wh.Yield) z2x rfl rfl (sRf _ _) (po2 rfl rfl) (by rfl) (fun k (h : _) => .inr trivial) rfl (by rfl)) <| sm 2 rfl <| nL <| tRt <| rOk rfl ?_ (z1r (And.intro rfl (And.intro rfl (trivial))))
     refine congrArg (fun b => iBool b) ?_
     simp_all [z68]
    refine sm 8 rfl <| nL <| tRt <| rOk rfl ?_ (z1r (And.intro rfl (And.intro rfl (trivial))))
    refine congrArg (fun b => iBool b) ?_
    simp_all [z68]
   refine sm 12 rfl <| nL <| tRt <| rOk rfl ?_ (z1r (And.intro rfl (And.intro rfl (trivial))))
   refine congrArg (fun b => iBool b) ?_
   simp_all [z68]
  refine tQ <| tG <| sm 2 rfl <| nL ?_
  refine tC rfl (fun hc29 => ?_) fun hc29 => ?_
  ·refine tQ <| tG <| sm 2 rfl ?_
   refine wS 32 rfl (fun hb32 => ?_) fun hb32 => ?_
   ·refine sm 4 rfl ?_
    refine wS 36 rfl (fun hb36 => ?_) fun hb36 => ?_
    ·refine sm 5 rfl <| WL.yes rfl rfl rfl rfl rfl rfl (cRr (z1c u f st hs x.args wh.Next) z2x rfl rfl (sRf _ _) (po2 rfl rfl) (by rfl) (fun k (h : _) => .inr trivial) rfl (by rfl)) <| sm 2 rfl <| nL <| tRt <| rOk rfl ?_ (z1r (And.intro rfl (And.intro rfl (trivial))))
     refine congrArg (fun b => iBool b) ?_
     simp_all [z68]
    refine sm 8 rfl <| nL <| tRt <| rOk rfl ?_ (z1r (And.intro rfl (And.intro rfl (trivial))))
    refine congrArg (fun b => iBool b) ?_
    simp_all [z68]
   refine sm 12 rfl <| nL <| tRt <| rOk rfl ?_ (z1r (And.intro rfl (And.intro rfl (trivial))))
   refine congrArg (fun b => iBool b) ?_
   simp_all [z68]
  refine tQ <| tG <| sm 2 rfl <| nL ?_
  refine tC rfl (fun hc44 => ?_) fun hc44 => ?_
  ·refine tQ <| tG <| sm 2 rfl ?_
   refine wS 47 rfl (fun hb47 => ?_) fun hb47 => ?_
   ·refine sm 4 rfl ?_
    refine wS 51 rfl (fun hb51 => ?_) fun hb51 => ?_
    ·refine sm 5 rfl <| WL.yes rfl rfl rfl rfl rfl rfl (cRr (z1c u f st hs x.args wh.Left) z2x rfl rfl (sRf _ _) (po2 rfl rfl) (by rfl) (fun k (h : _) => .inr trivial) rfl (by rfl)) <| sm 2 rfl <| nL <| tRt <| rOk rfl ?_ (z1r (And.intro rfl (And.intro rfl (trivial))))
     refine congrArg (fun b => iBool b) ?_
     simp_all [z68]
    refine sm 8 rfl <| nL <| tRt <| rOk rfl ?_ (z1r (And.intro rfl (And.intro rfl (trivial))))
    refine congrArg (fun b => iBool b) ?_
    simp_all [z68]
   refine sm 12 rfl <| nL <| tRt <| rOk rfl ?_ (z1r (And.intro rfl (And.intro rfl (trivial))))
   refine congrArg (fun b => iBool b) ?_
   simp_all [z68]
  refine tSk <| tQ <| tDr z15 (fun k => k ∈ ([3, 4] : List Nat)) <| wR 4 [0, 1, 2, 3, 4, 5, 6, 7, 8, 9] kR0 h30 <| smR 2 rfl ?_
  refine WR.split (t := 60) rfl (fun hb60 => ?_) (fun hb60 => ?_)
  ·refine smR 4 rfl <| ryV rfl rfl rfl (nCk rfl rfl rfl) <| smR 2 rfl <| ryV rfl rfl rfl (oLb uT3 rfl rfl rfl dC0) <| nR <| wO 10 kR0 <| wY rfl rfl rfl (fun k (h : _) => by (simp at h ⊢; omega)) nw (fun _ _ => bSl rfl rfl uT35 tZ3 tS3 rfl rfl rfl rfl (fbk rfl) rfl) <| wO 11 kR0 <| wY rfl rfl rfl (fun k (h : _) => by (simp at h ⊢; omega)) (nAp rfl) (fun _ _ => ocr (z1c u f st hs x.args [f.ty]) z2x rfl (po2 rfl rfl) rfl (fun k (h : _) => .inr trivial) rfl rfl) <| wR 0 [12, 13] kR0 h30 <| smR 2 rfl <| nR ?_
   refine wDn kR0 <| tRt <| rOk rfl ?_ (z1r (And.intro rfl (And.intro rfl (trivial))))
   refine congrArg (fun b => iBool b) ?_
   simp_all [z68]
  refine smR 8 rfl <| nR <| wN 10 kR0 h30 rfl rfl rfl <| wN 11 kR0 h30 rfl rfl rfl <| wR 0 [12, 13] kR0 h30 <| smR 2 rfl <| nR <| wDn kR0 <| tRt <| rOk rfl ?_ (z1r (And.intro rfl (And.intro rfl (trivial))))
  refine congrArg (fun b => iBool b) ?_
  simp_all [z68]
def z18 (f : Fl) (x : Nd) (st : List Int) : Bool × List Int := andP ((x.outs.length : Int) == 0 || !z0e x) st (z0q f.types st x.outs (List.replicate x.outs.length 0))
def z4p (st : List Int) (l : List Nd) : List Int := l.foldl (fun s x => z1v s x.outs) st
def zp7 (l : List Nd) (s : List Int) : Bool × List Int := (decide ((l.length : Int) > 0), z4p s l)
mutual
def z2n (u : Un) (f : Fl) (deep : Int) (w : Wh) (st : List Int) : Nd -> Bool × List Int
  | .mk kind op n name args outs params kids =>
    if !z0m (.mk kind op n name args outs params kids) then (false, st)
    else if kind == 10 then
      match kids with
      | a :: b :: _ =>
        if z12 f.types st args [2] then
          andQ (andQ (shGo u f (deep + 1) ⟨true, w.Loop, r8of f.types outs, w.Next, w.Left⟩ st a) (zp7 a)) fun s1 =>
          andQ (andQ (shGo u f (deep + 1) ⟨true, w.Loop, r8of f.types outs, w.Next, w.Left⟩ s1 b) (zp7 b)) fun s2 =>
          z18 f (.mk kind op n name args outs params kids) s2
        else (false, st)
      | _ => (false, st)
    else if kind == 11 then
      if z12 f.types st args (r8of f.types params) then
        andQ (z0q f.types st params (List.replicate params.length 0)) fun s1 =>
        match kids with
        | a :: _ =>
          andQ (andQ (shGo u f (deep + 1) ⟨false, true, [], r8of f.types params, r8of f.types outs⟩ s1 a) (zp7 a)) fun s2 =>
          z18 f (.mk kind op n name args outs params kids) (z1v s2 params)
        | _ => (false, s1)
      else (false, st)
    else if z1d kind then (z68 f st (.mk kind op n name args outs params kids) w, st)
    else z02 u f st (.mk kind op n name args outs params kids)
def shGo (u : Un) (f : Fl) (deep : Int) (w : Wh) (st : List Int) : List Nd -> Bool × List Int
  | [] => (true, st)
  | x :: r =>
    if deep > 100 then (false, st)
    else andQ (z2n u f deep w st x) fun s1 =>
      if z0e x != r.isEmpty then (false, s1)
      else shGo u f deep w s1 r
end
def z0n (u : Un) (f : Fl) (deep : Int) (w : Wh) (st : List Int) (l : List Nd) : Bool × List Int := andQ (shGo u f deep w st l) (zp7 l)
theorem z27 {r : Bool × List Int} {k : List Int -> Bool × List Int} {n : Nat} (h1 : r.2.length = n) (h2 : ∀ s, s.length = n -> (k s).2.length = n) : (andQ r k).2.length = n := by
  unfold andQ; split
  ·exact h2 _ h1
  exact h1
theorem z64 : ∀ (l : List Nd) (st : List Int), (z4p st l).length = st.length
  | [], _ => rfl
  | x :: r, st => by
    have := z64 r (z1v st x.outs)
    rw [z3h] at this
    simpa [z4p] using this
theorem z8d {f : Fl} {x : Nd} {st : List Int} {n : Nat} (h : st.length = n) : (z18 f x st).2.length = n := (z5i (z2b ..)).trans h
theorem z53 {l : List Nd} {s : List Int} {n : Nat} (h : s.length = n) : (zp7 l s).2.length = n := (z64 l s).trans h
mutual
theorem z8c (u : Un) (f : Fl) : ∀ (x : Nd) (deep : Int) (w : Wh) (st : List Int), (z2n u f deep w st x).2.length = st.length
  | .mk kind op n name args outs params kids, deep, w, st => by
    unfold z2n
    split
    ·rfl
    split
    ·match kids with
     | [] => rfl
     | [_] => rfl
     | a :: b :: _ =>
       simp only
       split
       ·exact z27 (z27 (z4o u f a ..) fun s hs => z53 hs) fun s hs => z27 (z27 ((z4o u f b ..).trans hs) fun s hs => z53 hs) fun s hs => z8d hs
       rfl
    split
    ·split
     ·refine z27 (z2b ..) fun s hs => ?_
      match kids with
      | [] => exact hs
      | a :: _ => exact z27 (z27 ((z4o u f a ..).trans hs) fun s hs => z53 hs) fun s hs => z8d ((z3h ..).trans hs)
     rfl
    split
    ·rfl
    exact zd5 ..
theorem z4o (u : Un) (f : Fl) : ∀ (l : List Nd) (deep : Int) (w : Wh) (st : List Int), (shGo u f deep w st l).2.length = st.length
  | [], _, _, _ => by simp [shGo]
  | x :: r, deep, w, st => by
    unfold shGo
    split
    ·rfl
    refine z27 (z8c u f x ..) fun s hs => ?_
    split
    ·exact hs
    exact (z4o u f r ..).trans hs
end
theorem z5s (u : Un) (f : Fl) (deep : Int) (w : Wh) (st : List Int) (l : List Nd) : (z0n u f deep w st l).2.length = st.length := z27 (z4o ..) fun _ h => z53 h
theorem z7k (u : Un) (f : Fl) (deep : Int) (w : Wh) (st : List Int) {x : Nd} (h : z0m x = false) : z2n u f deep w st x = (false, st) := by
  cases x; unfold z2n; simp [h]
theorem zd3 (u : Un) (f : Fl) (deep : Int) (w : Wh) (st : List Int) {x : Nd} {a b : List Nd} (h : z0m x = true) (hk : x.kind = 10) (hx : x.kids = [a, b]) :
    z2n u f deep w st x = if z12 f.types st x.args [2] then andQ (z0n u f (deep + 1) ⟨true, w.Loop, r8of f.types x.outs, w.Next, w.Left⟩ st a) (fun s1 => andQ (z0n u f (deep + 1) ⟨true, w.Loop, r8of f.types x.outs, w.Next, w.Left⟩ s1 b) fun s2 => z18 f x s2) else (false, st) := by
  cases x
  simp only [Nd.kind, Nd.kids] at hk hx
  subst hk hx
  unfold z2n
  simp only [h, Bool.not_true, Bool.false_eq_true, if_false, Nd.args, Nd.outs]
  rfl
theorem z7l (u : Un) (f : Fl) (deep : Int) (w : Wh) (st : List Int) {x : Nd} {a : List Nd} (h : z0m x = true) (hk : x.kind = 11) (hx : x.kids = [a]) :
    z2n u f deep w st x = if z12 f.types st x.args (r8of f.types x.params) then andQ (z0q f.types st x.params (List.replicate x.params.length 0)) (fun s1 => andQ (z0n u f (deep + 1) ⟨false, true, [], r8of f.types x.params, r8of f.types x.outs⟩ s1 a) fun s2 => z18 f x (z1v s2 x.params)) else (false, st) := by
  cases x
  simp only [Nd.kind, Nd.kids] at hk hx
  subst hk hx
  unfold z2n
  simp only [h, Bool.not_true, Bool.false_eq_true, if_false, Nd.args, Nd.outs, Nd.params]
  rfl
theorem z8u (u : Un) (f : Fl) (deep : Int) (w : Wh) (st : List Int) {x : Nd} (h : z0m x = true) (h1 : (x.kind == 10) = false) (h2 : (x.kind == 11) = false) (h3 : z1d x.kind = true) : z2n u f deep w st x = (z68 f st x w, st) := by
  cases x
  simp only [Nd.kind] at h1 h2 h3
  unfold z2n
  simp [h, h1, h2, h3]
theorem z5t (u : Un) (f : Fl) (deep : Int) (w : Wh) (st : List Int) {x : Nd} (h : z0m x = true) (h1 : (x.kind == 10) = false) (h2 : (x.kind == 11) = false) (h3 : z1d x.kind = false) : z2n u f deep w st x = z02 u f st x := by
  cases x
  simp only [Nd.kind] at h1 h2 h3
  unfold z2n
  simp [h, h1, h2, h3]
theorem zk6 {S : Type} {b : Bool} {s : S} {r : Bool × S} (h : (andP b s r).1 = true) : b = true /\ r.1 = true := by
  unfold andP at h; split at h
  ·rename_i hb; exact ⟨hb, h⟩
  cases h
theorem z69 {S : Type} {r : Bool × S} {k : S -> Bool × S} (h : (andQ r k).1 = true) : r.1 = true /\ (k r.2).1 = true := by
  unfold andQ at h; split at h
  ·rename_i hb; exact ⟨hb, h⟩
  cases h
theorem zd6 {f : Fl} {x : Nd} {st : List Int} (h : (z18 f x st).1 = true) : ∀ v ∈ x.outs, 0 <= v /\ v < f.types.length := zd4 (zk6 h).2
theorem zj8 {u : Un} {f : Fl} {st : List Int} {x : Nd} (h : (z02 u f st x).1 = true) : ∀ v ∈ x.outs, 0 <= v /\ v < f.types.length := by
  unfold z02 z2g z3y at h
  repeat' split at h
  all_goals first
    | exact zd4 (zk6 h).2
    | cases h
theorem y04 {f : Fl} {st : List Int} {x : Nd} {w : Wh} (h : z68 f st x w = true) : x.outs = [] := by
  unfold z68 at h
  have key : ∀ b : Bool, ((x.outs.length : Int) == 0 && b) = true -> x.outs = [] := fun b hb => by
    simp only [Bool.and_eq_true, beq_iff_eq] at hb
    exact List.eq_nil_of_length_eq_zero oM0
  repeat' split at h
  all_goals first
    | exact key _ h
    | (rw [Bool.and_assoc] at h; exact key _ h)
theorem zt4 {u : Un} {f : Fl} {deep : Int} {w : Wh} {st : List Int} {x : Nd} (h : (z2n u f deep w st x).1 = true) : ∀ v ∈ x.outs, 0 <= v /\ v < f.types.length := by
  cases hb : z0m x with
  | false => rw [z7k _ _ _ _ _ hb] at h; cases h
  | true =>
    by_cases h10 : x.kind = 10
    ·obtain ⟨a, b, hk⟩ := z30 hb h10
     rw [zd3 _ _ _ _ _ hb h10 hk] at h
     split at h
     ·exact zd6 (z69 (z69 h).2).2
     cases h
    by_cases h11 : x.kind = 11
    ·obtain ⟨a, hk⟩ := z22 hb h11
     rw [z7l _ _ _ _ _ hb h11 hk] at h
     split at h
     ·exact zd6 (z69 (z69 h).2).2
     cases h
    have e10 : (x.kind == 10) = false := by simpa using h10
    have e11 : (x.kind == 11) = false := by simpa using h11
    cases he : z1d x.kind with
    | true => rw [z8u _ _ _ _ _ hb e10 e11 he] at h; intro v hv; rw [y04 h] at hv; simp at hv
    | false => rw [z5t _ _ _ _ _ hb e10 e11 he] at h; exact zj8 h
theorem zp8 {u : Un} {f : Fl} {deep : Int} {w : Wh} : ∀ {l : List Nd} {st : List Int}, (shGo u f deep w st l).1 = true -> ∀ x ∈ l, ∀ v ∈ x.outs, 0 <= v /\ v < f.types.length
  | [], _, _, x, hx => by simp at hx
  | y :: r, st, h, x, hx => by
    unfold shGo at h
    split at h
    ·cases h
    obtain ⟨h1, h2⟩ := z69 h
    split at h2
    ·cases h2
    rcases List.mem_cons.1 hx with rfl | hx
    ·exact zt4 h1
    exact zp8 h2 x hx
theorem zi4 : ∀ {l : List Nd} {x : Nd}, x ∈ l -> ndW x <= lsW l
  | y :: r, x, h => by
    rcases List.mem_cons.1 h with rfl | h
    ·simp only [lsW]; omega
    have := zi4 h; simp only [lsW]; omega
theorem z8k : ∀ {ks : List (List Nd)} {q : List Nd}, q ∈ ks -> lsW q <= kdW ks
  | y :: r, x, h => by
    rcases List.mem_cons.1 h with rfl | h
    ·simp only [kdW]; omega
    have := z8k h; simp only [kdW]; omega
theorem zt3 (u : Un) (f : Fl) (st : List Int) (hs : st.length = f.types.length) (hg : ∀ g ∈ u.flows, 0 <= g.params /\ g.params <= g.types.length) (x : Nd) : SC Tryz.prog 105 [.ptr 3 0, .pv (ndv x)] (ckS u f 3 st) (fun k => k = 3) (iBool (z02 u f st x).1) (ckS u f 3 (z02 u f st x).2) := by
  refine SC.of Tryz.func105 rfl (lb rfl) fun F ρ w => ?_
  refine tQ <| tG <| cE rfl (z13 rfl rfl) <| sm 1 rfl <| nL <| tQ <| tQ <| tG <| sm 2 rfl <| nL <| tBk <| tQ ?_
  refine tG <| sm 2 rfl <| nL ?_
  refine tC rfl (fun hc9 => ?_) fun hc9 => ?_
  ·refine tQ <| tG <| sm 3 rfl <| cE rfl (cRr (z1c u f st hs x.args []) z2x rfl rfl (sSm rfl (sSm rfl (Subs.cons (fun _ _ _ _ h => z37 h) Subs.nil))) (po2 rfl rfl) (by rfl) (fun k (h : _) => .inr trivial) rfl (by rfl)) <| sm 1 rfl ?_
   refine wS 15 rfl (fun hb15 => ?_) fun hb15 => ?_
   ·refine sm 3 rfl <| WL.yes rfl rfl rfl rfl rfl rfl (bSl rfl rfl uT35 tZ3 tS3 rfl rfl rfl rfl (fbk rfl) rfl) <| WL.yes rfl rfl rfl rfl rfl rfl (cRr (z1o u f st hs x.outs [1]) z3z rfl rfl (sRf _ _) (po2 rfl rfl) (by rfl) (fun k (h : _) => .inr h) rfl (by rfl)) <| sm 2 rfl <| nL <| tRt ?_
    (have h2 : (z02 u f st x).2 = (z0q f.types st x.outs [1]).2 := (by simp_all [z02, andP]; done)
     rw [h2]
     refine rOk rfl ?_ (po2 rfl rfl)
     clear h2
     skip
     simp_all [z02, andP]
     done)
   refine sm 7 rfl <| nL <| tRt ?_
   (have h2 : (z02 u f st x).2 = st := (by simp_all [z02, andP]; done)
    rw [h2]
    refine rOk rfl ?_ (po2 rfl rfl)
    clear h2
    skip
    simp_all [z02, andP]
    done)
  refine tQ <| tG <| sm 2 rfl <| nL ?_
  refine tC rfl (fun hc22 => ?_) fun hc22 => ?_
  ·refine tQ <| tG <| sm 4 rfl ?_
   refine wS 27 rfl (fun hb27 => ?_) fun hb27 => ?_
   ·refine sm 8 rfl <| WL.yes rfl rfl rfl rfl rfl rfl (cRr (z1c u f st hs x.args []) z2x rfl rfl (sSm rfl (sSm rfl (Subs.cons (fun _ _ _ _ h => z37 h) Subs.nil))) (po2 rfl rfl) (by rfl) (fun k (h : _) => .inr trivial) rfl (by rfl)) <| sm 2 rfl ?_
    refine wS 38 rfl (fun hb38 => ?_) fun hb38 => ?_
    ·refine sm 3 rfl <| WL.yes rfl rfl rfl rfl rfl rfl (bSl rfl rfl uT35 tZ3 tS3 rfl rfl rfl rfl (fbk rfl) rfl) <| WL.yes rfl rfl rfl rfl rfl rfl (cRr (z1o u f st hs x.outs [2]) z3z rfl rfl (sRf _ _) (po2 rfl rfl) (by rfl) (fun k (h : _) => .inr h) rfl (by rfl)) <| sm 2 rfl <| nL <| tRt ?_
     (have h2 : (z02 u f st x).2 = (z0q f.types st x.outs [2]).2 := (by simp_all [z02, andP]; done)
      rw [h2]
      refine rOk rfl ?_ (po2 rfl rfl)
      clear h2
      skip
      simp_all [z02, andP]
      done)
    refine sm 7 rfl <| nL <| tRt ?_
    (have h2 : (z02 u f st x).2 = st := (by simp_all [z02, andP]; done)
     rw [h2]
     refine rOk rfl ?_ (po2 rfl rfl)
     clear h2
     skip
     simp_all [z02, andP]
     done)
   refine sm 5 rfl ?_
   refine wS 32 rfl (fun hb32 => ?_) fun hb32 => ?_
   ·refine sm 3 rfl <| WL.yes rfl rfl rfl rfl rfl rfl (cRr (z1c u f st hs x.args []) z2x rfl rfl (sSm rfl (sSm rfl (Subs.cons (fun _ _ _ _ h => z37 h) Subs.nil))) (po2 rfl rfl) (by rfl) (fun k (h : _) => .inr trivial) rfl (by rfl)) <| sm 2 rfl ?_
    refine wS 38 rfl (fun hb38 => ?_) fun hb38 => ?_
    ·refine sm 3 rfl <| WL.yes rfl rfl rfl rfl rfl rfl (bSl rfl rfl uT35 tZ3 tS3 rfl rfl rfl rfl (fbk rfl) rfl) <| WL.yes rfl rfl rfl rfl rfl rfl (cRr (z1o u f st hs x.outs [2]) z3z rfl rfl (sRf _ _) (po2 rfl rfl) (by rfl) (fun k (h : _) => .inr h) rfl (by rfl)) <| sm 2 rfl <| nL <| tRt ?_
     (have h2 : (z02 u f st x).2 = (z0q f.types st x.outs [2]).2 := (by simp_all [z02, andP]; done)
      rw [h2]
      refine rOk rfl ?_ (po2 rfl rfl)
      clear h2
      skip
      simp_all [z02, andP]
      done)
    refine sm 7 rfl <| nL <| tRt ?_
    (have h2 : (z02 u f st x).2 = st := (by simp_all [z02, andP]; done)
     rw [h2]
     refine rOk rfl ?_ (po2 rfl rfl)
     clear h2
     skip
     simp_all [z02, andP]
     done)
   refine sm 13 rfl <| nL <| tRt ?_
   (have h2 : (z02 u f st x).2 = st := (by simp_all [z02, andP]; done)
    rw [h2]
    refine rOk rfl ?_ (po2 rfl rfl)
    clear h2
    skip
    simp_all [z02, andP]
    done)
  refine tQ <| tQ <| tG <| sm 2 rfl <| nL ?_
  refine tC rfl (fun hc45 => ?_) fun hc45 => ?_
  ·refine tSk ?_
   refine tC rfl (fun hc45 => ?_) fun hc45 => ?_
   ·refine tQ <| tG <| sm 1 rfl <| cV rfl (lEA rfl rfl uT43 rfl tS43 (lb rfl)) <| cE rfl (ocr (zw1 u f st hs x) ent117 rfl (po2 rfl rfl) rfl (fun k (h : _) => .inr h) rfl rfl) <| sm 1 rfl <| nL <| tRt ?_
    have h2 : z02 u f st x = z2g f st x := by simp_all [z02]
    rw [h2]
    exact rOk rfl rfl (po2 rfl rfl)
   refine tQ <| tG <| sm 2 rfl <| nL ?_
   refine tC rfl (fun hc51 => ?_) fun hc51 => ?_
   ·refine tQ <| tDr z15 (fun k => k ∈ ([3] : List Nat)) <| wR 16 [0, 1, 2, 3, 4, 5] kR0 h30 <| smR 1 rfl <| rV rfl rfl (nCk rfl rfl rfl) <| smR 1 rfl <| rV rfl rfl (lBP rfl rfl rfl uT25 rfl tS25 (lb rfl) rfl dC0) <| smR 2 rfl <| nR <| wO 6 kR0 <| wI rfl rfl (fun k (h : _) => by (simp at h ⊢; omega)) nw (fun _ _ => ocq (z9r _ _) zu6 rfl rfl) <| wR 11 [7, 8, 9, 10] kR0 h30 ?_
    refine smR 1 rfl ?_
    refine WR.split (t := 60) rfl (fun hb60 => ?_) (fun hb60 => ?_)
    ·refine smR 3 rfl <| nR <| wO 11 kR0 <| wY rfl rfl rfl (fun k (h : _) => by (simp at h ⊢; omega)) nw (fun _ _ => bSl rfl rfl uT35 tZ3 tS3 rfl rfl rfl rfl (fbk rfl) rfl) <| wO 12 kR0 <| wY rfl rfl rfl (fun k (h : _) => by (simp at h ⊢; omega)) (nAp rfl) (fun _ _ => ocr (z1c u f st hs x.args [1]) z2x rfl (po2 rfl rfl) rfl (fun k (h : _) => .inr trivial) rfl rfl) <| wR 4 [13, 14, 15, 16, 17] kR0 h30 <| smR 2 rfl ?_
     refine WR.split (t := 67) rfl (fun hb67 => ?_) (fun hb67 => ?_)
     ·refine smR 3 rfl <| nR <| wO 18 kR0 <| wY rfl rfl rfl (fun k (h : _) => by (simp at h ⊢; omega)) nw (fun _ _ => bSl rfl rfl uT35 tZ3 tS3 rfl rfl rfl rfl (fbk rfl) rfl) <| wO 19 kR0 <| wY rfl rfl rfl (fun k (h : _) => by (simp at h ⊢; omega)) (nAp rfl) (fun _ _ => ocr (z1o u f st hs x.outs [1]) z3z rfl (po2 rfl rfl) rfl (fun k (h : _) => by (simp only [List.mem_cons, List.not_mem_nil, or_false] at h; rcases h with rfl <;> first | exact .inl rfl | exact .inr rfl | exact .inr dC0)) rfl rfl) <| wR 0 [20, 21] kR0 h30 <| smR 2 rfl <| nR <| wDn kR0 <| tRt ?_
      (have h2 : (z02 u f st x).2 = (z0q f.types st x.outs [1]).2 := (by simp_all [z02, andP]; done)
       rw [h2]
       refine rOk rfl ?_ (po2 rfl rfl)
       clear h2
       skip
       simp_all [z02, andP]
       done)
     refine smR 3 rfl <| nR <| wN 18 kR0 h30 rfl rfl rfl <| wN 19 kR0 h30 rfl rfl rfl <| wR 0 [20, 21] kR0 h30 <| smR 2 rfl <| nR <| wDn kR0 <| tRt ?_
     (have h2 : (z02 u f st x).2 = st := (by simp_all [z02, andP]; done)
      rw [h2]
      refine rOk rfl ?_ (po2 rfl rfl)
      clear h2
      skip
      simp_all [z02, andP]
      done)
    refine smR 3 rfl <| nR <| wN 11 kR0 h30 rfl rfl rfl <| wN 12 kR0 h30 rfl rfl rfl <| wR 4 [13, 14, 15, 16, 17] kR0 h30 <| smR 5 rfl <| nR <| wN 18 kR0 h30 rfl rfl rfl <| wN 19 kR0 h30 rfl rfl rfl <| wR 0 [20, 21] kR0 h30 <| smR 2 rfl <| nR ?_
    refine wDn kR0 <| tRt ?_
    (have h2 : (z02 u f st x).2 = st := (by simp_all [z02, andP]; done)
     rw [h2]
     refine rOk rfl ?_ (po2 rfl rfl)
     clear h2
     skip
     simp_all [z02, andP]
     done)
   refine tQ <| tG <| sm 2 rfl <| nL ?_
   refine tC rfl (fun hc74 => ?_) fun hc74 => ?_
   ·refine tQ <| tDr z15 (fun k => k ∈ ([3] : List Nat)) <| wR 15 [0, 1, 2, 3, 4, 5] kR0 h30 <| smR 1 rfl <| rV rfl rfl (nCk rfl rfl rfl) <| smR 1 rfl <| rV rfl rfl (lBP rfl rfl rfl uT25 rfl tS25 (lb rfl) rfl dC0) <| smR 2 rfl <| nR <| wO 6 kR0 <| wI rfl rfl (fun k (h : _) => by (simp at h ⊢; omega)) nw (fun _ _ => ocq (z9r _ _) zu6 rfl rfl) <| wR 10 [7, 8, 9, 10] kR0 h30 ?_
    refine smR 1 rfl ?_
    refine WR.split (t := 83) rfl (fun hb83 => ?_) (fun hb83 => ?_)
    ·refine smR 3 rfl <| nR <| wO 11 kR0 <| wY rfl rfl rfl (fun k (h : _) => by (simp at h ⊢; omega)) nw (fun _ _ => bSl rfl rfl uT35 tZ3 tS3 rfl rfl rfl rfl (fbk rfl) rfl) <| wO 12 kR0 <| wY rfl rfl rfl (fun k (h : _) => by (simp at h ⊢; omega)) (nAp rfl) (fun _ _ => ocr (z1c u f st hs x.args [1, 1]) z2x rfl (po2 rfl rfl) rfl (fun k (h : _) => .inr trivial) rfl rfl) <| wR 3 [13, 14, 15, 16, 17] kR0 h30 <| smR 2 rfl ?_
     refine WR.split (t := 90) rfl (fun hb90 => ?_) (fun hb90 => ?_)
     ·refine smR 3 rfl <| nR <| wO 18 kR0 <| wY rfl rfl rfl (fun k (h : _) => by (simp at h ⊢; omega)) (nAp rfl) (fun _ _ => cRr (z1o u f st hs x.outs []) z3z rfl rfl (sSm rfl (sSm rfl (Subs.cons (fun _ _ _ _ h => z37 h) Subs.nil))) (po2 rfl rfl) (by rfl) (fun k (h : _) => by (simp only [List.mem_cons, List.not_mem_nil, or_false] at h; rcases h with rfl <;> first | exact .inl rfl | exact .inr rfl | exact .inr dC0)) rfl (by rfl)) <| wR 0 [19, 20] kR0 h30 <| smR 2 rfl <| nR <| wDn kR0 <| tRt ?_
      (have h2 : (z02 u f st x).2 = (z0q f.types st x.outs []).2 := (by simp_all [z02, andP]; done)
       rw [h2]
       refine rOk rfl ?_ (po2 rfl rfl)
       clear h2
       skip
       simp_all [z02, andP]
       done)
     refine smR 3 rfl <| nR <| wN 18 kR0 h30 rfl rfl rfl <| wR 0 [19, 20] kR0 h30 <| smR 2 rfl <| nR <| wDn kR0 <| tRt ?_
     (have h2 : (z02 u f st x).2 = st := (by simp_all [z02, andP]; done)
      rw [h2]
      refine rOk rfl ?_ (po2 rfl rfl)
      clear h2
      skip
      simp_all [z02, andP]
      done)
    refine smR 3 rfl <| nR <| wN 11 kR0 h30 rfl rfl rfl <| wN 12 kR0 h30 rfl rfl rfl <| wR 3 [13, 14, 15, 16, 17] kR0 h30 <| smR 5 rfl <| nR <| wN 18 kR0 h30 rfl rfl rfl <| wR 0 [19, 20] kR0 h30 <| smR 2 rfl <| nR <| wDn kR0 ?_
    refine tRt ?_
    (have h2 : (z02 u f st x).2 = st := (by simp_all [z02, andP]; done)
     rw [h2]
     refine rOk rfl ?_ (po2 rfl rfl)
     clear h2
     skip
     simp_all [z02, andP]
     done)
   refine tQ <| tG <| sm 2 rfl <| nL ?_
   refine tC rfl (fun hc96 => ?_) fun hc96 => ?_
   ·refine tQ <| tG <| sm 3 rfl <| cE rfl (cRr (z1c u f st hs x.args []) z2x rfl rfl (sSm rfl (sSm rfl (Subs.cons (fun _ _ _ _ h => z37 h) Subs.nil))) (po2 rfl rfl) (by rfl) (fun k (h : _) => .inr trivial) rfl (by rfl)) <| sm 1 rfl ?_
    refine wS 102 rfl (fun hb102 => ?_) fun hb102 => ?_
    ·refine sm 3 rfl <| WL.yes rfl rfl rfl rfl rfl rfl (bSl rfl rfl uT35 tZ3 tS3 rfl rfl rfl rfl (fbk rfl) rfl) <| WL.yes rfl rfl rfl rfl rfl rfl (cRr (z1o u f st hs x.outs [1]) z3z rfl rfl (sRf _ _) (po2 rfl rfl) (by rfl) (fun k (h : _) => .inr h) rfl (by rfl)) <| sm 2 rfl <| nL <| tRt ?_
     (have h2 : (z02 u f st x).2 = (z0q f.types st x.outs [1]).2 := (by simp_all [z02, andP]; done)
      rw [h2]
      refine rOk rfl ?_ (po2 rfl rfl)
      clear h2
      skip
      simp_all [z02, andP]
      done)
    refine sm 7 rfl <| nL <| tRt ?_
    (have h2 : (z02 u f st x).2 = st := (by simp_all [z02, andP]; done)
     rw [h2]
     refine rOk rfl ?_ (po2 rfl rfl)
     clear h2
     skip
     simp_all [z02, andP]
     done)
   refine tQ <| tG <| sm 2 rfl <| nL ?_
   refine tC rfl (fun hc109 => ?_) fun hc109 => ?_
   ·refine tQ <| tG <| sm 3 rfl <| cE rfl (bSl rfl rfl uT35 tZ3 tS3 rfl rfl rfl rfl (fbk rfl) rfl) <| cE rfl (ocr (z1c u f st hs x.args [1]) z2x rfl (po2 rfl rfl) rfl (fun k (h : _) => .inr trivial) rfl rfl) <| sm 1 rfl ?_
    refine wS 116 rfl (fun hb116 => ?_) fun hb116 => ?_
    ·refine sm 3 rfl <| WL.yes rfl rfl rfl rfl rfl rfl (cRr (z1o u f st hs x.outs []) z3z rfl rfl (sSm rfl (sSm rfl (Subs.cons (fun _ _ _ _ h => z37 h) Subs.nil))) (po2 rfl rfl) (by rfl) (fun k (h : _) => .inr h) rfl (by rfl)) <| sm 2 rfl <| nL <| tRt ?_
     (have h2 : (z02 u f st x).2 = (z0q f.types st x.outs []).2 := (by simp_all [z02, andP]; done)
      rw [h2]
      refine rOk rfl ?_ (po2 rfl rfl)
      clear h2
      skip
      simp_all [z02, andP]
      done)
    refine sm 6 rfl <| nL <| tRt ?_
    (have h2 : (z02 u f st x).2 = st := (by simp_all [z02, andP]; done)
     rw [h2]
     refine rOk rfl ?_ (po2 rfl rfl)
     clear h2
     skip
     simp_all [z02, andP]
     done)
   refine tQ <| tG <| sm 2 rfl <| nL ?_
   refine tC rfl (fun hc122 => ?_) fun hc122 => ?_
   ·refine tQ <| tDr z15 (fun k => k ∈ ([3] : List Nat)) <| wR 2 [0, 1, 2, 3, 4, 5] kR0 h30 <| smR 1 rfl <| rV rfl rfl (nCk rfl rfl rfl) <| smR 1 rfl <| rV rfl rfl (lBP rfl rfl rfl uT25 rfl tS25 (lb rfl) rfl dC0) <| smR 2 rfl <| nR <| wO 6 kR0 <| wI rfl rfl (fun k (h : _) => by (simp at h ⊢; omega)) nw (fun _ _ => ocq (z8r _ _) ent58 rfl rfl) <| wR 0 [7] kR0 h30 ?_
    refine smR 1 rfl <| nR <| wDn kR0 <| tQ <| tQ <| tG <| sm 2 rfl <| nL ?_
    refine tC rfl (fun hc132 => ?_) fun hc132 => ?_
    ·refine tQ <| tG <| sm 1 rfl <| nL <| tRt ?_
     (have h2 : (z02 u f st x).2 = st := (by simp_all [z02, z3y, andP]; done)
      rw [h2]
      refine rOk rfl ?_ (po2 rfl rfl)
      clear h2
      skip
      simp_all [z02, z3y, andP]
      done)
    have hk0 : z0a x.name u.flows 0 ≥ 0 := by simp at hc132; omega
    obtain ⟨g, hgk, _⟩ := z5d hk0
    obtain ⟨hgp0, hgpl⟩ := hg g (List.mem_of_getElem? hgk)
    have hgp : g.params = (g.params.toNat : Int) := by omega
    have hgi : (u.flows.map Fl.enc)[(z0a x.name u.flows 0).toNat]? = some (Fl.enc g) := by rw [List.getElem?_map, hgk]; rfl
    have hkn : z0a x.name u.flows 0 = ((z0a x.name u.flows 0).toNat : Int) := by omega
    have hnl : ¬ z0a x.name u.flows 0 < 0 := by omega
    have hcall : z3y u f st x = andP (z12 f.types st x.args (g.types.take g.params.toNat)) st (z0q f.types st x.outs [g.ty]) := by
      unfold z3y
      rw [if_neg hnl, hgk]
    refine tSk <| tQ <| tG <| sm 1 rfl <| cV rfl (nCk rfl rfl rfl) <| sm 4 rfl <| cV rfl (iSq rfl rfl rfl uT23 hgi tS51 rfl oM0) <| cV rfl (lEA rfl rfl Tryz.underlying51 rfl tS51 (lb rfl)) <| cE rfl (aLc (k := 106) rfl tZ51 rfl rfl rfl rfl) <| c0 (sBA rfl rfl rfl rfl rfl sI0 tS51 (flk rfl) (lb rfl)) <| nL <| tQ ?_
    refine Tr.freezeBox (t := 6) (k := 106) rfl rfl rfl ?_
    refine Tr.heap (σ' := look (up (ckS u f 3 st))) (fun k => by
      simp only [look]
      by_cases h : 106 = k
      · subst h; rfl
      · simp [z00 h]) ?_
    refine tDr z15 (fun k => k ∈ ([3] : List Nat)) <| wR 11 [0, 1, 2, 3, 4, 5, 6, 7] kR0 h30 <| smR 7 rfl ?_
    refine rV rfl rfl (z50 (j := g.params.toNat) rfl rfl uT35 tS3 (.inl ⟨rfl, rfl⟩) (.inr ⟨_, _, rfl, congrArg (fun z => some (IV.pv (.val (.int .i64 z)))) hgp⟩) (Nat.zero_le _) (by simp; omega) (by simp [eInt])) ?_
    refine nR <| wO 8 kR0 ?_
    refine wI rfl rfl (fun k (h : _) => by (simp at h ⊢; omega)) (nAp rfl) (fun _ _ => cRr (z1c u f st hs x.args (g.types.take g.params.toNat)) z2x rfl rfl (sSm rfl (sSm rfl (sSm (by simp [ints, List.map_take]) Subs.nil))) (po2 rfl rfl) (by rfl) (fun k (h : _) => .inr trivial) rfl (by rfl)) ?_
    refine wR 4 [9, 10, 11, 12, 13, 14] kR0 h30 <| smR 1 rfl ?_
    refine WR.split (t := 150) rfl (fun hb150 => ?_) (fun hb150 => ?_)
    ·refine smR 5 rfl <| nR <| wO 15 kR0 <| wY rfl rfl rfl (fun k (h : _) => by (simp at h ⊢; omega)) nw (fun _ _ => bSl rfl rfl uT35 tZ3 tS3 rfl rfl rfl rfl (fbk rfl) rfl) <| wO 16 kR0 <| wY rfl rfl rfl (fun k (h : _) => by (simp at h ⊢; omega)) (nAp rfl) (fun _ _ => ocr (z1o u f st hs x.outs [g.ty]) z3z rfl (po2 rfl rfl) rfl (fun k (h : _) => by (simp only [List.mem_cons, List.not_mem_nil, or_false] at h; rcases h with rfl <;> first | exact .inl rfl | exact .inr rfl | exact .inr dC0)) rfl rfl) <| wR 0 [17, 18] kR0 h30 <| smR 2 rfl <| nR <| wDn kR0 <| tRt ?_
     have hsim : z02 u f st x = z3y u f st x := by
       clear hkn hgp hcall hnl
       simp_all [z02]
     rw [hsim, hcall]
     clear hsim hcall
     (have h2 : (andP (z12 f.types st x.args (g.types.take g.params.toNat)) st (z0q f.types st x.outs [g.ty])).2 = (z0q f.types st x.outs [g.ty]).2 := (by (try (clear hkn hgp)); simp_all [andP, andP]; done)
      rw [h2]
      refine rOk rfl ?_ (po2 rfl rfl)
      clear h2
      try (clear hkn hgp)
      simp_all [andP, andP]
      done)
    refine smR 5 rfl <| nR <| wN 15 kR0 h30 rfl rfl rfl <| wN 16 kR0 h30 rfl rfl rfl <| wR 0 [17, 18] kR0 h30 <| smR 2 rfl <| nR <| wDn kR0 <| tRt ?_
    have hsim : z02 u f st x = z3y u f st x := by
      clear hkn hgp hcall hnl
      simp_all [z02]
    rw [hsim, hcall]
    clear hsim hcall
    (have h2 : (andP (z12 f.types st x.args (g.types.take g.params.toNat)) st (z0q f.types st x.outs [g.ty])).2 = st := (by (try (clear hkn hgp)); simp_all [andP, andP]; done)
     rw [h2]
     refine rOk rfl ?_ (po2 rfl rfl)
     clear h2
     try (clear hkn hgp)
     simp_all [andP, andP]
     done)
   refine tSk <| tQ <| tG <| sm 1 rfl <| nL <| tRt ?_
   (have h2 : (z02 u f st x).2 = st := (by simp_all [z02, andP]; done)
    rw [h2]
    refine rOk rfl ?_ (po2 rfl rfl)
    clear h2
    skip
    simp_all [z02, andP]
    done)
  refine tG <| sm 2 rfl <| nL ?_
  refine tC rfl (fun hc45 => ?_) fun hc45 => ?_
  ·refine tQ <| tG <| sm 1 rfl <| cV rfl (lEA rfl rfl uT43 rfl tS43 (lb rfl)) <| cE rfl (ocr (zw1 u f st hs x) ent117 rfl (po2 rfl rfl) rfl (fun k (h : _) => .inr h) rfl rfl) <| sm 1 rfl <| nL <| tRt ?_
   have h2 : z02 u f st x = z2g f st x := by simp_all [z02]
   rw [h2]
   exact rOk rfl rfl (po2 rfl rfl)
  refine tQ <| tG <| sm 2 rfl <| nL ?_
  refine tC rfl (fun hc51 => ?_) fun hc51 => ?_
  ·refine tQ <| tDr z15 (fun k => k ∈ ([3] : List Nat)) <| wR 16 [0, 1, 2, 3, 4, 5] kR0 h30 <| smR 1 rfl <| rV rfl rfl (nCk rfl rfl rfl) <| smR 1 rfl <| rV rfl rfl (lBP rfl rfl rfl uT25 rfl tS25 (lb rfl) rfl dC0) <| smR 2 rfl <| nR <| wO 6 kR0 <| wI rfl rfl (fun k (h : _) => by (simp at h ⊢; omega)) nw (fun _ _ => ocq (z9r _ _) zu6 rfl rfl) <| wR 11 [7, 8, 9, 10] kR0 h30 ?_
   refine smR 1 rfl ?_
   refine WR.split (t := 60) rfl (fun hb60 => ?_) (fun hb60 => ?_)
   ·refine smR 3 rfl <| nR <| wO 11 kR0 <| wY rfl rfl rfl (fun k (h : _) => by (simp at h ⊢; omega)) nw (fun _ _ => bSl rfl rfl uT35 tZ3 tS3 rfl rfl rfl rfl (fbk rfl) rfl) <| wO 12 kR0 <| wY rfl rfl rfl (fun k (h : _) => by (simp at h ⊢; omega)) (nAp rfl) (fun _ _ => ocr (z1c u f st hs x.args [1]) z2x rfl (po2 rfl rfl) rfl (fun k (h : _) => .inr trivial) rfl rfl) <| wR 4 [13, 14, 15, 16, 17] kR0 h30 <| smR 2 rfl ?_
    refine WR.split (t := 67) rfl (fun hb67 => ?_) (fun hb67 => ?_)
    ·refine smR 3 rfl <| nR <| wO 18 kR0 <| wY rfl rfl rfl (fun k (h : _) => by (simp at h ⊢; omega)) nw (fun _ _ => bSl rfl rfl uT35 tZ3 tS3 rfl rfl rfl rfl (fbk rfl) rfl) <| wO 19 kR0 <| wY rfl rfl rfl (fun k (h : _) => by (simp at h ⊢; omega)) (nAp rfl) (fun _ _ => ocr (z1o u f st hs x.outs [1]) z3z rfl (po2 rfl rfl) rfl (fun k (h : _) => by (simp only [List.mem_cons, List.not_mem_nil, or_false] at h; rcases h with rfl <;> first | exact .inl rfl | exact .inr rfl | exact .inr dC0)) rfl rfl) <| wR 0 [20, 21] kR0 h30 <| smR 2 rfl <| nR <| wDn kR0 <| tRt ?_
     (have h2 : (z02 u f st x).2 = (z0q f.types st x.outs [1]).2 := (by simp_all [z02, andP]; done)
      rw [h2]
      refine rOk rfl ?_ (po2 rfl rfl)
      clear h2
      skip
      simp_all [z02, andP]
      done)
    refine smR 3 rfl <| nR <| wN 18 kR0 h30 rfl rfl rfl <| wN 19 kR0 h30 rfl rfl rfl <| wR 0 [20, 21] kR0 h30 <| smR 2 rfl <| nR <| wDn kR0 <| tRt ?_
    (have h2 : (z02 u f st x).2 = st := (by simp_all [z02, andP]; done)
     rw [h2]
     refine rOk rfl ?_ (po2 rfl rfl)
     clear h2
     skip
     simp_all [z02, andP]
     done)
   refine smR 3 rfl <| nR <| wN 11 kR0 h30 rfl rfl rfl <| wN 12 kR0 h30 rfl rfl rfl <| wR 4 [13, 14, 15, 16, 17] kR0 h30 <| smR 5 rfl <| nR <| wN 18 kR0 h30 rfl rfl rfl <| wN 19 kR0 h30 rfl rfl rfl <| wR 0 [20, 21] kR0 h30 <| smR 2 rfl <| nR ?_
   refine wDn kR0 <| tRt ?_
   (have h2 : z02 u f st x = (false, st) := (by (first | (simp_all [z02, andP]; done) | (simp_all [z02, andP] <;> omega)))
    rw [h2]
    exact rOk rfl rfl (po2 rfl rfl))
  refine tQ <| tG <| sm 2 rfl <| nL ?_
  refine tC rfl (fun hc74 => ?_) fun hc74 => ?_
  ·refine tQ <| tDr z15 (fun k => k ∈ ([3] : List Nat)) <| wR 15 [0, 1, 2, 3, 4, 5] kR0 h30 <| smR 1 rfl <| rV rfl rfl (nCk rfl rfl rfl) <| smR 1 rfl <| rV rfl rfl (lBP rfl rfl rfl uT25 rfl tS25 (lb rfl) rfl dC0) <| smR 2 rfl <| nR <| wO 6 kR0 <| wI rfl rfl (fun k (h : _) => by (simp at h ⊢; omega)) nw (fun _ _ => ocq (z9r _ _) zu6 rfl rfl) <| wR 10 [7, 8, 9, 10] kR0 h30 ?_
   refine smR 1 rfl ?_
   refine WR.split (t := 83) rfl (fun hb83 => ?_) (fun hb83 => ?_)
   ·refine smR 3 rfl <| nR <| wO 11 kR0 <| wY rfl rfl rfl (fun k (h : _) => by (simp at h ⊢; omega)) nw (fun _ _ => bSl rfl rfl uT35 tZ3 tS3 rfl rfl rfl rfl (fbk rfl) rfl) <| wO 12 kR0 <| wY rfl rfl rfl (fun k (h : _) => by (simp at h ⊢; omega)) (nAp rfl) (fun _ _ => ocr (z1c u f st hs x.args [1, 1]) z2x rfl (po2 rfl rfl) rfl (fun k (h : _) => .inr trivial) rfl rfl) <| wR 3 [13, 14, 15, 16, 17] kR0 h30 <| smR 2 rfl ?_
    refine WR.split (t := 90) rfl (fun hb90 => ?_) (fun hb90 => ?_)
    ·refine smR 3 rfl <| nR <| wO 18 kR0 <| wY rfl rfl rfl (fun k (h : _) => by (simp at h ⊢; omega)) (nAp rfl) (fun _ _ => cRr (z1o u f st hs x.outs []) z3z rfl rfl (sSm rfl (sSm rfl (Subs.cons (fun _ _ _ _ h => z37 h) Subs.nil))) (po2 rfl rfl) (by rfl) (fun k (h : _) => by (simp only [List.mem_cons, List.not_mem_nil, or_false] at h; rcases h with rfl <;> first | exact .inl rfl | exact .inr rfl | exact .inr dC0)) rfl (by rfl)) <| wR 0 [19, 20] kR0 h30 <| smR 2 rfl <| nR <| wDn kR0 <| tRt ?_
     (have h2 : (z02 u f st x).2 = (z0q f.types st x.outs []).2 := (by simp_all [z02, andP]; done)
      rw [h2]
      refine rOk rfl ?_ (po2 rfl rfl)
      clear h2
      skip
      simp_all [z02, andP]
      done)
    refine smR 3 rfl <| nR <| wN 18 kR0 h30 rfl rfl rfl <| wR 0 [19, 20] kR0 h30 <| smR 2 rfl <| nR <| wDn kR0 <| tRt ?_
    (have h2 : (z02 u f st x).2 = st := (by simp_all [z02, andP]; done)
     rw [h2]
     refine rOk rfl ?_ (po2 rfl rfl)
     clear h2
     skip
     simp_all [z02, andP]
     done)
   refine smR 3 rfl <| nR <| wN 11 kR0 h30 rfl rfl rfl <| wN 12 kR0 h30 rfl rfl rfl <| wR 3 [13, 14, 15, 16, 17] kR0 h30 <| smR 5 rfl <| nR <| wN 18 kR0 h30 rfl rfl rfl <| wR 0 [19, 20] kR0 h30 <| smR 2 rfl <| nR <| wDn kR0 ?_
   refine tRt ?_
   (have h2 : z02 u f st x = (false, st) := (by (first | (simp_all [z02, andP]; done) | (simp_all [z02, andP] <;> omega)))
    rw [h2]
    exact rOk rfl rfl (po2 rfl rfl))
  refine tQ <| tG <| sm 2 rfl <| nL ?_
  refine tC rfl (fun hc96 => ?_) fun hc96 => ?_
  ·refine tQ <| tG <| sm 3 rfl <| cE rfl (cRr (z1c u f st hs x.args []) z2x rfl rfl (sSm rfl (sSm rfl (Subs.cons (fun _ _ _ _ h => z37 h) Subs.nil))) (po2 rfl rfl) (by rfl) (fun k (h : _) => .inr trivial) rfl (by rfl)) <| sm 1 rfl ?_
   refine wS 102 rfl (fun hb102 => ?_) fun hb102 => ?_
   ·refine sm 3 rfl <| WL.yes rfl rfl rfl rfl rfl rfl (bSl rfl rfl uT35 tZ3 tS3 rfl rfl rfl rfl (fbk rfl) rfl) <| WL.yes rfl rfl rfl rfl rfl rfl (cRr (z1o u f st hs x.outs [1]) z3z rfl rfl (sRf _ _) (po2 rfl rfl) (by rfl) (fun k (h : _) => .inr h) rfl (by rfl)) <| sm 2 rfl <| nL <| tRt ?_
    (have h2 : (z02 u f st x).2 = (z0q f.types st x.outs [1]).2 := (by simp_all [z02, andP]; done)
     rw [h2]
     refine rOk rfl ?_ (po2 rfl rfl)
     clear h2
     skip
     simp_all [z02, andP]
     done)
   refine sm 7 rfl <| nL <| tRt ?_
   (have h2 : (z02 u f st x).2 = st := (by simp_all [z02, andP]; done)
    rw [h2]
    refine rOk rfl ?_ (po2 rfl rfl)
    clear h2
    skip
    simp_all [z02, andP]
    done)
  refine tQ <| tG <| sm 2 rfl <| nL ?_
  refine tC rfl (fun hc109 => ?_) fun hc109 => ?_
  ·refine tQ <| tG <| sm 3 rfl <| cE rfl (bSl rfl rfl uT35 tZ3 tS3 rfl rfl rfl rfl (fbk rfl) rfl) <| cE rfl (ocr (z1c u f st hs x.args [1]) z2x rfl (po2 rfl rfl) rfl (fun k (h : _) => .inr trivial) rfl rfl) <| sm 1 rfl ?_
   refine wS 116 rfl (fun hb116 => ?_) fun hb116 => ?_
   ·refine sm 3 rfl <| WL.yes rfl rfl rfl rfl rfl rfl (cRr (z1o u f st hs x.outs []) z3z rfl rfl (sSm rfl (sSm rfl (Subs.cons (fun _ _ _ _ h => z37 h) Subs.nil))) (po2 rfl rfl) (by rfl) (fun k (h : _) => .inr h) rfl (by rfl)) <| sm 2 rfl <| nL <| tRt ?_
    (have h2 : (z02 u f st x).2 = (z0q f.types st x.outs []).2 := (by simp_all [z02, andP]; done)
     rw [h2]
     refine rOk rfl ?_ (po2 rfl rfl)
     clear h2
     skip
     simp_all [z02, andP]
     done)
   refine sm 6 rfl <| nL <| tRt ?_
   (have h2 : (z02 u f st x).2 = st := (by simp_all [z02, andP]; done)
    rw [h2]
    refine rOk rfl ?_ (po2 rfl rfl)
    clear h2
    skip
    simp_all [z02, andP]
    done)
  refine tQ <| tG <| sm 2 rfl <| nL ?_
  refine tC rfl (fun hc122 => ?_) fun hc122 => ?_
  ·refine tQ <| tDr z15 (fun k => k ∈ ([3] : List Nat)) <| wR 2 [0, 1, 2, 3, 4, 5] kR0 h30 <| smR 1 rfl <| rV rfl rfl (nCk rfl rfl rfl) <| smR 1 rfl <| rV rfl rfl (lBP rfl rfl rfl uT25 rfl tS25 (lb rfl) rfl dC0) <| smR 2 rfl <| nR <| wO 6 kR0 <| wI rfl rfl (fun k (h : _) => by (simp at h ⊢; omega)) nw (fun _ _ => ocq (z8r _ _) ent58 rfl rfl) <| wR 0 [7] kR0 h30 ?_
   refine smR 1 rfl <| nR <| wDn kR0 <| tQ <| tQ <| tG <| sm 2 rfl <| nL ?_
   refine tC rfl (fun hc132 => ?_) fun hc132 => ?_
   ·refine tQ <| tG <| sm 1 rfl <| nL <| tRt ?_
    (have h2 : (z02 u f st x).2 = st := (by simp_all [z02, z3y, andP]; done)
     rw [h2]
     refine rOk rfl ?_ (po2 rfl rfl)
     clear h2
     skip
     simp_all [z02, z3y, andP]
     done)
   have hk0 : z0a x.name u.flows 0 ≥ 0 := by simp at hc132; omega
   obtain ⟨g, hgk, _⟩ := z5d hk0
   obtain ⟨hgp0, hgpl⟩ := hg g (List.mem_of_getElem? hgk)
   have hgp : g.params = (g.params.toNat : Int) := by omega
   have hgi : (u.flows.map Fl.enc)[(z0a x.name u.flows 0).toNat]? = some (Fl.enc g) := by rw [List.getElem?_map, hgk]; rfl
   have hkn : z0a x.name u.flows 0 = ((z0a x.name u.flows 0).toNat : Int) := by omega
   have hnl : ¬ z0a x.name u.flows 0 < 0 := by omega
   have hcall : z3y u f st x = andP (z12 f.types st x.args (g.types.take g.params.toNat)) st (z0q f.types st x.outs [g.ty]) := by
     unfold z3y
     rw [if_neg hnl, hgk]
   refine tSk <| tQ <| tG <| sm 1 rfl <| cV rfl (nCk rfl rfl rfl) <| sm 4 rfl <| cV rfl (iSq rfl rfl rfl uT23 hgi tS51 rfl oM0) <| cV rfl (lEA rfl rfl Tryz.underlying51 rfl tS51 (lb rfl)) <| cE rfl (aLc (k := 106) rfl tZ51 rfl rfl rfl rfl) <| c0 (sBA rfl rfl rfl rfl rfl sI0 tS51 (flk rfl) (lb rfl)) <| nL <| tQ ?_
   refine Tr.freezeBox (t := 6) (k := 106) rfl rfl rfl ?_
   refine Tr.heap (σ' := look (up (ckS u f 3 st))) (fun k => by
     simp only [look]
     by_cases h : 106 = k
     · subst h; rfl
     · simp [z00 h]) ?_
   refine tDr z15 (fun k => k ∈ ([3] : List Nat)) <| wR 11 [0, 1, 2, 3, 4, 5, 6, 7] kR0 h30 <| smR 7 rfl ?_
   refine rV rfl rfl (z50 (j := g.params.toNat) rfl rfl uT35 tS3 (.inl ⟨rfl, rfl⟩) (.inr ⟨_, _, rfl, congrArg (fun z => some (IV.pv (.val (.int .i64 z)))) hgp⟩) (Nat.zero_le _) (by simp; omega) (by simp [eInt])) ?_
   refine nR <| wO 8 kR0 ?_
   refine wI rfl rfl (fun k (h : _) => by (simp at h ⊢; omega)) (nAp rfl) (fun _ _ => cRr (z1c u f st hs x.args (g.types.take g.params.toNat)) z2x rfl rfl (sSm rfl (sSm rfl (sSm (by simp [ints, List.map_take]) Subs.nil))) (po2 rfl rfl) (by rfl) (fun k (h : _) => .inr trivial) rfl (by rfl)) ?_
   refine wR 4 [9, 10, 11, 12, 13, 14] kR0 h30 <| smR 1 rfl ?_
   refine WR.split (t := 150) rfl (fun hb150 => ?_) (fun hb150 => ?_)
   ·refine smR 5 rfl <| nR <| wO 15 kR0 <| wY rfl rfl rfl (fun k (h : _) => by (simp at h ⊢; omega)) nw (fun _ _ => bSl rfl rfl uT35 tZ3 tS3 rfl rfl rfl rfl (fbk rfl) rfl) <| wO 16 kR0 <| wY rfl rfl rfl (fun k (h : _) => by (simp at h ⊢; omega)) (nAp rfl) (fun _ _ => ocr (z1o u f st hs x.outs [g.ty]) z3z rfl (po2 rfl rfl) rfl (fun k (h : _) => by (simp only [List.mem_cons, List.not_mem_nil, or_false] at h; rcases h with rfl <;> first | exact .inl rfl | exact .inr rfl | exact .inr dC0)) rfl rfl) <| wR 0 [17, 18] kR0 h30 <| smR 2 rfl <| nR <| wDn kR0 <| tRt ?_
    have hsim : z02 u f st x = z3y u f st x := by
      clear hkn hgp hcall hnl
      simp_all [z02]
    rw [hsim, hcall]
    clear hsim hcall
    (have h2 : (andP (z12 f.types st x.args (g.types.take g.params.toNat)) st (z0q f.types st x.outs [g.ty])).2 = (z0q f.types st x.outs [g.ty]).2 := (by (try (clear hkn hgp)); simp_all [andP, andP]; done)
     rw [h2]
     refine rOk rfl ?_ (po2 rfl rfl)
     clear h2
     try (clear hkn hgp)
     simp_all [andP, andP]
     done)
   refine smR 5 rfl <| nR <| wN 15 kR0 h30 rfl rfl rfl <| wN 16 kR0 h30 rfl rfl rfl <| wR 0 [17, 18] kR0 h30 <| smR 2 rfl <| nR <| wDn kR0 <| tRt ?_
   have hsim : z02 u f st x = z3y u f st x := by
     clear hkn hgp hcall hnl
     simp_all [z02]
   rw [hsim, hcall]
   clear hsim hcall
   (have h2 : (andP (z12 f.types st x.args (g.types.take g.params.toNat)) st (z0q f.types st x.outs [g.ty])).2 = st := (by (try (clear hkn hgp)); simp_all [andP, andP]; done)
    rw [h2]
    refine rOk rfl ?_ (po2 rfl rfl)
    clear h2
    try (clear hkn hgp)
    simp_all [andP, andP]
    done)
  refine tSk <| tQ <| tG <| sm 1 rfl <| nL <| tRt ?_
  (have h2 : (z02 u f st x).2 = st := (by simp_all [z02, andP]; done)
   rw [h2]
   refine rOk rfl ?_ (po2 rfl rfl)
   clear h2
   skip
   simp_all [z02, andP]
   done)
theorem zt1 (u : Un) (f : Fl) (st : List Int) (hs : st.length = f.types.length) (x : Nd) (ka kb : List Nd) (hkids : x.kids = [ka, kb]) (wh : Wh) (deep : Int) (hbo : x.outs.length <= 1073741824) (ih : ∀ q ∈ x.kids, ∀ (w : Wh) (st : List Int), st.length = f.types.length -> SC Tryz.prog 61 [.ptr 3 0, .pv (z07 q), .pv (whv w), iInt deep] (ckS u f 3 st) (fun k => k = 3) (iBool (z0n u f deep w st q).1) (ckS u f 3 (z0n u f deep w st q).2)) : SC Tryz.prog 101 [.ptr 3 0, .pv (ndv x), .pv (whv wh), iInt deep] (ckS u f 3 st) (fun k => k = 3) (iBool (if z12 f.types st x.args [2] then andQ (z0n u f deep ⟨true, wh.Loop, r8of f.types x.outs, wh.Next, wh.Left⟩ st ka) (fun s1 => andQ (z0n u f deep ⟨true, wh.Loop, r8of f.types x.outs, wh.Next, wh.Left⟩ s1 kb) fun s2 => z18 f x s2) else (false, st)).1) (ckS u f 3 (if z12 f.types st x.args [2] then andQ (z0n u f deep ⟨true, wh.Loop, r8of f.types x.outs, wh.Next, wh.Left⟩ st ka) (fun s1 => andQ (z0n u f deep ⟨true, wh.Loop, r8of f.types x.outs, wh.Next, wh.Left⟩ s1 kb) fun s2 => z18 f x s2) else (false, st)).2) := by
  refine SC.of Tryz.func101 rfl (lb rfl) fun F ρ w => ?_
  have hi0 : (x.kids.map eKid)[0]? = some [z07 ka] := by rw [hkids]; rfl
  have hi1 : (x.kids.map eKid)[1]? = some [z07 kb] := by rw [hkids]; rfl
  have hm0 : ka ∈ x.kids := by rw [hkids]; simp
  have hm1 : kb ∈ x.kids := by rw [hkids]; simp
  have hs1 : (z0n u f deep ⟨true, wh.Loop, r8of f.types x.outs, wh.Next, wh.Left⟩ st ka).2.length = f.types.length := (z5s ..).trans hs
  have hs2 : (z0n u f deep ⟨true, wh.Loop, r8of f.types x.outs, wh.Next, wh.Left⟩ (z0n u f deep ⟨true, wh.Loop, r8of f.types x.outs, wh.Next, wh.Left⟩ st ka).2 kb).2.length = f.types.length := (z5s ..).trans hs1
  refine tQ <| tG <| cE rfl (z13 rfl rfl) <| cE rfl (z8m (k := 106) rfl rfl rfl rfl rfl rfl) <| sm 1 rfl <| nL <| tQ <| tG <| sm 3 rfl <| cE rfl (ocr (z4a u f st hs x.outs hbo) zf6 rfl (po2 rfl rfl) rfl (fun k (h : _) => by (subst h; first | exact .inl rfl | exact .inr rfl | exact .inr dC0)) rfl rfl) <| sm 1 rfl <| c0 (sBx rfl rfl rfl rfl sI0 tS4 (rfl) (lb rfl)) ?_
  refine sm 1 rfl <| c0 (sBx rfl rfl rfl rfl sI0 tS35 (rfl) (lb rfl)) <| nL <| tQ <| tDr z15 (fun k => k ∈ ([3, 106] : List Nat)) <| wR 40 [0, 1, 2] kR0 h30 <| smR 3 rfl <| nR <| wO 3 kR0 <| wI rfl rfl (fun k (h : _) => by (simp at h ⊢; omega)) nw (fun _ _ => bSl rfl rfl uT35 tZ3 tS3 rfl rfl rfl rfl (fbk rfl) rfl) <| wO 4 kR0 <| wI rfl rfl (fun k (h : _) => by (simp at h ⊢; omega)) (nAp rfl) (fun _ _ => ocr (z1c u f st hs x.args [2]) z2x rfl (po2 rfl rfl) rfl (fun k (h : _) => .inr trivial) rfl rfl) ?_
  refine wR 30 [5, 6, 7, 8, 9, 10, 11, 12] kR0 h30 <| smR 1 rfl ?_
  refine WR.split (t := 20) rfl (fun hb20 => ?_) (fun hb20 => ?_)
  ·refine smR 3 rfl <| ryV rfl rfl rfl (iSq rfl rfl rfl uT41 hi0 tS44 rfl (by rfl)) <| smR 1 rfl <| ryV rfl rfl rfl (lBP rfl rfl rfl Tryz.underlying104 rfl zk1 (lb rfl) rfl dC0) <| smR 1 rfl <| nR <| wO 13 kR0 <| wY rfl rfl rfl (fun k (h : _) => by (simp at h ⊢; omega)) (nAp rfl) (fun _ _ => ocr (ih ka hm0 ⟨true, wh.Loop, r8of f.types x.outs, wh.Next, wh.Left⟩ st hs) ent61 rfl (po2 rfl rfl) rfl (fun k (h : _) => by (simp only [List.mem_cons, List.not_mem_nil, or_false] at h; rcases h with rfl | rfl <;> first | exact .inl rfl | exact .inr rfl | exact .inr dC0)) rfl rfl) <| wR 20 [14, 15, 16, 17, 18, 19, 20, 21, 22] kR0 h30 <| smR 2 rfl ?_
   refine WR.split (t := 30) rfl (fun hb30 => ?_) (fun hb30 => ?_)
   ·refine smR 3 rfl <| ryV rfl rfl rfl (iSq rfl rfl rfl uT41 hi1 tS44 rfl (by rfl)) <| smR 1 rfl <| ryV rfl rfl rfl (lBP rfl rfl rfl Tryz.underlying104 rfl zk1 (lb rfl) rfl dC0) <| smR 1 rfl <| nR <| wO 23 kR0 <| wY rfl rfl rfl (fun k (h : _) => by (simp at h ⊢; omega)) (nAp rfl) (fun _ _ => ocr (ih kb hm1 ⟨true, wh.Loop, r8of f.types x.outs, wh.Next, wh.Left⟩ (z0n u f deep ⟨true, wh.Loop, r8of f.types x.outs, wh.Next, wh.Left⟩ st ka).2 hs1) ent61 rfl (po2 rfl rfl) rfl (fun k (h : _) => by (simp only [List.mem_cons, List.not_mem_nil, or_false] at h; rcases h with rfl | rfl <;> first | exact .inl rfl | exact .inr rfl | exact .inr dC0)) rfl rfl) <| wR 11 [24, 25, 26, 27, 28, 29, 30, 31] kR0 h30 <| smR 2 rfl ?_
    refine WR.split (t := 40) rfl (fun hb40 => ?_) (fun hb40 => ?_)
    ·refine smR 2 rfl <| ryV rfl rfl rfl (oSm uT35 rfl) <| smR 2 rfl ?_
     refine WR.split (t := 45) rfl (fun hb45 => ?_) (fun hb45 => ?_)
     ·refine smR 1 rfl <| nR <| wN 32 kR0 h30 rfl rfl rfl <| wR 3 [33, 34, 35, 36, 37, 38, 39] kR0 h30 <| smR 7 rfl <| nR <| wO 40 kR0 <| wY rfl rfl rfl (fun k (h : _) => by (simp at h ⊢; omega)) (nAp rfl) (fun _ _ => ocr (z8a u f (z0n u f deep ⟨true, wh.Loop, r8of f.types x.outs, wh.Next, wh.Left⟩ (z0n u f deep ⟨true, wh.Loop, r8of f.types x.outs, wh.Next, wh.Left⟩ st ka).2 kb).2 hs2 x.outs hbo) zl2 rfl (po2 rfl rfl) rfl (fun k (h : _) => by (simp only [List.mem_cons, List.not_mem_nil, or_false] at h; rcases h with rfl | rfl <;> first | exact .inl rfl | exact .inr rfl | exact .inr dC0)) rfl rfl) <| wR 0 [41, 42] kR0 h30 <| smR 2 rfl <| nR <| wDn kR0 ?_
      refine tRt ?_
      (have h2 : (if z12 f.types st x.args [2] then andQ (z0n u f deep ⟨true, wh.Loop, r8of f.types x.outs, wh.Next, wh.Left⟩ st ka) (fun s1 => andQ (z0n u f deep ⟨true, wh.Loop, r8of f.types x.outs, wh.Next, wh.Left⟩ s1 kb) fun s2 => z18 f x s2) else (false, st)).2 = (z0q f.types (z0n u f deep ⟨true, wh.Loop, r8of f.types x.outs, wh.Next, wh.Left⟩ (z0n u f deep ⟨true, wh.Loop, r8of f.types x.outs, wh.Next, wh.Left⟩ st ka).2 kb).2 x.outs (List.replicate x.outs.length 0)).2 := (by simp_all [andQ, andP, z18]; done)
       rw [h2]
       refine rOk rfl ?_ (po2 rfl rfl)
       clear h2
       simp_all [andQ, andP, z18]
       done)
     refine ryV rfl rfl rfl (lEA rfl rfl uT43 rfl tS43 (lb rfl)) <| nR <| wO 32 kR0 <| wY rfl rfl rfl (fun k (h : _) => by (simp at h ⊢; omega)) nw (fun _ _ => ocq (z7j _) ent86 rfl rfl) <| wR 3 [33, 34, 35, 36, 37, 38, 39] kR0 h30 <| smR 4 rfl ?_
     refine WR.split (t := 51) rfl (fun hb51 => ?_) (fun hb51 => ?_)
     ·refine smR 3 rfl <| nR <| wO 40 kR0 <| wY rfl rfl rfl (fun k (h : _) => by (simp at h ⊢; omega)) (nAp rfl) (fun _ _ => ocr (z8a u f (z0n u f deep ⟨true, wh.Loop, r8of f.types x.outs, wh.Next, wh.Left⟩ (z0n u f deep ⟨true, wh.Loop, r8of f.types x.outs, wh.Next, wh.Left⟩ st ka).2 kb).2 hs2 x.outs hbo) zl2 rfl (po2 rfl rfl) rfl (fun k (h : _) => by (simp only [List.mem_cons, List.not_mem_nil, or_false] at h; rcases h with rfl | rfl <;> first | exact .inl rfl | exact .inr rfl | exact .inr dC0)) rfl rfl) <| wR 0 [41, 42] kR0 h30 <| smR 2 rfl <| nR <| wDn kR0 <| tRt ?_
      (have h2 : (if z12 f.types st x.args [2] then andQ (z0n u f deep ⟨true, wh.Loop, r8of f.types x.outs, wh.Next, wh.Left⟩ st ka) (fun s1 => andQ (z0n u f deep ⟨true, wh.Loop, r8of f.types x.outs, wh.Next, wh.Left⟩ s1 kb) fun s2 => z18 f x s2) else (false, st)).2 = (z0q f.types (z0n u f deep ⟨true, wh.Loop, r8of f.types x.outs, wh.Next, wh.Left⟩ (z0n u f deep ⟨true, wh.Loop, r8of f.types x.outs, wh.Next, wh.Left⟩ st ka).2 kb).2 x.outs (List.replicate x.outs.length 0)).2 := (by simp_all [andQ, andP, z18]; done)
       rw [h2]
       refine rOk rfl ?_ (po2 rfl rfl)
       clear h2
       simp_all [andQ, andP, z18]
       done)
     refine smR 3 rfl <| nR <| wN 40 kR0 h30 rfl rfl rfl <| wR 0 [41, 42] kR0 h30 <| smR 2 rfl <| nR <| wDn kR0 <| tRt ?_
     (have h2 : (if z12 f.types st x.args [2] then andQ (z0n u f deep ⟨true, wh.Loop, r8of f.types x.outs, wh.Next, wh.Left⟩ st ka) (fun s1 => andQ (z0n u f deep ⟨true, wh.Loop, r8of f.types x.outs, wh.Next, wh.Left⟩ s1 kb) fun s2 => z18 f x s2) else (false, st)).2 = (z0n u f deep ⟨true, wh.Loop, r8of f.types x.outs, wh.Next, wh.Left⟩ (z0n u f deep ⟨true, wh.Loop, r8of f.types x.outs, wh.Next, wh.Left⟩ st ka).2 kb).2 := (by simp_all [andQ, andP, z18]; done)
      rw [h2]
      refine rOk rfl ?_ (po2 rfl rfl)
      clear h2
      simp_all [andQ, andP, z18]
      done)
    refine smR 5 rfl <| nUr rfl rfl rfl rfl rfl rfl rfl <| nR <| WA.takeNoU (i := 32) rfl kR0 kR0 kR0 (h30) rfl rfl rfl rfl rfl rfl <| wR 3 [33, 34, 35, 36, 37, 38, 39] kR0 h30 <| nUr rfl rfl rfl rfl rfl rfl rfl <| smR 6 rfl <| nR <| wN 40 kR0 h30 rfl rfl rfl <| wR 0 [41, 42] kR0 h30 <| smR 2 rfl <| nR ?_
    refine wDn kR0 <| tRt ?_
    (have h2 : (if z12 f.types st x.args [2] then andQ (z0n u f deep ⟨true, wh.Loop, r8of f.types x.outs, wh.Next, wh.Left⟩ st ka) (fun s1 => andQ (z0n u f deep ⟨true, wh.Loop, r8of f.types x.outs, wh.Next, wh.Left⟩ s1 kb) fun s2 => z18 f x s2) else (false, st)).2 = (z0n u f deep ⟨true, wh.Loop, r8of f.types x.outs, wh.Next, wh.Left⟩ (z0n u f deep ⟨true, wh.Loop, r8of f.types x.outs, wh.Next, wh.Left⟩ st ka).2 kb).2 := (by simp_all [andQ, andP, z18]; done)
     rw [h2]
     refine rOk rfl ?_ (po2 rfl rfl)
     clear h2
     simp_all [andQ, andP, z18]
     done)
   refine smR 7 rfl <| nR <| wN 23 kR0 h30 rfl rfl rfl <| wR 11 [24, 25, 26, 27, 28, 29, 30, 31] kR0 h30 <| smR 7 rfl <| nUr rfl rfl rfl rfl rfl rfl rfl <| nR <| WA.takeNoU (i := 32) rfl kR0 kR0 kR0 (h30) rfl rfl rfl rfl rfl rfl <| wR 3 [33, 34, 35, 36, 37, 38, 39] kR0 h30 <| nUr rfl rfl rfl rfl rfl rfl rfl <| smR 6 rfl <| nR ?_
   refine wN 40 kR0 h30 rfl rfl rfl <| wR 0 [41, 42] kR0 h30 <| smR 2 rfl <| nR <| wDn kR0 <| tRt ?_
   (have h2 : (if z12 f.types st x.args [2] then andQ (z0n u f deep ⟨true, wh.Loop, r8of f.types x.outs, wh.Next, wh.Left⟩ st ka) (fun s1 => andQ (z0n u f deep ⟨true, wh.Loop, r8of f.types x.outs, wh.Next, wh.Left⟩ s1 kb) fun s2 => z18 f x s2) else (false, st)).2 = (z0n u f deep ⟨true, wh.Loop, r8of f.types x.outs, wh.Next, wh.Left⟩ st ka).2 := (by simp_all [andQ, andP, z18]; done)
    rw [h2]
    refine rOk rfl ?_ (po2 rfl rfl)
    clear h2
    simp_all [andQ, andP, z18]
    done)
  refine smR 7 rfl <| nR <| wN 13 kR0 h30 rfl rfl rfl <| wR 20 [14, 15, 16, 17, 18, 19, 20, 21, 22] kR0 h30 <| smR 9 rfl <| nR <| wN 23 kR0 h30 rfl rfl rfl <| wR 11 [24, 25, 26, 27, 28, 29, 30, 31] kR0 h30 <| smR 7 rfl <| nUr rfl rfl rfl rfl rfl rfl rfl <| nR <| WA.takeNoU (i := 32) rfl kR0 kR0 kR0 (h30) rfl rfl rfl rfl rfl rfl ?_
  refine wR 3 [33, 34, 35, 36, 37, 38, 39] kR0 h30 <| nUr rfl rfl rfl rfl rfl rfl rfl <| smR 6 rfl <| nR <| wN 40 kR0 h30 rfl rfl rfl <| wR 0 [41, 42] kR0 h30 <| smR 2 rfl <| nR <| wDn kR0 <| tRt ?_
  (have h2 : (if z12 f.types st x.args [2] then andQ (z0n u f deep ⟨true, wh.Loop, r8of f.types x.outs, wh.Next, wh.Left⟩ st ka) (fun s1 => andQ (z0n u f deep ⟨true, wh.Loop, r8of f.types x.outs, wh.Next, wh.Left⟩ s1 kb) fun s2 => z18 f x s2) else (false, st)).2 = st := (by simp_all [andQ, andP, z18]; done)
   rw [h2]
   refine rOk rfl ?_ (po2 rfl rfl)
   clear h2
   simp_all [andQ, andP, z18]
   done)
theorem y28 (u : Un) (f : Fl) (st : List Int) (hs : st.length = f.types.length) (x : Nd) (ka : List Nd) (hkids : x.kids = [ka]) (deep : Int) (hbo : x.outs.length <= 1073741824) (hbp : x.params.length <= 1073741824) (ih : ∀ q ∈ x.kids, ∀ (w : Wh) (st : List Int), st.length = f.types.length -> SC Tryz.prog 61 [.ptr 3 0, .pv (z07 q), .pv (whv w), iInt deep] (ckS u f 3 st) (fun k => k = 3) (iBool (z0n u f deep w st q).1) (ckS u f 3 (z0n u f deep w st q).2)) : SC Tryz.prog 102 [.ptr 3 0, .pv (ndv x), iInt deep] (ckS u f 3 st) (fun k => k = 3) (iBool (if z12 f.types st x.args (r8of f.types x.params) then andQ (z0q f.types st x.params (List.replicate x.params.length 0)) (fun s1 => andQ (z0n u f deep ⟨false, true, [], r8of f.types x.params, r8of f.types x.outs⟩ s1 ka) fun s2 => z18 f x (z1v s2 x.params)) else (false, st)).1) (ckS u f 3 (if z12 f.types st x.args (r8of f.types x.params) then andQ (z0q f.types st x.params (List.replicate x.params.length 0)) (fun s1 => andQ (z0n u f deep ⟨false, true, [], r8of f.types x.params, r8of f.types x.outs⟩ s1 ka) fun s2 => z18 f x (z1v s2 x.params)) else (false, st)).2) := by
  refine SC.of Tryz.func102 rfl (lb rfl) fun F ρ w => ?_
  have hi0 : (x.kids.map eKid)[0]? = some [z07 ka] := by rw [hkids]; rfl
  have hm0 : ka ∈ x.kids := by rw [hkids]; simp
  have hs1 : (z0q f.types st x.params (List.replicate x.params.length 0)).2.length = f.types.length := (z2b ..).trans hs
  have hs2 : (z0n u f deep ⟨false, true, [], r8of f.types x.params, r8of f.types x.outs⟩ (z0q f.types st x.params (List.replicate x.params.length 0)).2 ka).2.length = f.types.length := (z5s ..).trans hs1
  have hs3 : (z1v (z0n u f deep ⟨false, true, [], r8of f.types x.params, r8of f.types x.outs⟩ (z0q f.types st x.params (List.replicate x.params.length 0)).2 ka).2 x.params).length = f.types.length := (z3h ..).trans hs2
  refine tQ <| tG <| cE rfl (z13 rfl rfl) <| sm 1 rfl <| nL <| tQ ?_
  refine Tr.cut (fr' := [(7, .ptr 107 0), (4, .pv (.ept [vInt x.kind, vInt x.op, vInt x.n, vStr x.name, ints x.args, ints x.outs, ints x.params, kids x.kids] 0)), (0, .ptr 3 0), (2, iInt deep)]) (σ' := look ((107, some (.box [iBool false, iBool true, .pv (.val (.slice none 0 0)), .pv (ints (r8of f.types x.params)), .pv (ints (r8of f.types x.outs))])) :: up (ckS u f 3 st))) ?_ ?_
  ·refine tDr z15 (fun k => k ∈ ([3] : List Nat)) <| wR 5 [0, 1, 2, 4, 5, 6] kR0 (fun _ _ _ h => pn h.1) <| smR 6 rfl <| nR <| WA.all (rs := [3, 9]) kR0 sI0 ?_
   refine fmc ⟨?_, fmc ⟨?_, by simp⟩⟩
   ·refine wI rfl rfl (fun k (h : _) => by (simp at h ⊢; omega)) (nAp rfl) (fun _ _ => ocr (z4a u f st hs x.params hbp) zf6 rfl (po2 rfl rfl) rfl (fun k (h : _) => by (simp only [List.mem_cons, List.not_mem_nil, or_false] at h; rcases h with rfl <;> first | exact .inl rfl | exact .inr rfl | exact .inr dC0)) rfl rfl) <| WA.all (rs := [7, 9]) kR0 sI0 ?_
    refine fmc ⟨?_, fmc ⟨?_, by simp⟩⟩
    ·refine wI rfl rfl (fun k (h : _) => by (simp at h ⊢; omega)) (nAp rfl) (fun _ _ => ocr (z4a u f st hs x.outs hbo) zf6 rfl (po2 rfl rfl) rfl (fun k (h : _) => by (simp only [List.mem_cons, List.not_mem_nil, or_false] at h; rcases h with rfl <;> first | exact .inl rfl | exact .inr rfl | exact .inr dC0)) rfl rfl) <| wR 2 [8] kR0 (fun _ _ _ h => pn h.1) <| rV rfl rfl (bPu rfl rfl zt7 tP104 rfl (fbk rfl) rfl) <| nR <| wO 9 kR0 <| wI rfl rfl (fun k (h : _) => by (simp at h ⊢; omega)) (z10 rfl) (fun _ _ => aLc (k := 107) rfl zt7 rfl rfl rfl rfl) <| wO 10 kR0 <| wI rfl rfl (fun k (h : _) => by (simp at h ⊢; omega)) (nOl rfl) (fun _ _ => sBA rfl rfl rfl rfl rfl sI0 zk1 (flk rfl) (lb rfl)) <| wDn kR0 ?_
     refine ⟨rfl, Sub.of ⟨rfl, rfl, rfl, rfl, trivial⟩, ?_⟩
     funext k
     by_cases h7 : 107 = k
     ·subst h7; rfl
     simp [look, z7x, z00 h7]
    refine wI rfl rfl (fun k (h : _) => by (simp at h ⊢; omega)) (z10 rfl) (fun _ _ => aLc (k := 107) rfl zt7 rfl rfl rfl rfl) <| wO 7 kR0 <| wI rfl rfl (fun k (h : _) => by (simp at h ⊢; omega)) (nAp rfl) (fun _ _ => ocr (z4a u f st hs x.outs hbo) zf6 rfl (po2 rfl rfl) rfl (fun k (h : _) => by (simp only [List.mem_cons, List.not_mem_nil, or_false] at h; rcases h with rfl <;> first | exact .inl rfl | exact .inr rfl | exact .inr dC0)) rfl rfl) <| wR 1 [8] kR0 (fun _ _ _ h => pn h.1) <| rV rfl rfl (bPu rfl rfl zt7 tP104 rfl (fbk rfl) rfl) <| nR <| wO 10 kR0 <| wI rfl rfl (fun k (h : _) => by (simp at h ⊢; omega)) (nOl rfl) (fun _ _ => sBA rfl rfl rfl rfl rfl sI0 zk1 (flk rfl) (lb rfl)) <| wDn kR0 ?_
    refine ⟨rfl, Sub.of ⟨rfl, rfl, rfl, rfl, trivial⟩, ?_⟩
    funext k
    by_cases h7 : 107 = k
    ·subst h7; rfl
    simp [look, z7x, z00 h7]
   refine wI rfl rfl (fun k (h : _) => by (simp at h ⊢; omega)) (z10 rfl) (fun _ _ => aLc (k := 107) rfl zt7 rfl rfl rfl rfl) <| wO 3 kR0 <| wI rfl rfl (fun k (h : _) => by (simp at h ⊢; omega)) (nAp rfl) (fun _ _ => ocr (z4a u f st hs x.params hbp) zf6 rfl (po2 rfl rfl) rfl (fun k (h : _) => by (simp only [List.mem_cons, List.not_mem_nil, or_false] at h; rcases h with rfl <;> first | exact .inl rfl | exact .inr rfl | exact .inr dC0)) rfl rfl) <| wO 7 kR0 <| wI rfl rfl (fun k (h : _) => by (simp at h ⊢; omega)) (nAp rfl) (fun _ _ => ocr (z4a u f st hs x.outs hbo) zf6 rfl (po2 rfl rfl) rfl (fun k (h : _) => by (simp only [List.mem_cons, List.not_mem_nil, or_false] at h; rcases h with rfl <;> first | exact .inl rfl | exact .inr rfl | exact .inr dC0)) rfl rfl) <| wR 1 [8] kR0 (fun _ _ _ h => pn h.1) <| rV rfl rfl (bPu rfl rfl zt7 tP104 rfl (fbk rfl) rfl) <| nR <| wO 10 kR0 <| wI rfl rfl (fun k (h : _) => by (simp at h ⊢; omega)) (nOl rfl) (fun _ _ => sBA rfl rfl rfl rfl rfl sI0 zk1 (flk rfl) (lb rfl)) <| wDn kR0 ?_
   refine ⟨rfl, Sub.of ⟨rfl, rfl, rfl, rfl, trivial⟩, ?_⟩
   funext k
   by_cases h7 : 107 = k
   ·subst h7; rfl
   simp [look, z7x, z00 h7]
  refine tQ <| tQ <| tDr z15 (fun k => k ∈ ([3, 107] : List Nat)) <| wR 20 [0, 1, 2, 3, 4] kR0 h30 <| smR 4 rfl <| rV rfl rfl (oLb uT35 rfl rfl rfl dC0) <| nR <| wO 5 kR0 <| wI rfl rfl (fun k (h : _) => by (simp at h ⊢; omega)) (nAp rfl) (fun _ _ => ocr (z1c u f st hs x.args (r8of f.types x.params)) z2x rfl (po2 rfl rfl) rfl (fun k (h : _) => .inr trivial) rfl rfl) <| wR 14 [6, 7, 8, 9, 10] kR0 h30 <| smR 2 rfl ?_
  refine WR.split (t := 24) rfl (fun hb24 => ?_) (fun hb24 => ?_)
  ·refine smR 3 rfl <| nR <| wN 11 kR0 h30 rfl rfl rfl <| wR 3 [12, 13, 14, 15, 16, 17, 18, 19, 20, 21] kR0 h30 <| smR 10 rfl <| nR <| wN 22 kR0 h30 rfl rfl rfl <| wR 0 [23, 24] kR0 h30 <| smR 2 rfl <| nR <| wDn kR0 <| Tr.condT rfl ?_
   refine tQ <| tG <| sm 1 rfl <| nL <| tRt ?_
   (have h2 : (if z12 f.types st x.args (r8of f.types x.params) then andQ (z0q f.types st x.params (List.replicate x.params.length 0)) (fun s1 => andQ (z0n u f deep ⟨false, true, [], r8of f.types x.params, r8of f.types x.outs⟩ s1 ka) fun s2 => z18 f x (z1v s2 x.params)) else (false, st)).2 = st := (by simp_all [andQ, andP, z18]; done)
    rw [h2]
    refine rOk rfl ?_ (po2 rfl rfl)
    clear h2
    simp_all [andQ, andP, z18]
    done)
  refine smR 3 rfl <| nR <| wO 11 kR0 <| wY rfl rfl rfl (fun k (h : _) => by (simp at h ⊢; omega)) (nAp rfl) (fun _ _ => ocr (z8a u f st hs x.params hbp) zl2 rfl (po2 rfl rfl) rfl (fun k (h : _) => by (simp only [List.mem_cons, List.not_mem_nil, or_false] at h; rcases h with rfl | rfl <;> first | exact .inl rfl | exact .inr rfl | exact .inr dC0)) rfl rfl) <| wR 3 [12, 13, 14, 15, 16, 17, 18, 19, 20, 21] kR0 h30 <| smR 3 rfl ?_
  refine WR.split (t := 31) rfl (fun hb31 => ?_) (fun hb31 => ?_)
  ·refine smR 7 rfl <| nR <| wN 22 kR0 h30 rfl rfl rfl <| wR 0 [23, 24] kR0 h30 <| smR 2 rfl <| nR <| wDn kR0 <| Tr.condT rfl <| tQ <| tG <| sm 1 rfl <| nL ?_
   refine tRt ?_
   (have h2 : (if z12 f.types st x.args (r8of f.types x.params) then andQ (z0q f.types st x.params (List.replicate x.params.length 0)) (fun s1 => andQ (z0n u f deep ⟨false, true, [], r8of f.types x.params, r8of f.types x.outs⟩ s1 ka) fun s2 => z18 f x (z1v s2 x.params)) else (false, st)).2 = (z0q f.types st x.params (List.replicate x.params.length 0)).2 := (by simp_all [andQ, andP, z18]; done)
    rw [h2]
    refine rOk rfl ?_ (po2 rfl rfl)
    clear h2
    simp_all [andQ, andP, z18]
    done)
  refine smR 3 rfl <| ryV rfl rfl rfl (iSq rfl rfl rfl uT41 hi0 tS44 rfl (by rfl)) <| smR 1 rfl <| ryV rfl rfl rfl (lBP rfl rfl rfl Tryz.underlying104 rfl zk1 (lb rfl) rfl dC0) <| smR 1 rfl <| nR <| wO 22 kR0 <| wY rfl rfl rfl (fun k (h : _) => by (simp at h ⊢; omega)) (nAp rfl) (fun _ _ => cRr (ih ka hm0 ⟨false, true, [], r8of f.types x.params, r8of f.types x.outs⟩ (z0q f.types st x.params (List.replicate x.params.length 0)).2 hs1) ent61 rfl rfl (sSm rfl (sSm rfl (Subs.cons (fun _ _ _ _ h => z42 (q := whv ⟨false, true, [], r8of f.types x.params, r8of f.types x.outs⟩) (PSub.agg (ps := [vBool false, vBool true, .val (.slice none 0 0), ints (r8of f.types x.params), ints (r8of f.types x.outs)]) (And.intro (PSub.refl _) (And.intro (PSub.refl _) (And.intro PSub.nil (And.intro (PSub.refl _) (And.intro (PSub.refl _) trivial)))))) h) (sSm rfl Subs.nil)))) (po2 rfl rfl) (by rfl) (fun k (h : _) => by (simp only [List.mem_cons, List.not_mem_nil, or_false] at h; rcases h with rfl | rfl <;> first | exact .inl rfl | exact .inr rfl | exact .inr dC0)) rfl (by rfl)) <| wR 0 [23, 24] kR0 h30 <| smR 2 rfl <| nR <| wDn kR0 ?_
  refine tC rfl (fun hc41 => ?_) fun hc41 => ?_
  ·refine tQ <| tG <| sm 1 rfl <| nL <| tRt ?_
   (have h2 : (if z12 f.types st x.args (r8of f.types x.params) then andQ (z0q f.types st x.params (List.replicate x.params.length 0)) (fun s1 => andQ (z0n u f deep ⟨false, true, [], r8of f.types x.params, r8of f.types x.outs⟩ s1 ka) fun s2 => z18 f x (z1v s2 x.params)) else (false, st)).2 = (z0n u f deep ⟨false, true, [], r8of f.types x.params, r8of f.types x.outs⟩ (z0q f.types st x.params (List.replicate x.params.length 0)).2 ka).2 := (by simp_all [andQ, andP, z18]; done)
    rw [h2]
    refine rOk rfl ?_ (po2 rfl rfl)
    clear h2
    simp_all [andQ, andP, z18]
    done)
  refine tSk <| tQ ?_
  have hpin : ∀ v ∈ x.params, 0 <= v /\ v < f.types.length := by
    have hp1 : (z0q f.types st x.params (List.replicate x.params.length 0)).1 = true := by simp_all
    exact zd4 hp1
  refine tG <| sm 3 rfl <| cE rfl (ocr (zp1 u f (z0n u f deep ⟨false, true, [], r8of f.types x.params, r8of f.types x.outs⟩ (z0q f.types st x.params (List.replicate x.params.length 0)).2 ka).2 hs2 x.params hpin) ent87 rfl (po2 rfl rfl) rfl (fun k (h : _) => .inr h) rfl rfl) <| nL <| tQ <| tG <| sm 2 rfl <| cV rfl (oSm uT35 rfl) <| sm 2 rfl ?_
  refine wS 50 rfl (fun hb50 => ?_) fun hb50 => ?_
  ·refine sm 8 rfl <| WL.yes rfl rfl rfl rfl rfl rfl (cRr (z8a u f (z1v (z0n u f deep ⟨false, true, [], r8of f.types x.params, r8of f.types x.outs⟩ (z0q f.types st x.params (List.replicate x.params.length 0)).2 ka).2 x.params) hs3 x.outs hbo) zl2 rfl rfl (sRf _ _) (po2 rfl rfl) (by rfl) (fun k (h : _) => .inr h) rfl (by rfl)) <| sm 2 rfl <| nL <| tRt ?_
   (have h2 : (if z12 f.types st x.args (r8of f.types x.params) then andQ (z0q f.types st x.params (List.replicate x.params.length 0)) (fun s1 => andQ (z0n u f deep ⟨false, true, [], r8of f.types x.params, r8of f.types x.outs⟩ s1 ka) fun s2 => z18 f x (z1v s2 x.params)) else (false, st)).2 = (z0q f.types (z1v (z0n u f deep ⟨false, true, [], r8of f.types x.params, r8of f.types x.outs⟩ (z0q f.types st x.params (List.replicate x.params.length 0)).2 ka).2 x.params) x.outs (List.replicate x.outs.length 0)).2 := (by simp_all [andQ, andP, z18]; done)
    rw [h2]
    refine rOk rfl ?_ (po2 rfl rfl)
    clear h2
    simp_all [andQ, andP, z18]
    done)
  refine yV rfl rfl (lEA rfl rfl uT43 rfl tS43 (lb rfl)) <| WL.yes rfl rfl rfl rfl rfl rfl (z0r (z7j _) ent86 rfl rfl (sRf _ _) rfl) <| sm 3 rfl ?_
  refine wS 55 rfl (fun hb55 => ?_) fun hb55 => ?_
  ·refine sm 3 rfl <| WL.yes rfl rfl rfl rfl rfl rfl (cRr (z8a u f (z1v (z0n u f deep ⟨false, true, [], r8of f.types x.params, r8of f.types x.outs⟩ (z0q f.types st x.params (List.replicate x.params.length 0)).2 ka).2 x.params) hs3 x.outs hbo) zl2 rfl rfl (sRf _ _) (po2 rfl rfl) (by rfl) (fun k (h : _) => .inr h) rfl (by rfl)) <| sm 2 rfl <| nL <| tRt ?_
   (have h2 : (if z12 f.types st x.args (r8of f.types x.params) then andQ (z0q f.types st x.params (List.replicate x.params.length 0)) (fun s1 => andQ (z0n u f deep ⟨false, true, [], r8of f.types x.params, r8of f.types x.outs⟩ s1 ka) fun s2 => z18 f x (z1v s2 x.params)) else (false, st)).2 = (z0q f.types (z1v (z0n u f deep ⟨false, true, [], r8of f.types x.params, r8of f.types x.outs⟩ (z0q f.types st x.params (List.replicate x.params.length 0)).2 ka).2 x.params) x.outs (List.replicate x.outs.length 0)).2 := (by simp_all [andQ, andP, z18]; done)
    rw [h2]
    refine rOk rfl ?_ (po2 rfl rfl)
    clear h2
    simp_all [andQ, andP, z18]
    done)
  refine sm 6 rfl <| nL <| tRt ?_
  (have h2 : (if z12 f.types st x.args (r8of f.types x.params) then andQ (z0q f.types st x.params (List.replicate x.params.length 0)) (fun s1 => andQ (z0n u f deep ⟨false, true, [], r8of f.types x.params, r8of f.types x.outs⟩ s1 ka) fun s2 => z18 f x (z1v s2 x.params)) else (false, st)).2 = (z1v (z0n u f deep ⟨false, true, [], r8of f.types x.params, r8of f.types x.outs⟩ (z0q f.types st x.params (List.replicate x.params.length 0)).2 ka).2 x.params) := (by simp_all [andQ, andP, z18]; done)
   rw [h2]
   refine rOk rfl ?_ (po2 rfl rfl)
   clear h2
   simp_all [andQ, andP, z18]
   done)
end Go.Proofs.YthbcibeddfacbaaGreat
