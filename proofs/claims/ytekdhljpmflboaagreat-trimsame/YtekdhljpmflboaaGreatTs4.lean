/- PART 4 of 6 of a proof: see the last part. -/
import Derived.Test.YtekdhljpmflboaaGreatTs3
set_option maxRecDepth 8000
set_option maxHeartbeats 2000000
set_option linter.unusedSimpArgs false
set_option linter.unusedVariables false
set_option linter.unusedSectionVars false
namespace Go.Proofs.YtekdhljpmflboaaGreat
open Go
theorem z5v (u : Un) (name : ByteArray) : SC Tryz.prog 30 [.pv u.enc, iStr name] [] (fun _ => False) (iInt (z08 name u.flows 0)) [] := by
  refine SC.of Tryz.func30 rfl (lb rfl) fun F ρ w => ?_
  refine tQ <| tG <| cE rfl (z1y rfl rfl) <| sm 1 rfl <| nL <| tQ <| tQ <| tG <| sm 1 rfl <| nL <| tBk <| Tr.sub (Sub.of (fr' := [(5, iInt 0), (2, .pv (.ept [arrs u.arrays, flws u.flows] 0)), (1, iStr name)]) ⟨rfl, rfl, rfl, trivial⟩) ?_
  refine Tr.loop (fun fr σ m => ∃ (k : Nat), (k <= u.flows.length) /\ (z08 name u.flows 0 = z08 name (u.flows.drop k) k) /\ fr = [(5, iInt k), (2, .pv (.ept [arrs u.arrays, flws u.flows] 0)), (1, iStr name)] /\ σ = look [] /\ m = u.flows.length - k) (n := u.flows.length - 0) ?_ ?_
  ·exact ⟨0, Nat.zero_le _, rfl, rfl, rfl, rfl⟩
  rintro fr σ m ⟨k, hI0, hI1, rfl, rfl, rfl⟩
  refine tQ <| tQ <| tG <| sm 3 rfl ?_
  refine WL.lenOf (t := 8) rfl (fun hl => ?_)
  simp only [List.length_map] at hl
  refine cV rfl (oSm uT23 rfl) <| sm 1 rfl <| nL ?_
  refine tC rfl (fun hc10 => ?_) fun hc10 => ?_
  ·have hlt : k < u.flows.length := by simpa using hc10
   have hd := List.drop_eq_getElem_cons hlt
   have hm := List.getElem_mem hlt
   have hi := z0d (f := Fl.enc) (List.getElem?_eq_getElem hlt)
   generalize u.flows[k] = x at hd hm hi
   refine tSk <| tQ <| tBk <| tQ <| tG <| sm 3 rfl <| cV rfl (iSq rfl rfl rfl uT23 (by assumption) tS51 rfl (by rfl)) <| sm 3 rfl <| cV rfl (bSt rfl rfl rfl rfl) <| nL ?_
   refine tC rfl (fun hc20 => ?_) fun hc20 => ?_
   ·refine tQ <| tG <| sm 2 rfl <| nL <| tRt <| rOk rfl ?_ nPo
    rw [hI1, hd]
    have h20 : eqS x.name name = true := by simpa [eqS] using hc20
    simp [z08, h20]
   refine tSk <| tG <| sm 1 rfl <| cV rfl (oB rfl rfl (z05 rfl oM0)) <| sm 1 rfl <| nL ?_
   refine ⟨_, _, ?_, Sub.of (fr' := [(5, iInt (k + 1)), (2, .pv (.ept [arrs u.arrays, flws u.flows] 0)), (1, iStr name)]) ⟨rfl, rfl, rfl, trivial⟩, (k + 1), ?_, ?_, rfl, rfl, rfl⟩
   ·omega
   ·omega
   rw [hI1, hd]
   have h20 : eqS x.name name = false := by simpa [eqS] using hc20
   simp [z08, h20]
  refine tEx <| tQ <| tG <| sm 1 rfl <| nL <| tRt <| rOk rfl ?_ nPo
  have hge : u.flows.length <= k := by simpa using hc10
  rw [hI1, List.drop_eq_nil_of_le hge]
  rfl
theorem z91 (u : Un) (name : ByteArray) : SC Tryz.prog 51 [.pv u.enc, iStr name] [] (fun _ => False) (iInt (z19 name u.arrays 0)) [] := by
  refine SC.of Tryz.func51 rfl (lb rfl) fun F ρ w => ?_
  refine tQ <| tG <| cE rfl (z1y rfl rfl) <| sm 1 rfl <| nL <| tQ <| tQ <| tG <| sm 1 rfl <| nL <| tBk <| Tr.sub (Sub.of (fr' := [(5, iInt 0), (2, .pv (.ept [arrs u.arrays, flws u.flows] 0)), (1, iStr name)]) ⟨rfl, rfl, rfl, trivial⟩) ?_
  refine Tr.loop (fun fr σ m => ∃ (k : Nat), (k <= u.arrays.length) /\ (z19 name u.arrays 0 = z19 name (u.arrays.drop k) k) /\ fr = [(5, iInt k), (2, .pv (.ept [arrs u.arrays, flws u.flows] 0)), (1, iStr name)] /\ σ = look [] /\ m = u.arrays.length - k) (n := u.arrays.length - 0) ?_ ?_
  ·exact ⟨0, Nat.zero_le _, rfl, rfl, rfl, rfl⟩
  rintro fr σ m ⟨k, hI0, hI1, rfl, rfl, rfl⟩
  refine tQ <| tQ <| tG <| sm 3 rfl ?_
  refine WL.lenOf (t := 8) rfl (fun hl => ?_)
  simp only [List.length_map] at hl
  refine cV rfl (oSm uT22 rfl) <| sm 1 rfl <| nL ?_
  refine tC rfl (fun hc10 => ?_) fun hc10 => ?_
  ·have hlt : k < u.arrays.length := by simpa using hc10
   have hd := List.drop_eq_getElem_cons hlt
   have hm := List.getElem_mem hlt
   have hi := z0d (f := Ar.enc) (List.getElem?_eq_getElem hlt)
   generalize u.arrays[k] = x at hd hm hi
   refine tSk <| tQ <| tBk <| tQ <| tG <| sm 3 rfl <| cV rfl (iSq rfl rfl rfl uT22 (by assumption) tS49 rfl (by rfl)) <| sm 3 rfl <| cV rfl (bSt rfl rfl rfl rfl) <| nL ?_
   refine tC rfl (fun hc20 => ?_) fun hc20 => ?_
   ·refine tQ <| tG <| sm 2 rfl <| nL <| tRt <| rOk rfl ?_ nPo
    rw [hI1, hd]
    have h20 : eqS x.name name = true := by simpa [eqS] using hc20
    simp [z19, h20]
   refine tSk <| tG <| sm 1 rfl <| cV rfl (oB rfl rfl (z05 rfl oM0)) <| sm 1 rfl <| nL ?_
   refine ⟨_, _, ?_, Sub.of (fr' := [(5, iInt (k + 1)), (2, .pv (.ept [arrs u.arrays, flws u.flows] 0)), (1, iStr name)]) ⟨rfl, rfl, rfl, trivial⟩, (k + 1), ?_, ?_, rfl, rfl, rfl⟩
   ·omega
   ·omega
   rw [hI1, hd]
   have h20 : eqS x.name name = false := by simpa [eqS] using hc20
   simp [z19, h20]
  refine tEx <| tQ <| tG <| sm 1 rfl <| nL <| tRt <| rOk rfl ?_ nPo
  have hge : u.arrays.length <= k := by simpa using hc10
  rw [hI1, List.drop_eq_nil_of_le hge]
  rfl
theorem z1d (u : Un) (f : Fl) (set : List Bool) (l seen want : List Int) : SC Tryz.prog 102 [.ptr 3 0, .pv (ints l), .pv (ints seen), .pv (ints want)] (ckHp u f 4 set) (fun _ => True) (iBool (z04 f.types seen l want)) (ckHp u f 4 set) := by
  refine SC.of Tryz.func102 rfl (lb rfl) fun F ρ w => ?_
  refine Tr.lenOf (t := 1) rfl (fun hl => ?_)
  simp only [List.length_map] at hl
  refine Tr.lenOf (t := 3) rfl (fun hl3 => ?_)
  simp only [List.length_map] at hl3
  refine tQ <| tG <| sm 1 rfl <| nL <| tQ <| tQ <| tG <| sm 1 rfl <| cV rfl (oSm uT35 rfl) <| sm 1 rfl <| cV rfl (oSm uT35 rfl) <| sm 1 rfl ?_
  refine nL ?_
  refine tC rfl (fun hc14 => ?_) fun hc14 => ?_
  ·refine tQ <| tG <| sm 1 rfl <| nL <| tRt <| rOk rfl ?_ (fun _ _ h => h)
   have : ((l.length : Int) == want.length) = false := by simpa using hc14
   simp [z04, this]
  have hlen : l.length = want.length := by simp at hc14; omega
  refine tSk <| tQ <| tQ <| tG <| sm 1 rfl <| nL <| tBk <| Tr.sub (Sub.of (fr' := [(9, iInt 0), (0, .ptr 3 0), (1, .pv (ints l)), (2, .pv (ints seen)), (3, .pv (ints want))]) ⟨rfl, rfl, rfl, rfl, rfl, trivial⟩) ?_
  refine Tr.loop (fun fr σ m => ∃ (k : Nat), (k <= l.length) /\ (z0z f.types seen l want = z0z f.types seen (l.drop k) (want.drop k)) /\ fr = [(9, iInt k), (0, .ptr 3 0), (1, .pv (ints l)), (2, .pv (ints seen)), (3, .pv (ints want))] /\ σ = look (up (ckHp u f 4 set)) /\ m = l.length - k) (n := l.length - 0) ?_ ?_
  ·exact ⟨0, Nat.zero_le _, rfl, rfl, rfl, rfl⟩
  rintro fr σ m ⟨k, hI0, hI1, rfl, rfl, rfl⟩
  refine tQ <| tQ <| tG <| sm 2 rfl <| cV rfl (oSm uT35 rfl) <| sm 1 rfl <| nL ?_
  refine tC rfl (fun hc18 => ?_) fun hc18 => ?_
  ·have hlt : k < l.length := by simpa using hc18
   have hd := List.drop_eq_getElem_cons hlt
   have hm := List.getElem_mem hlt
   have hi := z0d (f := eInt) (List.getElem?_eq_getElem hlt)
   generalize l[k] = x at hd hm hi
   have hltw : k < want.length := by omega
   have hdw := List.drop_eq_getElem_cons hltw
   have hw := z0d (f := eInt) (List.getElem?_eq_getElem hltw)
   generalize want[k] = y at hdw hw
   refine tSk <| tQ <| tBk <| tQ <| tDr z1t (fun _ => True) <| wR 28 [0, 1, 2, 3, 4, 5, 6, 7, 8, 9, 10, 11, 12, 13, 14, 15, 16, 17, 18, 19, 20, 21, 22, 23] kR0 h30 <| smR 2 rfl <| rV rfl rfl (iSq rfl rfl rfl uT35 hi tS3 rfl (by rfl)) <| smR 3 rfl ?_
   refine WR.split (t := 26) rfl (fun hb26 => ?_) (fun hb26 => ?_)
   ·refine smR 18 rfl <| nR <| wN 24 kR0 h30 rfl rfl rfl <| wR 0 [25, 26, 27, 28, 29, 30, 31, 32, 33, 34, 35, 36, 37, 38, 39, 40, 41, 42, 43, 44, 45, 46, 47, 48, 49, 50, 51] kR0 h30 <| smR 9 rfl <| nUr rfl rfl rfl rfl rfl rfl rfl <| nUr rfl rfl rfl rfl rfl rfl rfl <| nUr rfl rfl rfl rfl rfl rfl rfl <| nUr rfl rfl rfl rfl rfl rfl rfl <| nUr rfl rfl rfl rfl rfl rfl rfl <| nUr rfl rfl rfl rfl rfl rfl rfl <| nUr rfl rfl rfl rfl rfl rfl rfl ?_
    refine nUr rfl rfl rfl rfl rfl rfl rfl <| nUr rfl rfl rfl rfl rfl rfl rfl <| nUr rfl rfl rfl rfl rfl rfl rfl <| nUr rfl rfl rfl rfl rfl rfl rfl <| nUr rfl rfl rfl rfl rfl rfl rfl <| nUr rfl rfl rfl rfl rfl rfl rfl <| nUr rfl rfl rfl rfl rfl rfl rfl <| nUr rfl rfl rfl rfl rfl rfl rfl <| nUr rfl rfl rfl rfl rfl rfl rfl <| smR 2 rfl <| nR <| wDn kR0 ?_
    refine Tr.condT rfl <| tQ <| tG <| sm 1 rfl <| nL <| tRt <| rOk rfl ?_ (fun _ _ h => h)
    have hu : z5g f.types seen x y = false := by (try clear hvx); simp_all [z5g]
    simp [z04, hI1, hd, hdw, z0z, hu]
   refine smR 2 rfl <| ryV rfl rfl rfl (iSq rfl rfl rfl uT35 hi tS3 rfl (by rfl)) <| smR 2 rfl <| ryV rfl rfl rfl (nCk rfl rfl rfl) <| smR 2 rfl <| ryV rfl rfl rfl (oLb uT35 rfl rfl rfl trivial) <| ryV rfl rfl rfl (oSm uT35 rfl) <| smR 3 rfl ?_
   refine WR.split (t := 39) rfl (fun hb39 => ?_) (fun hb39 => ?_)
   ·refine smR 5 rfl <| nR <| wN 24 kR0 h30 rfl rfl rfl <| wR 0 [25, 26, 27, 28, 29, 30, 31, 32, 33, 34, 35, 36, 37, 38, 39, 40, 41, 42, 43, 44, 45, 46, 47, 48, 49, 50, 51] kR0 h30 <| smR 9 rfl <| nUr rfl rfl rfl rfl rfl rfl rfl <| nUr rfl rfl rfl rfl rfl rfl rfl <| nUr rfl rfl rfl rfl rfl rfl rfl <| nUr rfl rfl rfl rfl rfl rfl rfl <| nUr rfl rfl rfl rfl rfl rfl rfl <| nUr rfl rfl rfl rfl rfl rfl rfl <| nUr rfl rfl rfl rfl rfl rfl rfl ?_
    refine nUr rfl rfl rfl rfl rfl rfl rfl <| nUr rfl rfl rfl rfl rfl rfl rfl <| nUr rfl rfl rfl rfl rfl rfl rfl <| nUr rfl rfl rfl rfl rfl rfl rfl <| nUr rfl rfl rfl rfl rfl rfl rfl <| nUr rfl rfl rfl rfl rfl rfl rfl <| nUr rfl rfl rfl rfl rfl rfl rfl <| nUr rfl rfl rfl rfl rfl rfl rfl <| nUr rfl rfl rfl rfl rfl rfl rfl <| smR 2 rfl <| nR <| wDn kR0 ?_
    refine Tr.condT rfl <| tQ <| tG <| sm 1 rfl <| nL <| tRt <| rOk rfl ?_ (fun _ _ h => h)
    have hu : z5g f.types seen x y = false := by (try clear hvx); simp_all [z5g]
    simp [z04, hI1, hd, hdw, z0z, hu]
   have hv0 : x.toNat < f.types.length := by simp at hb26 hb39; omega
   have hvx : x = ((x.toNat : Nat) : Int) := by simp at hb26; omega
   have hty : (f.types.map eInt)[x.toNat]? = some [vInt (f.types.getD x.toNat 0)] := by rw [List.getElem?_map]; simp [eInt, List.getD, hv0]
   refine smR 3 rfl <| ryV rfl rfl rfl (iSq rfl rfl rfl uT35 hi tS3 rfl (by rfl)) <| smR 1 rfl <| nR <| wO 24 kR0 <| wY rfl rfl rfl (fun _ _ => trivial) nw (fun _ _ => ocq (sc_r8in _ _) ent114 rfl rfl) <| wR 0 [25, 26, 27, 28, 29, 30, 31, 32, 33, 34, 35, 36, 37, 38, 39, 40, 41, 42, 43, 44, 45, 46, 47, 48, 49, 50, 51] kR0 h30 <| smR 3 rfl ?_
   refine WR.split (t := 48) rfl (fun hb48 => ?_) (fun hb48 => ?_)
   ·refine smR 6 rfl <| nUr rfl rfl rfl rfl rfl rfl rfl <| nUr rfl rfl rfl rfl rfl rfl rfl <| nUr rfl rfl rfl rfl rfl rfl rfl <| nUr rfl rfl rfl rfl rfl rfl rfl <| nUr rfl rfl rfl rfl rfl rfl rfl <| nUr rfl rfl rfl rfl rfl rfl rfl <| nUr rfl rfl rfl rfl rfl rfl rfl <| nUr rfl rfl rfl rfl rfl rfl rfl <| nUr rfl rfl rfl rfl rfl rfl rfl <| nUr rfl rfl rfl rfl rfl rfl rfl <| nUr rfl rfl rfl rfl rfl rfl rfl ?_
    refine nUr rfl rfl rfl rfl rfl rfl rfl <| nUr rfl rfl rfl rfl rfl rfl rfl <| nUr rfl rfl rfl rfl rfl rfl rfl <| nUr rfl rfl rfl rfl rfl rfl rfl <| nUr rfl rfl rfl rfl rfl rfl rfl <| smR 2 rfl <| nR <| wDn kR0 <| Tr.condT rfl <| tQ <| tG <| sm 1 rfl ?_
    refine nL <| tRt <| rOk rfl ?_ (fun _ _ h => h)
    have hu : z5g f.types seen x y = false := by (try clear hvx); simp_all [z5g]
    simp [z04, hI1, hd, hdw, z0z, hu]
   refine smR 2 rfl <| ryV rfl rfl rfl (iSq rfl rfl rfl uT35 hw tS3 rfl (by rfl)) <| smR 3 rfl ?_
   refine WR.split (t := 54) rfl (fun hb54 => ?_) (fun hb54 => ?_)
   ·refine smR 1 rfl <| ryV rfl rfl rfl (nCk rfl rfl rfl) <| smR 2 rfl <| ryV rfl rfl rfl (oLb uT35 rfl rfl rfl trivial) <| smR 2 rfl <| ryV rfl rfl rfl (iSq rfl rfl rfl uT35 hi tS3 rfl (by rfl)) <| smR 1 rfl <| ryV rfl rfl rfl (iSq rfl rfl rfl uT35 hty tS3 rfl oM0) <| smR 3 rfl <| ryV rfl rfl rfl (iSq rfl rfl rfl uT35 hw tS3 rfl (by rfl)) <| smR 4 rfl <| nR ?_
    refine wDn kR0 ?_
    refine tC rfl (fun hc72 => ?_) fun hc72 => ?_
    ·refine tQ <| tG <| sm 1 rfl <| nL <| tRt <| rOk rfl ?_ (fun _ _ h => h)
     have hu : z5g f.types seen x y = false := by (try clear hvx); simp_all [z5g]
     simp [z04, hI1, hd, hdw, z0z, hu]
    refine tSk <| tG <| sm 1 rfl <| cV rfl (oB rfl rfl (z05 rfl oM0)) <| sm 1 rfl <| nL ?_
    refine ⟨_, _, ?_, Sub.of (fr' := [(9, iInt (k + 1)), (0, .ptr 3 0), (1, .pv (ints l)), (2, .pv (ints seen)), (3, .pv (ints want))]) ⟨rfl, rfl, rfl, rfl, rfl, trivial⟩, (k + 1), ?_, ?_, rfl, rfl, rfl⟩
    ·omega
    ·omega
    rw [hI1, hd, hdw]
    have hu : z5g f.types seen x y = true := by (try clear hvx); simp_all [z5g]
    simp [z0z, hu]
   refine smR 18 rfl <| nR <| wDn kR0 <| Tr.condF rfl <| tSk <| tG <| sm 1 rfl <| cV rfl (oB rfl rfl (z05 rfl oM0)) <| sm 1 rfl <| nL ?_
   refine ⟨_, _, ?_, Sub.of (fr' := [(9, iInt (k + 1)), (0, .ptr 3 0), (1, .pv (ints l)), (2, .pv (ints seen)), (3, .pv (ints want))]) ⟨rfl, rfl, rfl, rfl, rfl, trivial⟩, (k + 1), ?_, ?_, rfl, rfl, rfl⟩
   ·omega
   ·omega
   rw [hI1, hd, hdw]
   have hu : z5g f.types seen x y = true := by (try clear hvx); simp_all [z5g]
   simp [z0z, hu]
  refine tEx <| tQ <| tG <| sm 1 rfl <| nL <| tRt <| rOk rfl ?_ (fun _ _ h => h)
  have hge : l.length <= k := by simpa using hc18
  have : ((l.length : Int) == want.length) = true := by simpa using congrArg Nat.cast hlen
  simp [z04, hI1, List.drop_eq_nil_of_le hge, z0z, this]
theorem z2v (l : List UInt8) (n : Nat) (g : Gn) (hn : 0 < n) (hb : g.pos <= 1000000) : SC Tryz.prog 53 [.ptr 2001 0, iInt (n : Int)] (gH l g) (fun _ => False) (iInt ((z03 l n g).1 : Int)) (gH l (z03 l n g).2) := by
  refine SC.of Tryz.func53 rfl (lb rfl) fun F ρ w => ?_
  refine tQ <| tG <| sm 1 rfl <| nL <| tQ <| tG <| sm 1 rfl <| cV rfl (nCk rfl rfl rfl) <| sm 2 rfl <| cV rfl (oB rfl rfl (z05 rfl oM0)) <| cV rfl (nCk rfl rfl rfl) <| sm 1 rfl ?_
  refine c0 (sBx rfl rfl rfl rfl ((fun h => h)) tS3 (rfl) (lb rfl)) <| nL <| tQ <| tQ <| Tr.still z1t kR0 rfl <| smS 1 rfl <| sV rfl (nCk rfl rfl rfl) <| smS 3 rfl <| sV rfl (nCk rfl rfl rfl) <| smS 2 rfl <| sV rfl (oSm Tryz.underlying29 rfl) <| smS 2 rfl ?_
  refine WS.split (t := 22) rfl (fun hb22 => ?_) (fun hb22 => ?_)
  ·refine smS 6 rfl <| WS.nil <| Tr.condT rfl ?_
   have hc : g.pos + 1 > l.length ∨ g.pos + 1 > 150 := by
     (have := hb22; simp at this; omega)
   refine tQ <| tG <| sm 1 rfl <| nL <| tRt <| rOk rfl ?_ (po2 rfl rfl)
   simp only [z03, if_pos hc]
   rfl
  refine smS 1 rfl <| syV rfl rfl (nCk rfl rfl rfl) <| smS 4 rfl <| WS.nil ?_
  refine tC rfl (fun hc28 => ?_) fun hc28 => ?_
  ·have hc : g.pos + 1 > l.length ∨ g.pos + 1 > 150 := by
     (have := hc28; simp at this; omega)
   refine tQ <| tG <| sm 1 rfl <| nL <| tRt <| rOk rfl ?_ (po2 rfl rfl)
   simp only [z03, if_pos hc]
   rfl
  have hc : ¬ (g.pos + 1 > l.length ∨ g.pos + 1 > 150) := by
    simp at hb22 hc28
    omega
  have hlt : g.pos < l.length := by omega
  have hi := z0d (f := eB) (List.getElem?_eq_getElem hlt)
  have hgd : l.getD g.pos 0 = l[g.pos] := by rw [List.getD, List.getElem?_eq_getElem hlt]; rfl
  generalize l[g.pos] = x at hi hgd
  have hrem : z41 .rem .i64 (IntKind.i64.wrap (x.toNat : Int)) (n : Int) = some (.int .i64 ((x.toNat % n : Nat) : Int)) := by rw [u8_i64]; exact i64_rem hn
  refine tSk <| tQ <| Tr.still z1t kR0 rfl <| smS 1 rfl <| sV rfl (nCk rfl rfl rfl) <| smS 3 rfl <| sV rfl (nCk rfl rfl rfl) <| smS 2 rfl <| sV rfl (oB rfl rfl (z2o rfl oM0)) <| sV rfl (iSq rfl rfl rfl Tryz.underlying29 hi tS5 rfl oM0) <| smS 1 rfl <| sV rfl (z4b rfl rfl ⟨_, Tryz.underlying5⟩ uT3) ?_
  refine smS 1 rfl <| sV rfl (oB rfl rfl hrem) <| smS 1 rfl <| WS.nil <| tRt <| rOk rfl ?_ (po2 rfl rfl)
  simp only [z03, if_neg hc, hgd]
theorem zb6 (l : List UInt8) (t : Int) (g : Gn) (hb : g.types.length <= 1000000) : SC Tryz.prog 35 [.ptr 2001 0, iInt t] (gH l g) (fun _ => False) (iInt (z06 t g).1) (gH l (z06 t g).2) := by
  refine SC.of Tryz.func35 rfl (lb rfl) fun F ρ w => ?_
  have hbl : (g.types.map eInt).length = g.types.length := by simp
  have hbl2 : ((z06 t g).2.types.map eInt).length = g.types.length + 1 := by simp [z06]
  refine tQ <| tG <| sm 1 rfl <| nL <| tQ <| tG <| sm 2 rfl <| cV rfl (nCk rfl rfl rfl) <| sm 3 rfl <| cE rfl (bSl rfl rfl uT35 tZ3 tS3 rfl rfl rfl rfl (fbk rfl) rfl) ?_
  refine cE rfl (aPp rfl rfl rfl rfl (by rfl) ((fun h => h)) uT35 tB3 dC0 (by (simp [z01]; done)) (by (simp [z01, PV.one]; rfl)) (by simp [maxLen, z01]; omega) (by simp [z01]; omega)) ?_
  refine cV rfl (nCk rfl rfl rfl) <| sm 1 rfl <| c0 (sBx rfl rfl rfl rfl ((fun h => h)) tS35 (⟨_, _, rfl, by simp⟩) (lb rfl)) <| nL <| tQ ?_
  refine Tr.heap (σ' := look [(2001, some (z3m l (z06 t g).2)), (2002, some (rowI (z06 t g).2.types))]) (lkq [2001, 2002] rfl rfl ⟨(by first | exact congrArg (fun z => some (HO.row _ z)) (by simp [z06, z01, eInt]) | exact congrArg (fun z => some (HO.box z)) (by simp [z06, z01, eInt])), (by first | exact congrArg (fun z => some (HO.row _ z)) (by simp [z06, z01, eInt]) | exact congrArg (fun z => some (HO.box z)) (by simp [z06, z01, eInt])), trivial⟩) ?_
  refine tG <| sm 1 rfl <| cV rfl (nCk rfl rfl rfl) <| sm 2 rfl <| cV rfl (z8w rfl rfl rfl rfl uT35) <| cV rfl (oB rfl rfl (z2o rfl oM0)) <| sm 1 rfl <| nL <| tRt <| rOk rfl ?_ (po2 rfl rfl)
  refine congrArg (fun z => IV.pv (.val (.int .i64 z))) ?_
  rw [hbl2]
  simp only [z06]
  omega
theorem sc_gSome (l : List UInt8) (g : Gn) (seen : List Int) (t : Int) (hs : InR g.types seen) (hb : g.pos <= 999999) (hsl : seen.length <= 1000000) : SC Tryz.prog 80 [.ptr 2001 0, .sl 2003 (seen.map eInt).length, iInt t] (gHs l g seen) (fun _ => False) (iInt (za2 l seen t g).1) (gHs l (za2 l seen t g).2 seen) := by
  refine SC.of Tryz.func80 rfl (lb rfl) fun F ρ w => ?_
  have hp8 : (z03 l 8 g).1 < 8 := z20 oM0
  refine tQ <| tG <| sm 1 rfl <| nL <| tQ <| tG <| sm 1 rfl <| cE rfl (ocr (z2v l 8 g oM0 oM0) y7y rfl (po2 rfl rfl) rfl (fun k (h : _) => .inr h) rfl rfl) <| sm 1 rfl <| nL <| tQ <| tG ?_
  refine sm 1 rfl <| nL <| tQ <| tQ <| tG <| sm 1 rfl <| nL <| tBk <| Tr.sub (Sub.of (fr' := [(9, iInt 0), (8, iInt 0), (7, iInt ((z03 l 8 g).1 : Int)), (0, .ptr 2001 0), (1, .sl 2003 (seen.map eInt).length), (2, iInt t)]) ⟨rfl, rfl, rfl, rfl, rfl, rfl, trivial⟩) <| Tr.heap (σ' := look [(2001, some (z3m l (z03 l 8 g).2)), (2002, some (rowI (z03 l 8 g).2.types)), (2003, some (rowI seen))]) (lkq [2001, 2002, 2003] rfl rfl ⟨rfl, rfl, rfl, trivial⟩) ?_
  refine Tr.loop (fun fr σ m => ∃ (i : Nat) (k : Int) (v : Int), (i <= seen.length) /\ (k <= 8 /\ -(i : Int) <= k) /\ (gS1 g.types t (i == 0) k v (seen.drop i) = gS1 g.types t true (z03 l 8 g).1 0 seen) /\ fr = [(9, iInt i), (8, iInt v), (7, iInt k), (0, .ptr 2001 0), (1, .sl 2003 (seen.map eInt).length), (2, iInt t)] /\ σ = look [(2001, some (z3m l (z03 l 8 g).2)), (2002, some (rowI (z03 l 8 g).2.types)), (2003, some (rowI seen))] /\ m = seen.length - i) (n := seen.length - 0) ?_ ?_
  ·exact ⟨0, ((z03 l 8 g).1 : Int), 0, Nat.zero_le _, ⟨by omega, by omega⟩, rfl, rfl, rfl, rfl⟩
  rintro fr σ m ⟨i, k, v, hI0, hI1, hI2, rfl, rfl, rfl⟩
  refine tQ <| tQ <| tG <| sm 2 rfl <| cV rfl (z8w rfl rfl rfl rfl uT35) <| sm 1 rfl <| nL ?_
  refine tC rfl (fun hc16 => ?_) fun hc16 => ?_
  ·have hlt : i < seen.length := by simpa using hc16
   have hd := List.drop_eq_getElem_cons hlt
   have hm := List.getElem_mem hlt
   have hi := z0d (f := eInt) (List.getElem?_eq_getElem hlt)
   generalize seen[i] = s at hd hm hi
   have hil : i < (seen.map eInt).length := by rw [List.length_map]; exact hlt
   obtain ⟨hs1, hs2, hs3⟩ := hs.at hm
   refine tSk <| tQ <| tBk <| tQ <| Tr.still z1t kR0 rfl <| smS 1 rfl <| sV rfl (nCk rfl rfl rfl) <| smS 4 rfl <| sV rfl (iRw rfl rfl rfl rfl rfl uT35 tS3 hil (by rfl)) <| sV rfl (lRw rfl rfl rfl rfl (Nat.add_zero _).symm hi rfl uT3 rfl trivial) <| sV rfl (iRw rfl rfl rfl rfl rfl uT35 tS3 hs1 (by assumption)) <| sV rfl (lRw rfl rfl rfl rfl (Nat.add_zero _).symm hs2 rfl uT3 rfl trivial) ?_
   refine smS 3 rfl ?_
   refine WS.split (t := 31) rfl (fun hb31 => ?_) (fun hb31 => ?_)
   ·refine smS 3 rfl ?_
    refine WS.split (t := 34) rfl (fun hb34 => ?_) (fun hb34 => ?_)
    ·refine smS 4 rfl <| WS.nil <| Tr.condT rfl <| tQ <| tG <| sm 2 rfl <| cV rfl (iRw rfl rfl rfl rfl rfl uT35 tS3 hil (by rfl)) <| cV rfl (lRw rfl rfl rfl rfl (Nat.add_zero _).symm hi rfl uT3 rfl trivial) <| sm 1 rfl <| nL <| tG <| sm 1 rfl ?_
     refine cV rfl (oB rfl rfl (z2o rfl oM0)) <| sm 1 rfl <| nL <| tG <| sm 1 rfl <| cV rfl (oB rfl rfl (z05 rfl oM0)) <| sm 1 rfl <| nL ?_
     refine ⟨_, _, ?_, Sub.of (fr' := [(9, iInt (i + 1)), (8, iInt s), (7, iInt (k - 1)), (0, .ptr 2001 0), (1, .sl 2003 (seen.map eInt).length), (2, iInt t)]) ⟨rfl, rfl, rfl, rfl, rfl, rfl, trivial⟩, (i + 1), (k - 1), s, ?_, ?_, ?_, rfl, rfl, rfl⟩
     ·omega
     ·omega
     ·omega
     rw [<- hI2, hd]
     have hi0 : (i + 1 == 0) = false := rfl
     rw [hi0]
     simp only [gS1]
     (rw [if_pos (by clear hs3 hi hs hd hm hs1 hs2 hI2; simp_all)]; done)
    refine smS 4 rfl <| WS.nil ?_
    refine tC rfl (fun hc38 => ?_) fun hc38 => ?_
    ·refine tQ <| tG <| sm 2 rfl <| cV rfl (iRw rfl rfl rfl rfl rfl uT35 tS3 hil (by rfl)) <| cV rfl (lRw rfl rfl rfl rfl (Nat.add_zero _).symm hi rfl uT3 rfl trivial) <| sm 1 rfl <| nL <| tG <| sm 1 rfl <| cV rfl (oB rfl rfl (z2o rfl oM0)) <| sm 1 rfl <| nL ?_
     refine tG <| sm 1 rfl <| cV rfl (oB rfl rfl (z05 rfl oM0)) <| sm 1 rfl <| nL ?_
     refine ⟨_, _, ?_, Sub.of (fr' := [(9, iInt (i + 1)), (8, iInt s), (7, iInt (k - 1)), (0, .ptr 2001 0), (1, .sl 2003 (seen.map eInt).length), (2, iInt t)]) ⟨rfl, rfl, rfl, rfl, rfl, rfl, trivial⟩, (i + 1), (k - 1), s, ?_, ?_, ?_, rfl, rfl, rfl⟩
     ·omega
     ·omega
     ·omega
     rw [<- hI2, hd]
     have hi0 : (i + 1 == 0) = false := rfl
     rw [hi0]
     simp only [gS1]
     (rw [if_pos (by clear hs3 hi hs hd hm hs1 hs2 hI2; simp_all)]; done)
    refine tSk <| tG <| sm 1 rfl <| cV rfl (oB rfl rfl (z05 rfl oM0)) <| sm 1 rfl <| nL ?_
    refine ⟨_, _, ?_, Sub.of (fr' := [(9, iInt (i + 1)), (8, iInt v), (7, iInt k), (0, .ptr 2001 0), (1, .sl 2003 (seen.map eInt).length), (2, iInt t)]) ⟨rfl, rfl, rfl, rfl, rfl, rfl, trivial⟩, (i + 1), k, v, ?_, ?_, ?_, rfl, rfl, rfl⟩
    ·omega
    ·omega
    ·omega
    rw [<- hI2, hd]
    have hi0 : (i + 1 == 0) = false := rfl
    rw [hi0]
    simp only [gS1]
    (rw [if_neg (by clear hs3 hi hs hd hm hs1 hs2 hI2; simp_all)]; done)
   refine smS 3 rfl <| WS.noU rfl rfl rfl rfl rfl rfl <| WS.noU rfl rfl rfl rfl rfl rfl <| smS 2 rfl <| WS.nil <| Tr.condF rfl <| tSk <| tG <| sm 1 rfl <| cV rfl (oB rfl rfl (z05 rfl oM0)) <| sm 1 rfl <| nL ?_
   refine ⟨_, _, ?_, Sub.of (fr' := [(9, iInt (i + 1)), (8, iInt v), (7, iInt k), (0, .ptr 2001 0), (1, .sl 2003 (seen.map eInt).length), (2, iInt t)]) ⟨rfl, rfl, rfl, rfl, rfl, rfl, trivial⟩, (i + 1), k, v, ?_, ?_, ?_, rfl, rfl, rfl⟩
   ·omega
   ·omega
   ·omega
   rw [<- hI2, hd]
   have hi0 : (i + 1 == 0) = false := rfl
   rw [hi0]
   simp only [gS1]
   (rw [if_neg (by clear hs3 hi hs hd hm hs1 hs2 hI2; simp_all)]; done)
  refine tEx <| tQ <| tQ ?_
  have hge : seen.length <= i := by simpa using hc16
  rw [List.drop_eq_nil_of_le hge] at hI2
  simp only [gS1] at hI2
  obtain ⟨v0, hv0e⟩ : ∃ v0, gS1 g.types t true (z03 l 8 g).1 0 seen = v0 := ⟨_, rfl⟩
  have hv0 := y89 (t := t) seen true (z03 l 8 g).1 0 hs ⟨by omega, .inr rfl⟩
  rw [hv0e] at hI2 hv0
  subst hI2
  refine tG <| sm 1 rfl <| nL <| tBk <| Tr.sub (Sub.of (fr' := [(10, iInt 0), (8, iInt v), (0, .ptr 2001 0), (1, .sl 2003 (seen.map eInt).length), (2, iInt t)]) ⟨rfl, rfl, rfl, rfl, rfl, trivial⟩) ?_
  refine Tr.loop (fun fr σ m => ∃ (i : Nat) (v1 : Int), (i <= seen.length) /\ (gS2 g.types t v1 (seen.drop i) = gS2 g.types t v seen) /\ (0 <= v1 /\ (v1.toNat < g.types.length ∨ v1 = 0)) /\ fr = [(10, iInt i), (8, iInt v1), (0, .ptr 2001 0), (1, .sl 2003 (seen.map eInt).length), (2, iInt t)] /\ σ = look [(2001, some (z3m l (z03 l 8 g).2)), (2002, some (rowI (z03 l 8 g).2.types)), (2003, some (rowI seen))] /\ m = seen.length - i) (n := seen.length - 0) ?_ ?_
  ·exact ⟨0, v, Nat.zero_le _, rfl, hv0, rfl, rfl, rfl⟩
  rintro fr σ m ⟨i, v1, hI0, hI1, hI2, rfl, rfl, rfl⟩
  refine tQ <| tQ <| tG <| sm 2 rfl <| cV rfl (z8w rfl rfl rfl rfl uT35) <| sm 2 rfl ?_
  refine wS 49 rfl (fun hb49 => ?_) fun hb49 => ?_
  ·have hlt : i < seen.length := by simpa using hb49
   have hd := List.drop_eq_getElem_cons hlt
   have hm := List.getElem_mem hlt
   have hi := z0d (f := eInt) (List.getElem?_eq_getElem hlt)
   generalize seen[i] = s at hd hm hi
   have hil : i < (seen.map eInt).length := by rw [List.length_map]; exact hlt
   obtain ⟨hs1, hs2, hs3⟩ := hs.at hm
   have hvr : v1.toNat < g.types.length := by
     rcases hI2.2 with h1 | h1
     ·exact h1
     subst h1
     have : s.toNat < g.types.length := by simpa using hs1
     simp; omega
   have hvm : InR g.types [v1] := fun x hx => by rw [List.mem_singleton.1 hx]; exact ⟨hI2.1, hvr⟩
   obtain ⟨hv1, hv2, hv3⟩ := hvm.at (.head _)
   refine sm 1 rfl <| yV rfl rfl (nCk rfl rfl rfl) <| sm 3 rfl <| yV rfl rfl (iRw rfl rfl rfl rfl rfl uT35 tS3 hv1 (by assumption)) <| yV rfl rfl (lRw rfl rfl rfl rfl (Nat.add_zero _).symm hv2 rfl uT3 rfl trivial) <| sm 3 rfl <| nL ?_
   refine tC rfl (fun hc59 => ?_) fun hc59 => ?_
   ·have hcont : (g.types.getD v1.toNat 0 != t) = true := hc59
    refine tSk <| tQ <| tBk <| tQ <| Tr.still z1t kR0 rfl <| smS 1 rfl <| sV rfl (nCk rfl rfl rfl) <| smS 4 rfl <| sV rfl (iRw rfl rfl rfl rfl rfl uT35 tS3 hil (by rfl)) <| sV rfl (lRw rfl rfl rfl rfl (Nat.add_zero _).symm hi rfl uT3 rfl trivial) <| sV rfl (iRw rfl rfl rfl rfl rfl uT35 tS3 hs1 (by assumption)) <| sV rfl (lRw rfl rfl rfl rfl (Nat.add_zero _).symm hs2 rfl uT3 rfl trivial) ?_
    refine smS 2 rfl <| WS.nil ?_
    refine tC rfl (fun hc73 => ?_) fun hc73 => ?_
    ·refine tG <| sm 2 rfl <| cV rfl (iRw rfl rfl rfl rfl rfl uT35 tS3 hil (by rfl)) <| cV rfl (lRw rfl rfl rfl rfl (Nat.add_zero _).symm hi rfl uT3 rfl trivial) <| sm 1 rfl <| nL <| tG <| sm 1 rfl <| cV rfl (oB rfl rfl (z05 rfl oM0)) <| sm 1 rfl <| nL ?_
     refine ⟨_, _, ?_, Sub.of (fr' := [(10, iInt (i + 1)), (8, iInt s), (0, .ptr 2001 0), (1, .sl 2003 (seen.map eInt).length), (2, iInt t)]) ⟨rfl, rfl, rfl, rfl, rfl, trivial⟩, (i + 1), s, ?_, ?_, ?_, rfl, rfl, rfl⟩
     ·omega
     ·omega
     ·rw [<- hI1, hd]
      simp only [gS2]
      rw [if_pos hcont]
      (rw [if_pos hc73]; done)
     first
     | exact hI2
     | exact ⟨by omega, .inl (by simpa using hs1)⟩
    refine tSk <| tG <| sm 1 rfl <| cV rfl (oB rfl rfl (z05 rfl oM0)) <| sm 1 rfl <| nL ?_
    refine ⟨_, _, ?_, Sub.of (fr' := [(10, iInt (i + 1)), (8, iInt v1), (0, .ptr 2001 0), (1, .sl 2003 (seen.map eInt).length), (2, iInt t)]) ⟨rfl, rfl, rfl, rfl, rfl, trivial⟩, (i + 1), v1, ?_, ?_, ?_, rfl, rfl, rfl⟩
    ·omega
    ·omega
    ·rw [<- hI1, hd]
     simp only [gS2]
     rw [if_pos hcont]
     (rw [if_neg (by rw [hc73]; decide)]; done)
    first
    | exact hI2
    | exact ⟨by omega, .inl (by simpa using hs1)⟩
   refine tEx <| tQ <| tG <| sm 2 rfl <| nL <| tRt <| rOk rfl ?_ (po3 rfl rfl rfl)
   refine congrArg iInt ?_
   show _ = gS2 g.types t (gS1 g.types t true (z03 l 8 g).1 0 seen) seen
   rw [hv0e, <- hI1]
   (rw [hd]
    simp only [gS2]
    rw [if_neg (by rw [show (g.types.getD v1.toNat 0 != t) = false from hc59]; decide)]
    done)
  refine sm 10 rfl <| nL <| Tr.condF rfl <| tEx <| tQ <| tG <| sm 2 rfl <| nL <| tRt <| rOk rfl ?_ (po3 rfl rfl rfl)
  refine congrArg iInt ?_
  show _ = gS2 g.types t (gS1 g.types t true (z03 l 8 g).1 0 seen) seen
  rw [hv0e, <- hI1]
  (rw [List.drop_eq_nil_of_le (by simpa using hb49)]
   rfl)
theorem z23 (l : List UInt8) (seen ts : List Int) (g : Gn) (hs : InR g.types seen) (hb : g.pos + ts.length <= 1000000) (hsl : seen.length <= 1000000) : SC Tryz.prog 56 [.ptr 2001 0, .sl 2003 (seen.map eInt).length, .pv (ints ts)] (gHs l g seen) (fun _ => False) (.pv (ints (z1p l seen ts g).1)) (gHs l (z1p l seen ts g).2 seen) := by
  refine SC.of Tryz.func56 rfl (lb rfl) fun F ρ w => ?_
  refine Tr.lenOf (t := 2) rfl (fun hl => ?_)
  simp only [List.length_map] at hl
  refine tQ <| tG <| sm 1 rfl <| nL <| tQ <| tG <| sm 1 rfl <| nL <| tQ <| tQ <| Tr.grow (t := 7) (k := 107) ⟨3, 1⟩ rfl rfl rfl rfl rfl <| tG ?_
  refine sm 1 rfl <| nL <| tBk <| Tr.sub (Sub.of (fr' := [(8, iInt 0), (7, .sl 107 (([] : List Int).map eInt).length), (0, .ptr 2001 0), (1, .sl 2003 (seen.map eInt).length), (2, .pv (ints ts))]) ⟨rfl, rfl, rfl, rfl, rfl, trivial⟩) <| Tr.heap (σ' := look [(107, some (rowI ([] : List Int))), (2001, some (z3m l g)), (2002, some (rowI g.types)), (2003, some (rowI seen))]) (lkq [107, 2001, 2002, 2003] rfl rfl ⟨rfl, rfl, rfl, rfl, trivial⟩) ?_
  refine Tr.loop (fun fr σ m => ∃ (i : Nat) (acc : List Int) (g1 : Gn), (i <= ts.length) /\ (acc ++ (z1p l seen (ts.drop i) g1).1 = (z1p l seen ts g).1) /\ ((z1p l seen (ts.drop i) g1).2 = (z1p l seen ts g).2) /\ (g1.types = g.types) /\ (g1.pos + (ts.length - i) <= 1000000) /\ (acc.length = i) /\ fr = [(8, iInt i), (7, .sl 107 (acc.map eInt).length), (0, .ptr 2001 0), (1, .sl 2003 (seen.map eInt).length), (2, .pv (ints ts))] /\ σ = look [(107, some (rowI acc)), (2001, some (z3m l g1)), (2002, some (rowI g1.types)), (2003, some (rowI seen))] /\ m = ts.length - i) (n := ts.length - 0) ?_ ?_
  ·exact ⟨0, ([] : List Int), g, Nat.zero_le _, sI0, rfl, rfl, hb, rfl, rfl, rfl, rfl⟩
  rintro fr σ m ⟨i, acc, g1, hI0, hI1, hI2, hIt, hIb, hIa, rfl, rfl, rfl⟩
  refine tQ <| tQ <| tG <| sm 2 rfl <| cV rfl (oSm uT35 rfl) <| sm 1 rfl <| nL ?_
  refine tC rfl (fun hc12 => ?_) fun hc12 => ?_
  ·have hlt : i < ts.length := by simpa using hc12
   have hd := List.drop_eq_getElem_cons hlt
   have hm := List.getElem_mem hlt
   have hi := z0d (f := eInt) (List.getElem?_eq_getElem hlt)
   generalize ts[i] = x at hd hm hi
   have hal : (acc.map eInt).length = acc.length := by simp
   refine tSk <| tQ <| tBk <| tG <| sm 5 rfl <| cV rfl (iSq rfl rfl rfl uT35 hi tS3 rfl (by rfl)) <| sm 1 rfl <| cE rfl (ocr (sc_gSome l g1 seen x (by rw [hIt]; exact hs) oM0 hsl) ent80 rfl (po3 rfl rfl rfl) rfl (fun k (h : _) => .inr h) rfl rfl) <| cE rfl (bSl rfl rfl uT35 tZ3 tS3 rfl rfl rfl rfl (fbk rfl) rfl) ?_
   refine cE rfl (aPp rfl rfl rfl rfl (by rfl) ((fun h => h)) uT35 tB3 dC0 (by (simp [z01]; done)) (by (simp [z01, PV.one]; rfl)) (by simp [maxLen, z01]; omega) (by simp [z01]; omega)) ?_
   refine sm 1 rfl <| nL <| tG <| sm 1 rfl <| cV rfl (oB rfl rfl (z05 rfl oM0)) <| sm 1 rfl <| nL ?_
   refine ⟨_, _, ?_, Sub.of (fr' := [(8, iInt (i + 1)), (7, .sl 107 ((acc ++ [(za2 l seen x g1).1]).map eInt).length), (0, .ptr 2001 0), (1, .sl 2003 (seen.map eInt).length), (2, .pv (ints ts))]) ⟨rfl, congrArg (fun z => some (IV.sl _ z)) (by simp [z01, eInt]), rfl, rfl, rfl, trivial⟩, (i + 1), (acc ++ [(za2 l seen x g1).1]), (za2 l seen x g1).2, ?_, ?_, ?_, ?_, ?_, ?_, rfl, (funext (lkq [107, 2001, 2002, 2003] rfl rfl ⟨(congrArg (fun z => some (HO.row _ z)) (by simp [z01, eInt])), rfl, rfl, rfl, trivial⟩)), rfl⟩
   ·omega
   ·omega
   ·rw [<- hI1, hd]; simp [z1p]
   ·rw [<- hI2, hd]; rfl
   ·exact hIt
   ·show g1.pos + 1 + (ts.length - (i + 1)) <= 1000000
    omega
   simp [hIa]
  refine tEx <| tQ <| Tr.freeze (t := 7) (k := 107) rfl rfl sI0 ?_
  have hge : ts.length <= i := by simpa using hc12
  rw [List.drop_eq_nil_of_le hge] at hI1 hI2
  simp only [z1p, List.append_nil] at hI1 hI2
  subst hI2
  refine tG <| sm 2 rfl <| nL <| tRt <| rOk rfl ?_ (po3 rfl rfl rfl)
  rw [<- hI1]
  rfl
theorem z8k (l : List UInt8) (g : Gn) (hb : g.pos <= 999990) : SC Tryz.prog 55 [.ptr 2001 0] (gH l g) (fun _ => False) (.pv (ints (z0p l g).1)) (gH l (z0p l g).2) := by
  refine SC.of Tryz.func55 rfl (lb rfl) fun F ρ w => ?_
  have hp3 : (z03 l 3 g).1 < 3 := z20 oM0
  refine tQ <| tG <| sm 1 rfl <| nL <| tQ <| tG <| sm 1 rfl <| nL <| tQ <| tQ <| Tr.grow (t := 3) (k := 103) ⟨3, 1⟩ rfl rfl rfl rfl rfl <| tG ?_
  refine sm 1 rfl <| cE rfl (ocr (z2v l 3 g oM0 oM0) y7y rfl (po2 rfl rfl) rfl (fun k (h : _) => .inr h) rfl rfl) <| sm 1 rfl <| nL <| tBk <| Tr.sub (Sub.of (fr' := [(4, iInt (((z03 l 3 g).1 : Nat) : Int)), (3, .sl 103 (([] : List Int).map eInt).length), (0, .ptr 2001 0)]) ⟨rfl, rfl, rfl, trivial⟩) <| Tr.heap (σ' := look [(103, some (rowI ([] : List Int))), (2001, some (z3m l (z03 l 3 g).2)), (2002, some (rowI (z03 l 3 g).2.types))]) (lkq [103, 2001, 2002] rfl rfl ⟨rfl, rfl, rfl, trivial⟩) ?_
  refine Tr.loop (fun fr σ m => ∃ (n : Nat) (acc : List Int) (g1 : Gn), (n <= 3) /\ (acc ++ (gTyN l n g1).1 = (z0p l g).1) /\ ((gTyN l n g1).2 = (z0p l g).2) /\ (g1.pos + n <= 1000000) /\ (acc.length + n <= 3) /\ fr = [(4, iInt ((n : Nat) : Int)), (3, .sl 103 (acc.map eInt).length), (0, .ptr 2001 0)] /\ σ = look [(103, some (rowI acc)), (2001, some (z3m l g1)), (2002, some (rowI g1.types))] /\ m = n + 1) (n := (z03 l 3 g).1 + 1) ?_ ?_
  ·exact ⟨(z03 l 3 g).1, ([] : List Int), (z03 l 3 g).2, oM0, (by rw [List.nil_append]; rfl), rfl, (by simp only [z03] at hp3 ⊢; omega), (by simp; omega), rfl, rfl, rfl⟩
  rintro fr σ m ⟨n, acc, g1, hI0, hI1, hI2, hIb, hIa, rfl, rfl, rfl⟩
  refine tQ <| tQ <| tG <| sm 2 rfl <| nL ?_
  refine tC rfl (fun hc8 => ?_) fun hc8 => ?_
  ·have hn0 : 0 < n := by simpa using hc8
   obtain ⟨m, rfl⟩ : ∃ m, n = m + 1 := ⟨n - 1, by omega⟩
   have hp2 : (z03 l 2 g1).1 < 2 := z20 oM0
   have hal : (acc.map eInt).length = acc.length := by simp
   refine tSk <| tQ <| tBk <| tG <| sm 2 rfl <| cE rfl (ocr (z2v l 2 g1 oM0 oM0) y7y rfl (po2 rfl rfl) rfl (fun k (h : _) => .inr h) rfl rfl) <| cV rfl (oB rfl rfl (z05 rfl oM0)) <| cE rfl (bSl rfl rfl uT35 tZ3 tS3 rfl rfl rfl rfl (fbk rfl) rfl) ?_
   refine cE rfl (aPp rfl rfl rfl rfl (by rfl) ((fun h => h)) uT35 tB3 dC0 (by (simp [z01]; done)) (by (simp [z01, PV.one]; rfl)) (by simp [maxLen, z01]; omega) (by simp [z01]; omega)) ?_
   refine sm 1 rfl <| nL <| tG <| sm 1 rfl <| cV rfl (oB rfl rfl (z2o rfl oM0)) <| sm 1 rfl <| nL ?_
   refine ⟨_, _, ?_, Sub.of (fr' := [(4, iInt ((m : Nat) : Int)), (3, .sl 103 ((acc ++ [1 + ((z03 l 2 g1).1 : Int)]).map eInt).length), (0, .ptr 2001 0)]) ⟨congrArg (fun z => some (iInt z)) oM0, congrArg (fun z => some (IV.sl _ z)) (by simp [z01, eInt]), rfl, trivial⟩, m, (acc ++ [1 + ((z03 l 2 g1).1 : Int)]), (z03 l 2 g1).2, ?_, ?_, ?_, ?_, ?_, rfl, (funext (lkq [103, 2001, 2002] rfl rfl ⟨(congrArg (fun z => some (HO.row _ z)) (by simp [z01, eInt])), rfl, rfl, trivial⟩)), rfl⟩
   ·omega
   ·omega
   ·rw [<- hI1]; simp [gTyN]
   ·rw [<- hI2]; rfl
   ·show g1.pos + 1 + m <= 1000000
    omega
   simp; omega
  refine tEx <| tQ <| Tr.freeze (t := 3) (k := 103) rfl rfl sI0 ?_
  obtain rfl : n = 0 := by simp at hc8; omega
  simp only [gTyN, List.append_nil] at hI1 hI2
  subst hI2
  refine tG <| sm 2 rfl <| nL <| tRt <| rOk rfl ?_ (po2 rfl rfl)
  rw [<- hI1]
  rfl
theorem z2n (l : List UInt8) (ts : List Int) (g : Gn) (hb : g.types.length + ts.length <= 1000000) : SC Tryz.prog 34 [.ptr 2001 0, .pv (ints ts)] (gH l g) (fun _ => False) (.pv (ints (z0j ts g).1)) (gH l (z0j ts g).2) := by
  refine SC.of Tryz.func34 rfl (lb rfl) fun F ρ w => ?_
  refine Tr.lenOf (t := 1) rfl (fun hl => ?_)
  simp only [List.length_map] at hl
  refine tQ <| tG <| sm 1 rfl <| nL <| tQ <| tG <| sm 1 rfl <| nL <| tQ <| tQ <| Tr.grow (t := 5) (k := 105) ⟨3, 1⟩ rfl rfl rfl rfl rfl <| tG ?_
  refine sm 1 rfl <| nL <| tBk <| Tr.sub (Sub.of (fr' := [(6, iInt 0), (5, .sl 105 (([] : List Int).map eInt).length), (0, .ptr 2001 0), (1, .pv (ints ts))]) ⟨rfl, rfl, rfl, rfl, trivial⟩) <| Tr.heap (σ' := look [(105, some (rowI ([] : List Int))), (2001, some (z3m l g)), (2002, some (rowI g.types))]) (lkq [105, 2001, 2002] rfl rfl ⟨rfl, rfl, rfl, trivial⟩) ?_
  refine Tr.loop (fun fr σ m => ∃ (i : Nat) (acc : List Int) (g1 : Gn), (i <= ts.length) /\ (acc ++ (z0j (ts.drop i) g1).1 = (z0j ts g).1) /\ ((z0j (ts.drop i) g1).2 = (z0j ts g).2) /\ (g1.types.length + (ts.length - i) <= 1000000) /\ (acc.length = i) /\ fr = [(6, iInt i), (5, .sl 105 (acc.map eInt).length), (0, .ptr 2001 0), (1, .pv (ints ts))] /\ σ = look [(105, some (rowI acc)), (2001, some (z3m l g1)), (2002, some (rowI g1.types))] /\ m = ts.length - i) (n := ts.length - 0) ?_ ?_
  ·exact ⟨0, ([] : List Int), g, Nat.zero_le _, sI0, rfl, hb, rfl, rfl, rfl, rfl⟩
  rintro fr σ m ⟨i, acc, g1, hI0, hI1, hI2, hIb, hIa, rfl, rfl, rfl⟩
  refine tQ <| tQ <| tG <| sm 2 rfl <| cV rfl (oSm uT35 rfl) <| sm 1 rfl <| nL ?_
  refine tC rfl (fun hc10 => ?_) fun hc10 => ?_
  ·have hlt : i < ts.length := by simpa using hc10
   have hd := List.drop_eq_getElem_cons hlt
   have hm := List.getElem_mem hlt
   have hi := z0d (f := eInt) (List.getElem?_eq_getElem hlt)
   generalize ts[i] = x at hd hm hi
   have hal : (acc.map eInt).length = acc.length := by simp
   refine tSk <| tQ <| tBk <| tG <| sm 4 rfl <| cV rfl (iSq rfl rfl rfl uT35 hi tS3 rfl (by rfl)) <| sm 1 rfl <| cE rfl (ocr (zb6 l x g1 oM0) ent35 rfl (po2 rfl rfl) rfl (fun k (h : _) => .inr h) rfl rfl) <| cE rfl (bSl rfl rfl uT35 tZ3 tS3 rfl rfl rfl rfl (fbk rfl) rfl) ?_
   refine cE rfl (aPp rfl rfl rfl rfl (by rfl) ((fun h => h)) uT35 tB3 dC0 (by (simp [z01]; done)) (by (simp [z01, PV.one]; rfl)) (by simp [maxLen, z01]; omega) (by simp [z01]; omega)) ?_
   refine sm 1 rfl <| nL <| tG <| sm 1 rfl <| cV rfl (oB rfl rfl (z05 rfl oM0)) <| sm 1 rfl <| nL ?_
   refine ⟨_, _, ?_, Sub.of (fr' := [(6, iInt (i + 1)), (5, .sl 105 ((acc ++ [(z06 x g1).1]).map eInt).length), (0, .ptr 2001 0), (1, .pv (ints ts))]) ⟨rfl, congrArg (fun z => some (IV.sl _ z)) (by simp [z01, eInt]), rfl, rfl, trivial⟩, (i + 1), (acc ++ [(z06 x g1).1]), (z06 x g1).2, ?_, ?_, ?_, ?_, ?_, rfl, (funext (lkq [105, 2001, 2002] rfl rfl ⟨(congrArg (fun z => some (HO.row _ z)) (by simp [z01, eInt])), rfl, rfl, trivial⟩)), rfl⟩
   ·omega
   ·omega
   ·rw [<- hI1, hd]; simp [z0j]
   ·rw [<- hI2, hd]; rfl
   ·simp only [z06, List.length_append, List.length_cons, List.length_nil]
    omega
   simp [hIa]
  refine tEx <| tQ <| Tr.freeze (t := 5) (k := 105) rfl rfl sI0 ?_
  have hge : ts.length <= i := by simpa using hc10
  rw [List.drop_eq_nil_of_le hge] at hI1 hI2
  simp only [z0j, List.append_nil] at hI1 hI2
  subst hI2
  rw [<- hI1]
  refine tG <| sm 2 rfl <| nL <| tRt <| rOk rfl rfl (po2 rfl rfl)
theorem y9n (l : List UInt8) (ts : List Int) (g : Gn) (hb : g.types.length + ts.length <= 1000000) : SC Tryz.prog 34 [.ptr 2001 0, .pv (ints ts)] (gH l g) (fun _ => False) (.sl 2005 ((z0j ts g).1.map eInt).length) ((2005, rowI (z0j ts g).1) :: gH l (z0j ts g).2) := by
  refine SC.of Tryz.func34 rfl (lb rfl) fun F ρ w => ?_
  refine Tr.lenOf (t := 1) rfl (fun hl => ?_)
  simp only [List.length_map] at hl
  refine tQ <| tG <| sm 1 rfl <| nL <| tQ <| tG <| sm 1 rfl <| nL <| tQ <| tQ <| Tr.grow (t := 5) (k := 2005) ⟨3, 1⟩ rfl rfl rfl rfl rfl <| tG ?_
  refine sm 1 rfl <| nL <| tBk <| Tr.sub (Sub.of (fr' := [(6, iInt 0), (5, .sl 2005 (([] : List Int).map eInt).length), (0, .ptr 2001 0), (1, .pv (ints ts))]) ⟨rfl, rfl, rfl, rfl, trivial⟩) <| Tr.heap (σ' := look [(2005, some (rowI ([] : List Int))), (2001, some (z3m l g)), (2002, some (rowI g.types))]) (lkq [2005, 2001, 2002] rfl rfl ⟨rfl, rfl, rfl, trivial⟩) ?_
  refine Tr.loop (fun fr σ m => ∃ (i : Nat) (acc : List Int) (g1 : Gn), (i <= ts.length) /\ (acc ++ (z0j (ts.drop i) g1).1 = (z0j ts g).1) /\ ((z0j (ts.drop i) g1).2 = (z0j ts g).2) /\ (g1.types.length + (ts.length - i) <= 1000000) /\ (acc.length = i) /\ fr = [(6, iInt i), (5, .sl 2005 (acc.map eInt).length), (0, .ptr 2001 0), (1, .pv (ints ts))] /\ σ = look [(2005, some (rowI acc)), (2001, some (z3m l g1)), (2002, some (rowI g1.types))] /\ m = ts.length - i) (n := ts.length - 0) ?_ ?_
  ·exact ⟨0, ([] : List Int), g, Nat.zero_le _, sI0, rfl, hb, rfl, rfl, rfl, rfl⟩
  rintro fr σ m ⟨i, acc, g1, hI0, hI1, hI2, hIb, hIa, rfl, rfl, rfl⟩
  refine tQ <| tQ <| tG <| sm 2 rfl <| cV rfl (oSm uT35 rfl) <| sm 1 rfl <| nL ?_
  refine tC rfl (fun hc10 => ?_) fun hc10 => ?_
  ·have hlt : i < ts.length := by simpa using hc10
   have hd := List.drop_eq_getElem_cons hlt
   have hm := List.getElem_mem hlt
   have hi := z0d (f := eInt) (List.getElem?_eq_getElem hlt)
   generalize ts[i] = x at hd hm hi
   have hal : (acc.map eInt).length = acc.length := by simp
   refine tSk <| tQ <| tBk <| tG <| sm 4 rfl <| cV rfl (iSq rfl rfl rfl uT35 hi tS3 rfl (by rfl)) <| sm 1 rfl <| cE rfl (ocr (zb6 l x g1 oM0) ent35 rfl (po2 rfl rfl) rfl (fun k (h : _) => .inr h) rfl rfl) <| cE rfl (bSl rfl rfl uT35 tZ3 tS3 rfl rfl rfl rfl (fbk rfl) rfl) ?_
   refine cE rfl (aPp rfl rfl rfl rfl (by rfl) ((fun h => h)) uT35 tB3 dC0 (by (simp [z01]; done)) (by (simp [z01, PV.one]; rfl)) (by simp [maxLen, z01]; omega) (by simp [z01]; omega)) ?_
   refine sm 1 rfl <| nL <| tG <| sm 1 rfl <| cV rfl (oB rfl rfl (z05 rfl oM0)) <| sm 1 rfl <| nL ?_
   refine ⟨_, _, ?_, Sub.of (fr' := [(6, iInt (i + 1)), (5, .sl 2005 ((acc ++ [(z06 x g1).1]).map eInt).length), (0, .ptr 2001 0), (1, .pv (ints ts))]) ⟨rfl, congrArg (fun z => some (IV.sl _ z)) (by simp [z01, eInt]), rfl, rfl, trivial⟩, (i + 1), (acc ++ [(z06 x g1).1]), (z06 x g1).2, ?_, ?_, ?_, ?_, ?_, rfl, (funext (lkq [2005, 2001, 2002] rfl rfl ⟨(congrArg (fun z => some (HO.row _ z)) (by simp [z01, eInt])), rfl, rfl, trivial⟩)), rfl⟩
   ·omega
   ·omega
   ·rw [<- hI1, hd]; simp [z0j]
   ·rw [<- hI2, hd]; rfl
   ·simp only [z06, List.length_append, List.length_cons, List.length_nil]
    omega
   simp [hIa]
  refine tEx <| tQ ?_
  have hge : ts.length <= i := by simpa using hc10
  rw [List.drop_eq_nil_of_le hge] at hI1 hI2
  simp only [z0j, List.append_nil] at hI1 hI2
  subst hI2
  rw [<- hI1]
  refine tG <| sm 2 rfl <| nL <| tRt <| rOk rfl rfl (po3 rfl rfl rfl)
set_option maxRecDepth 20000
theorem y68 (l : List UInt8) (seen : List Int) (g : Gn) (hs : InR g.types seen) (hb : g.pos <= 999980) (hbt : g.types.length <= 999990) (hsl : seen.length <= 1000000) : SC Tryz.prog 54 [.ptr 2001 0, .sl 2003 (seen.map eInt).length] (gHs l g seen) (fun _ => False) (.pv (ndv (z1u l seen g).1)) (gHs l (z1u l seen g).2 seen) := by
  refine SC.sameR (SC.vc tb {} [] Tryz.func54 rfl rfl ?_) fun k _ h => h.elim
  have h0 := z2v l 12 g oM0 oM0
  have h12 : (z03 l 12 g).1 < 12 := z20 oM0
  have hp : (z03 l 12 g).2.pos = g.pos + 1 := by simp only [z03]
  have hs1 : InR (z03 l 12 g).2.types seen := by simp only [z03]; exact hs
  have ht : (z03 l 12 g).2.types.length = g.types.length := by simp only [z03]
  unfold z1u
  generalize z03 l 12 g = A at h0 h12 hp hs1 ht ⊢
  obtain ⟨k, g1⟩ := A
  dsimp only at h0 h12 hp hs1 ht ⊢
  have hN : (gNums.map eInt)[(z03 l 6 g1).1]? = some [vInt (gNums.getD (z03 l 6 g1).1 0)] := y8b (z20 oM0)
  have hO : (y2h.map eInt)[(z03 l 4 g1).1]? = some [vInt (y2h.getD (z03 l 4 g1).1 0)] := y8b (z20 oM0)
  have hp11 : (z03 l 11 g1).1 < 11 := z20 oM0
  have hp6 : (z03 l 6 g1).1 < 6 := z20 oM0
  have hk : k = 0 ∨ k = 1 ∨ k = 2 ∨ k = 3 ∨ k = 4 ∨ k = 5 ∨ k = 6 ∨ k = 7 ∨ k = 8 ∨ k = 9 ∨ k = 10 ∨ k = 11 := by omega
  rcases hk with rfl | rfl | rfl | rfl | rfl | rfl | rfl | rfl | rfl | rfl | rfl | rfl
  · exact ⟨[], h0, sR, ⟨rfl, rfl, trivial⟩, rfl, [], z2v l 6 g1 oM0 oM0, sR, ⟨rfl, rfl, trivial⟩, rfl, hN, rfl, [], z2n l [1] (z03 l 6 g1).2 (by simp [z03, z1l]; omega), sR, ⟨rfl, rfl, trivial⟩, rfl, sP (z1b _), rfl, rfl, rfl, trivial⟩
  · exact ⟨[], h0, sR, ⟨rfl, rfl, trivial⟩, rfl, [], z2v l 2 g1 oM0 oM0, sR, ⟨rfl, rfl, trivial⟩, rfl, [], z2n l [2] (z03 l 2 g1).2 (by simp [z03, z1l]; omega), sR, ⟨rfl, rfl, trivial⟩, rfl, sP (z1b _), rfl, rfl, rfl, trivial⟩
  · exact ⟨[], h0, sR, ⟨rfl, rfl, trivial⟩, rfl, [], z2v l 4 g1 oM0 oM0, sR, ⟨rfl, rfl, trivial⟩, rfl, hO, rfl, [], z23 l seen [1] (z03 l 4 g1).2 hs1 (by simp [z03]; omega) hsl, sR, ⟨rfl, rfl, rfl, trivial⟩, rfl, [], z2n l [1] (z1p l seen [1] (z03 l 4 g1).2).2 (by simp [z03, z1l]; omega), sR, ⟨rfl, rfl, trivial⟩, rfl, sP (z1b _), rfl, rfl, rfl, trivial⟩
  · exact ⟨[], h0, sR, ⟨rfl, rfl, trivial⟩, rfl, [], z23 l seen [2] g1 hs1 (by simp [z03]; omega) hsl, sR, ⟨rfl, rfl, rfl, trivial⟩, rfl, [], z2n l [2] (z1p l seen [2] g1).2 (by simp [z03, z1l]; omega), sR, ⟨rfl, rfl, trivial⟩, rfl, sP (z1b _), rfl, rfl, rfl, trivial⟩
  · exact ⟨[], h0, sR, ⟨rfl, rfl, trivial⟩, rfl, [], z2v l 11 g1 oM0 oM0, sR, ⟨rfl, rfl, trivial⟩, rfl, z05 rfl oM0, [], z23 l seen [1, 1] (z03 l 11 g1).2 hs1 (by simp [z03]; omega) hsl, sR, ⟨rfl, rfl, rfl, trivial⟩, rfl, [], z2n l [1] (z1p l seen [1, 1] (z03 l 11 g1).2).2 (by simp [z03, z1l]; omega), sR, ⟨rfl, rfl, trivial⟩, rfl, sP (z1b _), rfl, rfl, rfl, trivial⟩
  · exact ⟨[], h0, sR, ⟨rfl, rfl, trivial⟩, rfl, [], z2v l 11 g1 oM0 oM0, sR, ⟨rfl, rfl, trivial⟩, rfl, z05 rfl oM0, [], z23 l seen [1, 1] (z03 l 11 g1).2 hs1 (by simp [z03]; omega) hsl, sR, ⟨rfl, rfl, rfl, trivial⟩, rfl, [], z2n l [1] (z1p l seen [1, 1] (z03 l 11 g1).2).2 (by simp [z03, z1l]; omega), sR, ⟨rfl, rfl, trivial⟩, rfl, sP (z1b _), rfl, rfl, rfl, trivial⟩
  · exact ⟨[], h0, sR, ⟨rfl, rfl, trivial⟩, rfl, [], z2v l 11 g1 oM0 oM0, sR, ⟨rfl, rfl, trivial⟩, rfl, z05 rfl oM0, [], z23 l seen [1, 1] (z03 l 11 g1).2 hs1 (by simp [z03]; omega) hsl, sR, ⟨rfl, rfl, rfl, trivial⟩, rfl, [], z2n l [1] (z1p l seen [1, 1] (z03 l 11 g1).2).2 (by simp [z03, z1l]; omega), sR, ⟨rfl, rfl, trivial⟩, rfl, sP (z1b _), rfl, rfl, rfl, trivial⟩
  · exact ⟨[], h0, sR, ⟨rfl, rfl, trivial⟩, rfl, [], z2v l 6 g1 oM0 oM0, sR, ⟨rfl, rfl, trivial⟩, rfl, z05 rfl oM0, [], z23 l seen [1, 1] (z03 l 6 g1).2 hs1 (by simp [z03]; omega) hsl, sR, ⟨rfl, rfl, rfl, trivial⟩, rfl, [], z2n l [2] (z1p l seen [1, 1] (z03 l 6 g1).2).2 (by simp [z03, z1l]; omega), sR, ⟨rfl, rfl, trivial⟩, rfl, sP (z1b _), rfl, rfl, rfl, trivial⟩
  · exact ⟨[], h0, sR, ⟨rfl, rfl, trivial⟩, rfl, [], z2v l 6 g1 oM0 oM0, sR, ⟨rfl, rfl, trivial⟩, rfl, z05 rfl oM0, [], z23 l seen [1, 1] (z03 l 6 g1).2 hs1 (by simp [z03]; omega) hsl, sR, ⟨rfl, rfl, rfl, trivial⟩, rfl, [], z2n l [2] (z1p l seen [1, 1] (z03 l 6 g1).2).2 (by simp [z03, z1l]; omega), sR, ⟨rfl, rfl, trivial⟩, rfl, sP (z1b _), rfl, rfl, rfl, trivial⟩
  · exact ⟨[], h0, sR, ⟨rfl, rfl, trivial⟩, rfl, [], z23 l seen [1] g1 hs1 (by simp [z03]; omega) hsl, sR, ⟨rfl, rfl, rfl, trivial⟩, rfl, [], z2n l [1] (z1p l seen [1] g1).2 (by simp [z03, z1l]; omega), sR, ⟨rfl, rfl, trivial⟩, rfl, sP (z1b _), rfl, rfl, rfl, trivial⟩
  · exact ⟨[], h0, sR, ⟨rfl, rfl, trivial⟩, rfl, [], z23 l seen [1, 1] g1 hs1 (by simp [z03]; omega) hsl, sR, ⟨rfl, rfl, rfl, trivial⟩, rfl, sP (z1b _), rfl, rfl, rfl, trivial⟩
  · have h4 := z2v l 4 g1 oM0 oM0
    have hl4 : (z03 l 4 g1).1 < 4 := z20 oM0
    have hp4 : (z03 l 4 g1).2.pos = g1.pos + 1 := by simp only [z03]
    have hs4 : InR (z03 l 4 g1).2.types seen := by simp only [z03]; exact hs1
    have ht4 : (z03 l 4 g1).2.types.length = g1.types.length := by simp only [z03]
    generalize z03 l 4 g1 = A at h4 hl4 hp4 hs4 ht4 ⊢
    obtain ⟨j, g2⟩ := A
    dsimp only at h4 hl4 hp4 hs4 ht4 ⊢
    have hj : j = 0 ∨ j = 1 ∨ j = 2 ∨ j = 3 := by omega
    rcases hj with rfl | rfl | rfl | rfl
    · exact ⟨[], h0, sR, ⟨rfl, rfl, trivial⟩, rfl, [], h4, sR, ⟨rfl, rfl, trivial⟩, rfl, [], z23 l seen [1, 2] g2 hs4 (by simp [z03]; omega) hsl, sR, ⟨rfl, rfl, rfl, trivial⟩, rfl, [], z2n l [1] (z1p l seen [1, 2] g2).2 (by simp [z03, z1l]; omega), sR, ⟨rfl, rfl, trivial⟩, rfl, sP (z1b _), rfl, rfl, rfl, trivial⟩
    · exact ⟨[], h0, sR, ⟨rfl, rfl, trivial⟩, rfl, [], h4, sR, ⟨rfl, rfl, trivial⟩, rfl, [], z2n l [1] g2 (by simp [z03, z1l]; omega), sR, ⟨rfl, rfl, trivial⟩, rfl, sP (z1b _), rfl, rfl, rfl, trivial⟩
    · exact ⟨[], h0, sR, ⟨rfl, rfl, trivial⟩, rfl, [], h4, sR, ⟨rfl, rfl, trivial⟩, rfl, [], z23 l seen [1] g2 hs4 (by simp [z03]; omega) hsl, sR, ⟨rfl, rfl, rfl, trivial⟩, rfl, sP (z1b _), rfl, rfl, rfl, trivial⟩
    · exact ⟨[], h0, sR, ⟨rfl, rfl, trivial⟩, rfl, [], h4, sR, ⟨rfl, rfl, trivial⟩, rfl, [], z23 l seen [1] g2 hs4 (by simp [z03]; omega) hsl, sR, ⟨rfl, rfl, rfl, trivial⟩, rfl, sP (z1b _), rfl, rfl, rfl, trivial⟩
set_option maxRecDepth 20000
set_option maxHeartbeats 2000000
theorem sc_gEnd (l : List UInt8) (seen : List Int) (p : Plc) (g : Gn) (hs : InR g.types seen) (hb : g.pos <= 999980) (hsl : seen.length <= 1000000) (hp1 : p.Yield.length <= 2) (hp2 : p.Next.length <= 2) (hp3 : p.Left.length <= 2) : SC Tryz.prog 58 [.ptr 2001 0, .sl 2003 (seen.map eInt).length, .pv (plcv p)] (gHs l g seen) (fun _ => False) (.pv (ndv (gEnd l seen p g).1)) (gHs l (gEnd l seen p g).2 seen) := by
  refine SC.sameR (SC.vc tb {} [] Tryz.func58 rfl rfl ?_) fun k _ h => h.elim
  have h0 := z2v l 6 g oM0 oM0
  have h6 : (z03 l 6 g).1 < 6 := z20 oM0
  have hp : (z03 l 6 g).2.pos = g.pos + 1 := by simp only [z03]
  have hs1 : InR (z03 l 6 g).2.types seen := by simp only [z03]; exact hs
  unfold gEnd
  generalize z03 l 6 g = A at h0 h6 hp hs1 ⊢
  obtain ⟨k, g1⟩ := A
  obtain ⟨b1, b2, Y, N, L⟩ := p
  dsimp only at h0 h6 hp hs1 hp1 hp2 hp3 ⊢
  rcases (show k = 0 ∨ k = 1 ∨ k = 2 ∨ k = 3 ∨ k = 4 ∨ k = 5 by omega) with rfl | rfl | rfl | rfl | rfl | rfl <;> cases b1 <;> cases b2 <;> first
    | exact ⟨[], h0, sR, ⟨rfl, rfl, trivial⟩, rfl, [], z23 l seen Y g1 hs1 oM0 hsl, sR, ⟨rfl, rfl, rfl, trivial⟩, rfl, sP (z1b _), rfl, rfl, rfl, trivial⟩
    | exact ⟨[], h0, sR, ⟨rfl, rfl, trivial⟩, rfl, [], z23 l seen N g1 hs1 oM0 hsl, sR, ⟨rfl, rfl, rfl, trivial⟩, rfl, sP (z1b _), rfl, rfl, rfl, trivial⟩
    | exact ⟨[], h0, sR, ⟨rfl, rfl, trivial⟩, rfl, rfl, [], z23 l seen N g1 hs1 oM0 hsl, sR, ⟨rfl, rfl, rfl, trivial⟩, rfl, sP (z1b _), rfl, rfl, rfl, trivial⟩
    | exact ⟨[], h0, sR, ⟨rfl, rfl, trivial⟩, rfl, [], z23 l seen L g1 hs1 oM0 hsl, sR, ⟨rfl, rfl, rfl, trivial⟩, rfl, sP (z1b _), rfl, rfl, rfl, trivial⟩
    | exact ⟨[], h0, sR, ⟨rfl, rfl, trivial⟩, rfl, rfl, [], z23 l seen L g1 hs1 oM0 hsl, sR, ⟨rfl, rfl, rfl, trivial⟩, rfl, sP (z1b _), rfl, rfl, rfl, trivial⟩
    | exact ⟨[], h0, sR, ⟨rfl, rfl, trivial⟩, rfl, [], z23 l seen [1] g1 hs1 (by simp only [List.length_cons, List.length_nil]; omega) hsl, sR, ⟨rfl, rfl, rfl, trivial⟩, rfl, sP (z1b _), rfl, rfl, rfl, trivial⟩
    | exact ⟨[], h0, sR, ⟨rfl, rfl, trivial⟩, rfl, rfl, [], z23 l seen [1] g1 hs1 (by simp only [List.length_cons, List.length_nil]; omega) hsl, sR, ⟨rfl, rfl, rfl, trivial⟩, rfl, sP (z1b _), rfl, rfl, rfl, trivial⟩
section
structure Bd (a b : Nat) (g g' : Gn) : Prop where
  lf : g'.left <= g.left
  ps : g'.pos + 60 * g'.left <= g.pos + 60 * g.left + a
  t1 : g.types.length <= g'.types.length
  t2 : g'.types.length + 10 * g'.left <= g.types.length + 10 * g.left + b
theorem Bd.trans {a b a' b' : Nat} {g g' g'' : Gn} (h : Bd a b g g') (h' : Bd a' b' g' g'') : Bd (a + a') (b + b') g g'' :=
  ⟨by have := h.lf; have := h'.lf; omega, by have := h.ps; have := h'.ps; omega, by have := h.t1; have := h'.t1; omega, by have := h.t2; have := h'.t2; omega⟩
theorem Bd.mono {a b a' b' : Nat} {g g' : Gn} (h : Bd a b g g') (ha : a <= a') (hb : b <= b') : Bd a' b' g g' :=
  ⟨h.lf, by have := h.ps; omega, h.t1, by have := h.t2; omega⟩
section
variable (l : List UInt8)
theorem z84 (n : Nat) (g : Gn) : Bd 1 0 g (z03 l n g).2 := ⟨Nat.le_refl _, by simp only [z03]; omega, Nat.le_refl _, Nat.le_refl _⟩
theorem zc7 (seen ts : List Int) (g : Gn) : Bd ts.length 0 g (z1p l seen ts g).2 := by
  rw [(z1l l seen ts g).1]
  exact ⟨Nat.le_refl _, by simp only []; omega, Nat.le_refl _, Nat.le_refl _⟩
theorem zj2 (ts : List Int) (g : Gn) : Bd 0 ts.length g (z0j ts g).2 := by
  rw [(z26 ts g).1]
  exact ⟨Nat.le_refl _, Nat.le_refl _, by simp, by simp only [List.length_append]; omega⟩
theorem z3w (g : Gn) : Bd 3 0 g (z0p l g).2 /\ (z0p l g).1.length <= 2 := by
  have h3 : (z03 l 3 g).1 < 3 := z20 oM0
  obtain ⟨h1, h2⟩ := z4j l g
  refine ⟨?_, by omega⟩
  rw [h1]
  exact ⟨Nat.le_refl _, by simp only []; omega, Nat.le_refl _, Nat.le_refl _⟩
theorem y7f (kind op n : Int) (name : ByteArray) (seen ins outs : List Int) (g : Gn) : Bd ins.length outs.length g (z47 l kind op n name seen ins outs g).2 := by
  have := (zc7 l seen ins g).trans (zj2 outs (z1p l seen ins g).2)
  simpa [z47] using this
theorem zj3 (seen : List Int) (g : Gn) : Bd 4 1 g (z1u l seen g).2 := by
  unfold z1u
  have h0 := z84 l 12 g
  have P := fun n => z84 l n (z03 l 12 g).2
  have N := fun kind op n name ins outs g' => y7f l kind op n name seen ins outs g'
  simp only
  split
  ·exact ((h0.trans (P 6)).trans (N _ _ _ _ [] [1] _)).mono sI0 sI0
  split
  ·exact ((h0.trans (P 2)).trans (N _ _ _ _ [] [2] _)).mono sI0 sI0
  split
  ·exact ((h0.trans (P 4)).trans (N _ _ _ _ [1] [1] _)).mono sI0 sI0
  split
  ·exact (h0.trans (N _ _ _ _ [2] [2] _)).mono sI0 sI0
  split
  ·exact ((h0.trans (P 11)).trans (N _ _ _ _ [1, 1] [1] _)).mono sI0 sI0
  split
  ·exact ((h0.trans (P 6)).trans (N _ _ _ _ [1, 1] [2] _)).mono sI0 sI0
  split
  ·exact (h0.trans (N _ _ _ _ [1] [1] _)).mono sI0 sI0
  split
  ·exact (h0.trans (N _ _ _ _ [1, 1] [] _)).mono sI0 sI0
  split
  ·exact ((h0.trans (P 4)).trans (N _ _ _ _ [1, 2] [1] _)).mono sI0 sI0
  split
  ·exact ((h0.trans (P 4)).trans (N _ _ _ _ [] [1] _)).mono sI0 sI0
  exact ((h0.trans (P 4)).trans (N _ _ _ _ [1] [] _)).mono sI0 sI0
def Plc.small (p : Plc) : Prop := p.Yield.length <= 2 /\ p.Next.length <= 2 /\ p.Left.length <= 2
theorem bd_end (seen : List Int) (p : Plc) (hp : p.small) (g : Gn) : Bd 3 0 g (gEnd l seen p g).2 := by
  obtain ⟨h1, h2, h3⟩ := hp
  unfold gEnd
  have h0 := z84 l 6 g
  have N := fun kind op n name ins outs g' => y7f l kind op n name seen ins outs g'
  simp only
  split
  ·exact (h0.trans (N _ _ _ _ p.Yield [] _)).mono oM0 sI0
  split
  ·exact (h0.trans (N _ _ _ _ p.Next [] _)).mono oM0 sI0
  split
  ·exact (h0.trans (N _ _ _ _ p.Left [] _)).mono oM0 sI0
  exact (h0.trans (N _ _ _ _ [1] [] _)).mono sI0 sI0
def y26 (rec : GRec) : Prop := ∀ seen p g, p.small -> Bd 4 0 g (rec seen p g).2
theorem y7g (x : List Int -> Nd) (t : List Int) (ht : t.length <= 2) (g : Gn) : Bd 0 2 g (z79 x t g).2 := by
  unfold z79
  split
  ·exact ⟨Nat.le_refl _, Nat.le_refl _, Nat.le_refl _, by show g.types.length + 10 * g.left <= g.types.length + 10 * g.left + 2; omega⟩
  exact (zj2 t g).mono (Nat.le_refl _) ht
theorem bd_if {rec : GRec} (hr : y26 rec) (all : List Int) (p : Plc) (hp : p.small) (g : Gn) : Bd 12 2 g (gIf l rec all p g).2 := by
  unfold gIf
  simp only
  obtain ⟨h1, h2⟩ := z3w l g
  have h3 := h1.trans (zc7 l all [2] (z0p l g).2)
  have hsm : Plc.small ⟨true, p.Loop, (z0p l g).1, p.Next, p.Left⟩ := ⟨h2, hp.2.1, hp.2.2⟩
  have h4 := h3.trans (hr all ⟨true, p.Loop, (z0p l g).1, p.Next, p.Left⟩ _ hsm)
  have h5 := h4.trans (hr all ⟨true, p.Loop, (z0p l g).1, p.Next, p.Left⟩ _ hsm)
  exact (h5.trans (y7g _ _ h2 _)).mono sI0 sI0
theorem y7e {rec : GRec} (hr : y26 rec) (all : List Int) (g : Gn) : Bd 12 4 g (z97 l rec all g).2 := by
  unfold z97
  simp only
  obtain ⟨h1, h2⟩ := z3w l g
  obtain ⟨h3, h4⟩ := z3w l (z0p l g).2
  have h5 := (h1.trans h3).trans ((zc7 l all (z0p l g).1 (z0p l (z0p l g).2).2).mono h2 (Nat.le_refl 0))
  have h6 := h5.trans ((zj2 (z0p l g).1 (z1p l all (z0p l g).1 (z0p l (z0p l g).2).2).2).mono (Nat.le_refl 0) h2)
  have h7 := h6.trans (hr (all ++ (z0j (z0p l g).1 (z1p l all (z0p l g).1 (z0p l (z0p l g).2).2).2).1) ⟨false, true, [], (z0p l g).1, (z0p l (z0p l g).2).1⟩ _ ⟨by simp, h2, h4⟩)
  exact (h7.trans (y7g _ _ h4 _)).mono oM0 oM0
theorem bd_any {rec : Option GRec} (hr : ∀ r, rec = some r -> y26 r) (all : List Int) (p : Plc) (hp : p.small) (g : Gn) (hg : 0 < g.left) : Bd 0 0 g (gAny l rec all p g).2 := by
  have h0 : ({ g with left := g.left - 1 } : Gn).left + 1 = g.left := by show g.left - 1 + 1 = g.left; omega
  have key : ∀ g', Bd 17 5 { g with left := g.left - 1 } g' -> Bd 0 0 g g' := fun g' h =>
    ⟨by have := h.lf; omega, by have := h.ps; have e : ({ g with left := g.left - 1 } : Gn).pos = g.pos := rfl; omega, h.t1, by have := h.t2; have e : ({ g with left := g.left - 1 } : Gn).types = g.types := rfl; rw [e] at this; omega⟩
  have hs := (zj3 l all { g with left := g.left - 1 }).trans (z84 l 6 _)
  unfold gAny
  simp only
  cases rec with
  | none => exact key _ (hs.mono oM0 oM0)
  | some r =>
    simp only
    split
    ·exact key _ ((hs.trans (bd_if l (hr r rfl) all p hp _)).mono oM0 oM0)
    split
    ·exact key _ ((hs.trans (y7e l (hr r rfl) all _)).mono oM0 oM0)
    exact key _ (hs.mono oM0 oM0)
theorem zu4 {rec : Option GRec} (hr : ∀ r, rec = some r -> y26 r) (p : Plc) (hp : p.small) : ∀ (i : Nat) (out : List Nd) (all : List Int) (g : Gn), Bd 3 0 g (z3l l rec p i out all g).2
  | 0, out, all, g => bd_end l all p hp g
  | i + 1, out, all, g => by
    unfold z3l
    split
    ·exact bd_end l all p hp g
    rename_i hl
    have h1 := bd_any l hr all p hp g oM0
    simp only
    split
    ·exact h1.mono oM0 oM0
    exact (h1.trans (zu4 hr p hp i _ _ _)).mono oM0 oM0
theorem z73 : ∀ d : Nat, y26 (z38 l d)
  | 0 => fun seen p g hp => ((z84 l 6 g).trans (zu4 l (rec := none) (fun r h => by cases h) p hp _ _ _ _)).mono oM0 oM0
  | d + 1 => fun seen p g hp => ((z84 l 6 g).trans (zu4 l (rec := some (z38 l d)) (fun r h => by cases h; exact z73 d) p hp _ _ _ _)).mono oM0 oM0
def gRec : Nat -> Option GRec
  | 0 => none
  | d + 1 => some (z38 l d)
theorem y88 (d : Nat) : ∀ r, gRec l d = some r -> y26 r := by
  intro r h
  cases d with
  | zero => cases h
  | succ d => cases h; exact z73 l d
theorem z77 (d : Nat) (seen : List Int) (p : Plc) (g : Gn) : z38 l d seen p g = z3l l (gRec l d) p (z03 l 6 g).1 [] seen (z03 l 6 g).2 := by cases d <;> rfl
end
theorem InR.mono {tys tys' seen : List Int} (h : InR tys seen) (hl : tys.length <= tys'.length) : InR tys' seen := fun s hs => ⟨(h s hs).1, Nat.lt_of_lt_of_le (h s hs).2 hl⟩
theorem InR.app {tys a b : List Int} (h : InR tys a) (h' : InR tys b) : InR tys (a ++ b) := fun s hs => (List.mem_append.1 hs).elim (h s) (h' s)
theorem InR.outs (ts : List Int) (g : Gn) : InR (z0j ts g).2.types (z0j ts g).1 := by
  intro s hs
  have := y45 ts g s hs
  rw [(z26 ts g).1]
  simp only [List.length_append]
  omega
section
variable (l : List UInt8)
theorem y90 (kind op n : Int) (name : ByteArray) (seen ins outs : List Int) (g : Gn) : InR (z47 l kind op n name seen ins outs g).2.types (z47 l kind op n name seen ins outs g).1.outs /\ (z47 l kind op n name seen ins outs g).1.outs.length = outs.length :=
  ⟨InR.outs outs _, (z26 outs _).2⟩
theorem y3h (seen : List Int) (g : Gn) : InR (z1u l seen g).2.types (z1u l seen g).1.outs /\ (z1u l seen g).1.outs.length <= 1 := by
  have N := fun kind op n name ins outs g' => y90 l kind op n name seen ins outs g'
  have fin : ∀ {x : Nd × Gn} {k : Nat}, InR x.2.types x.1.outs /\ x.1.outs.length = k -> k <= 1 -> InR x.2.types x.1.outs /\ x.1.outs.length <= 1 := fun h hk => ⟨h.1, by omega⟩
  unfold z1u
  simp only
  split
  ·exact fin (N _ _ _ _ _ [1] _) sI0
  split
  ·exact fin (N _ _ _ _ _ [2] _) sI0
  split
  ·exact fin (N _ _ _ _ _ [1] _) sI0
  split
  ·exact fin (N _ _ _ _ _ [2] _) sI0
  split
  ·exact fin (N _ _ _ _ _ [1] _) sI0
  split
  ·exact fin (N _ _ _ _ _ [2] _) sI0
  split
  ·exact fin (N _ _ _ _ _ [1] _) sI0
  split
  ·exact fin (N _ _ _ _ _ [] _) sI0
  split
  ·exact fin (N _ _ _ _ _ [1] _) sI0
  split
  ·exact fin (N _ _ _ _ _ [1] _) sI0
  exact fin (N _ _ _ _ _ [] _) sI0
theorem y1q (x : List Int -> Nd) (hx : ∀ o, (x o).outs = o) (t : List Int) (ht : t.length <= 2) (g : Gn) : InR (z79 x t g).2.types (z79 x t g).1.outs /\ (z79 x t g).1.outs.length <= 2 := by
  unfold z79
  split
  ·rw [hx]; exact ⟨fun s hs => by simp at hs, by simp⟩
  rw [hx]; exact ⟨InR.outs t g, by rw [(z26 t g).2]; exact ht⟩
theorem y3x {rec : Option GRec} (all : List Int) (p : Plc) (g : Gn) : InR (gAny l rec all p g).2.types (gAny l rec all p g).1.outs /\ (gAny l rec all p g).1.outs.length <= 2 := by
  have hs := y3h l all { g with left := g.left - 1 }
  unfold gAny
  simp only
  cases rec with
  | none => exact ⟨hs.1, Nat.le_trans hs.2 dC0⟩
  | some r =>
    simp only
    split
    ·unfold gIf; exact y1q _ (fun _ => rfl) _ (z3w l _).2 _
    split
    ·unfold z97; exact y1q _ (fun _ => rfl) _ (z3w l _).2 _
    exact ⟨hs.1, Nat.le_trans hs.2 dC0⟩
end
theorem any_left (l : List UInt8) {rec : Option GRec} (hr : ∀ r, rec = some r -> y26 r) (all : List Int) (p : Plc) (hp : p.small) (g : Gn) (hg : 0 < g.left) : (gAny l rec all p g).2.left + 1 <= g.left := by
  have h0 : ({ g with left := g.left - 1 } : Gn).left + 1 = g.left := by show g.left - 1 + 1 = g.left; omega
  have hs := (zj3 l all { g with left := g.left - 1 }).trans (z84 l 6 _)
  have fin : ∀ {a b : Nat} {g' : Gn}, Bd a b { g with left := g.left - 1 } g' -> g'.left + 1 <= g.left := fun h => by have := h.lf; omega
  unfold gAny
  simp only
  cases rec with
  | none => exact fin hs
  | some r =>
    simp only
    split
    ·exact fin (hs.trans (bd_if l (hr r rfl) all p hp _))
    split
    ·exact fin (hs.trans (y7e l (hr r rfl) all _))
    exact fin hs
theorem zs1 (l : List UInt8) (rec : Option GRec) (p : Plc) : ∀ (i : Nat) (out : List Nd) (all : List Int) (g : Gn), (z3l l rec p i out all g).1.length <= out.length + i + 1
  | 0, out, all, g => by simp [z3l]
  | i + 1, out, all, g => by
    unfold z3l
    split
    ·simp
    simp only
    split
    ·simp
    have := zs1 l rec p i (out ++ [(gAny l rec all p g).1]) (all ++ (gAny l rec all p g).1.outs) (gAny l rec all p g).2
    simp only [List.length_append, List.length_cons, List.length_nil] at this
    omega
theorem zl0 (l : List UInt8) (d : Nat) (seen : List Int) (p : Plc) (g : Gn) : (z38 l d seen p g).1.length <= 6 := by
  rw [z77]
  have h6 : (z03 l 6 g).1 < 6 := z20 oM0
  have := zs1 l (gRec l d) p (z03 l 6 g).1 [] seen (z03 l 6 g).2
  simp only [List.length_nil] at this
  omega
theorem y87 (l : List UInt8) (name : ByteArray) (params : List Int) (g : Gn) (hp : params.length <= 10) (hg : g.pos <= 100) : (z24 l name params g).2.pos <= 2000 := by
  have hS := (z26 params { g with types := [], left := 30 }).1
  have hb := (z73 l 3 ((z0j params { g with types := [], left := 30 }).1 ++ [(z06 1 (z0j params { g with types := [], left := 30 }).2).1, (z06 2 (z06 1 (z0j params { g with types := [], left := 30 }).2).2).1]) plc0 (z06 2 (z06 1 (z0j params { g with types := [], left := 30 }).2).2).2 ⟨by simp [plc0], by simp [plc0], by simp [plc0]⟩).ps
  have h1 : (z06 2 (z06 1 (z0j params { g with types := [], left := 30 }).2).2).2.pos = g.pos := by rw [hS]; rfl
  have h2 : (z06 2 (z06 1 (z0j params { g with types := [], left := 30 }).2).2).2.left = 30 := by rw [hS]; rfl
  rw [h1, h2] at hb
  show (z38 l 3 _ plc0 _).2.pos <= 2000
  omega
end
def qS (l : List UInt8) (all : List Int) (g1 : Gn) (m1 : Nat) : Nd × Gn := z1u l all { g1 with left := m1 }
def qK (l : List UInt8) (all : List Int) (g1 : Gn) (m1 : Nat) : Nat × Gn := z03 l 6 (qS l all g1 m1).2
def qT (l : List UInt8) (all : List Int) (g1 : Gn) (m1 : Nat) : List Int × Gn := z0p l (qK l all g1 m1).2
def qC (l : List UInt8) (all : List Int) (g1 : Gn) (m1 : Nat) : List Int × Gn := z1p l all [2] (qT l all g1 m1).2
def qP (l : List UInt8) (all : List Int) (g1 : Gn) (m1 : Nat) (p : Plc) : Plc := ⟨true, p.Loop, (qT l all g1 m1).1, p.Next, p.Left⟩
def qA (l : List UInt8) (m : Nat) (all : List Int) (p : Plc) (g1 : Gn) (m1 : Nat) : List Nd × Gn := z38 l m all (qP l all g1 m1 p) (qC l all g1 m1).2
def qB (l : List UInt8) (m : Nat) (all : List Int) (p : Plc) (g1 : Gn) (m1 : Nat) : List Nd × Gn := z38 l m all (qP l all g1 m1 p) (qA l m all p g1 m1).2
def qO (l : List UInt8) (all : List Int) (g1 : Gn) (m1 : Nat) : List Int × Gn := z0p l (qT l all g1 m1).2
def qE (l : List UInt8) (all : List Int) (g1 : Gn) (m1 : Nat) : List Int × Gn := z1p l all (qT l all g1 m1).1 (qO l all g1 m1).2
def qQ (l : List UInt8) (all : List Int) (g1 : Gn) (m1 : Nat) : List Int × Gn := z0j (qT l all g1 m1).1 (qE l all g1 m1).2
def qL (l : List UInt8) (all : List Int) (g1 : Gn) (m1 : Nat) : Plc := ⟨false, true, [], (qT l all g1 m1).1, (qO l all g1 m1).1⟩
def qD (l : List UInt8) (m : Nat) (all : List Int) (g1 : Gn) (m1 : Nat) : List Nd × Gn := z38 l m (all ++ (qQ l all g1 m1).1) (qL l all g1 m1) (qQ l all g1 m1).2
def gHr (k : Nat) (l : List UInt8) (g : Gn) (seen : List Int) : List (Nat × HO) := [(2001, z3m l g), (2002, rowI g.types), (k, rowI seen)]
theorem zo2 (l : List UInt8) (seen ts : List Int) (g : Gn) (hs : InR g.types seen) (hb : g.pos + ts.length <= 1000000) (hsl : seen.length <= 1000000) : SC Tryz.prog 56 [.ptr 2001 0, .sl 2010 (seen.map eInt).length, .pv (ints ts)] (gHr 2010 l g seen) (fun _ => False) (.pv (ints (z1p l seen ts g).1)) (gHr 2010 l (z1p l seen ts g).2 seen) := SC.sw 2003 2010 (z23 l seen ts g hs hb hsl)
theorem y35 (l : List UInt8) (seen : List Int) (g : Gn) (hs : InR g.types seen) (hb : g.pos <= 999980) (hbt : g.types.length <= 999990) (hsl : seen.length <= 1000000) : SC Tryz.prog 54 [.ptr 2001 0, .sl 2010 (seen.map eInt).length] (gHr 2010 l g seen) (fun _ => False) (.pv (ndv (z1u l seen g).1)) (gHr 2010 l (z1u l seen g).2 seen) := SC.sw 2003 2010 (y68 l seen g hs hb hbt hsl)
theorem y4r (l : List UInt8) (seen : List Int) (p : Plc) (g : Gn) (hs : InR g.types seen) (hb : g.pos <= 999980) (hsl : seen.length <= 1000000) (hp : p.small) : SC Tryz.prog 58 [.ptr 2001 0, .sl 2010 (seen.map eInt).length, .pv (plcv p)] (gHr 2010 l g seen) (fun _ => False) (.pv (ndv (gEnd l seen p g).1)) (gHr 2010 l (gEnd l seen p g).2 seen) := SC.sw 2003 2010 (sc_gEnd l seen p g hs hb hsl hp.1 hp.2.1 hp.2.2)
def LSCg (l : List UInt8) (d : Nat) : Prop := ∀ (seen : List Int) (p : Plc) (g : Gn), InR g.types seen -> p.small -> g.pos + 60 * g.left <= 900000 -> g.types.length + 10 * g.left <= 900000 -> seen.length + 10 * g.left <= 900000 ->
  SC Tryz.prog 36 [.ptr 2001 0, .sl 2003 (seen.map eInt).length, .pv (plcv p), iInt (d : Int)] (gHs l g seen) (fun _ => False) (.pv (z0f (z38 l d seen p g).1)) (gHs l (z38 l d seen p g).2 seen)
theorem LSCg.at2010 {l : List UInt8} {d : Nat} (h : LSCg l d) (seen : List Int) (p : Plc) (g : Gn) (h1 : InR g.types seen) (h2 : p.small) (h3 : g.pos + 60 * g.left <= 900000) (h4 : g.types.length + 10 * g.left <= 900000) (h5 : seen.length + 10 * g.left <= 900000) :
    SC Tryz.prog 36 [.ptr 2001 0, .sl 2010 (seen.map eInt).length, .pv (plcv p), iInt (d : Int)] (gHr 2010 l g seen) (fun _ => False) (.pv (z0f (z38 l d seen p g).1)) (gHr 2010 l (z38 l d seen p g).2 seen) := SC.sw 2003 2010 (h seen p g h1 h2 h3 h4 h5)
theorem LSCg.at2019 {l : List UInt8} {d : Nat} (h : LSCg l d) (seen : List Int) (p : Plc) (g : Gn) (h1 : InR g.types seen) (h2 : p.small) (h3 : g.pos + 60 * g.left <= 900000) (h4 : g.types.length + 10 * g.left <= 900000) (h5 : seen.length + 10 * g.left <= 900000) :
    SC Tryz.prog 36 [.ptr 2001 0, .sl 2019 (seen.map eInt).length, .pv (plcv p), iInt (d : Int)] (gHr 2019 l g seen) (fun _ => False) (.pv (z0f (z38 l d seen p g).1)) (gHr 2019 l (z38 l d seen p g).2 seen) := SC.sw 2003 2019 (h seen p g h1 h2 h3 h4 h5)
theorem y1c (l : List UInt8) (d : Nat) (hd3 : d <= 100) (ih : ∀ m, d = m + 1 -> LSCg l m) (seen : List Int) (p : Plc) (g : Gn) (hs : InR g.types seen) (hp : p.small) (hb1 : g.pos + 60 * g.left <= 900000) (hb2 : g.types.length + 10 * g.left <= 900000) (hb3 : seen.length + 10 * g.left <= 900000) : SC Tryz.prog 36 [.ptr 2001 0, .sl 2003 (seen.map eInt).length, .pv (plcv p), iInt (d : Int)] (gHs l g seen) (fun _ => False) (.pv (z0f (z38 l d seen p g).1)) (gHs l (z38 l d seen p g).2 seen) := by
  refine SC.of Tryz.func36 rfl (lb rfl) fun F ρ w => ?_
  have h6 : (z03 l 6 g).1 < 6 := z20 oM0
  have hsl0 : (seen.map eInt).length = seen.length := by simp
  refine tQ <| tG <| cE rfl (z1y rfl rfl) <| sm 1 rfl <| nL <| tQ <| tG <| sm 1 rfl <| nL <| tQ <| tG <| sm 1 rfl ?_
  refine nL <| tQ <| Tr.grow (t := 10) (k := 2010) ⟨3, 1⟩ rfl rfl rfl rfl rfl <| tG <| sm 2 rfl ?_
  refine cE rfl (z5m rfl rfl rfl rfl rfl rfl rfl sI0 uT35 tB3 dC0 z56 z39 (by simp [maxLen]; omega) (by simp; omega)) ?_
  refine sm 1 rfl <| nL <| tQ <| tQ <| Tr.grow (t := 9) (k := 109) ⟨42, 8⟩ rfl rfl rfl rfl rfl <| tG <| sm 1 rfl <| cE rfl (ocr (z2v l 6 g oM0 oM0) y7y rfl (po2 rfl rfl) rfl (fun k (h : _) => .inr h) rfl rfl) <| sm 1 rfl <| nL <| tBk <| Tr.sub (Sub.of (fr' := [(11, iInt (((z03 l 6 g).1 : Nat) : Int)), (10, .sl 2010 (seen.map eInt).length), (9, .sl 109 (([] : List Nd).map Nd.enc).length), (6, .pv (.ept [vBool p.If, vBool p.Loop, ints p.Yield, ints p.Next, ints p.Left] 0)), (0, .ptr 2001 0), (3, iInt (d : Int))]) ⟨rfl, congrArg (fun z => some (IV.sl _ z)) sI0, rfl, rfl, rfl, rfl, trivial⟩) ?_
  refine Tr.heap (σ' := look [(109, some (.row ⟨42, 8⟩ (([] : List Nd).map Nd.enc))), (2010, some (rowI seen)), (2001, some (z3m l (z03 l 6 g).2)), (2002, some (rowI (z03 l 6 g).2.types)), (2003, some (rowI seen))]) (lkq [109, 2010, 2001, 2002, 2003] rfl rfl ⟨rfl, (congrArg (fun z => some (HO.row _ z)) sI0), rfl, rfl, rfl, trivial⟩) ?_
  refine Tr.loop (fun fr σ m => ∃ (n : Nat) (out : List Nd) (all : List Int) (g1 : Gn), (z3l l (gRec l d) p n out all g1 = z38 l d seen p g) /\ (InR g1.types all) /\ (g1.pos + 60 * g1.left <= 900001) /\ (g1.types.length + 10 * g1.left <= 900000) /\ (all.length + 10 * g1.left <= 900000) /\ (out.length + n <= 5) /\ fr = [(11, iInt ((n : Nat) : Int)), (10, .sl 2010 (all.map eInt).length), (9, .sl 109 (out.map Nd.enc).length), (6, .pv (.ept [vBool p.If, vBool p.Loop, ints p.Yield, ints p.Next, ints p.Left] 0)), (0, .ptr 2001 0), (3, iInt (d : Int))] /\ σ = look [(109, some (.row ⟨42, 8⟩ (out.map Nd.enc))), (2010, some (rowI all)), (2001, some (z3m l g1)), (2002, some (rowI g1.types)), (2003, some (rowI seen))] /\ m = n + 1) (n := (z03 l 6 g).1 + 1) ?_ ?_
  ·exact ⟨(z03 l 6 g).1, ([] : List Nd), seen, (z03 l 6 g).2, (z77 l d seen p g).symm, hs, (by simp only [z03]; omega), hb2, hb3, (by simp; omega), rfl, rfl, rfl⟩
  rintro fr σ m ⟨n, out, all, g1, hI, hIn, hIp, hIt, hIa, hIo, rfl, rfl, rfl⟩
  refine tQ <| tQ <| tG <| sm 3 rfl ?_
  refine wS 27 rfl (fun hb27 => ?_) fun hb27 => ?_
  ·refine sm 1 rfl <| yV rfl rfl (nCk rfl rfl rfl) <| sm 4 rfl <| nL ?_
   refine tC rfl (fun hc33 => ?_) fun hc33 => ?_
   ·refine tSk <| tQ <| tBk <| tQ ?_
    have hn0 : 0 < n := by simpa using hb27
    obtain ⟨n1, rfl⟩ : ∃ n1, n = n1 + 1 := ⟨n - 1, by omega⟩
    have hl0 : 0 < g1.left := by simpa using hc33
    have hleft : ¬ g1.left = 0 := by omega
    obtain ⟨m1, hm1⟩ : ∃ m1, g1.left = m1 + 1 := ⟨g1.left - 1, by omega⟩
    have hXb := bd_any l (y88 l d) all p hp g1 hl0
    have hXo := y3x l (rec := gRec l d) all p g1
    have hXl : (gAny l (gRec l d) all p g1).2.left + 1 <= g1.left := any_left l (y88 l d) all p hp g1 hl0
    refine tG <| sm 2 rfl <| cV rfl (nCk rfl rfl rfl) <| sm 2 rfl <| cV rfl (oB rfl rfl (z2o rfl oM0)) <| cV rfl (nCk rfl rfl rfl) <| sm 1 rfl <| c0 (sBx rfl rfl rfl rfl ((fun h => h)) tS3 (rfl) (lb rfl)) <| nL <| tQ <| Tr.heap (σ' := look [(109, some (.row ⟨42, 8⟩ (out.map Nd.enc))), (2010, some (rowI all)), (2001, some (z3m l { g1 with left := m1 })), (2002, some (rowI { g1 with left := m1 }.types)), (2003, some (rowI seen))]) (lkq [2001, 109, 2010, 2002, 2003] rfl rfl ⟨(by exact congrArg (fun z => some (HO.box [.pv (bts l), iInt (g1.pos : Int), .sl 2002 (g1.types.map eInt).length, iInt z])) (by show (g1.left : Int) - 1 = (m1 : Int); omega)), rfl, rfl, rfl, rfl, trivial⟩) <| tG ?_
    refine sm 2 rfl <| cE rfl (ocr (y35 l all { g1 with left := m1 } hIn (by show g1.pos <= 999980; omega) (by show g1.types.length <= 999990; omega) oM0) ent54 rfl (po3 rfl rfl rfl) rfl (fun k (h : _) => .inr h) rfl rfl) <| cE rfl (aLc (k := 112) rfl tZ42 rfl rfl rfl rfl) <| c0 (sBA rfl rfl rfl rfl rfl ((fun h => h)) tS42 (flk rfl) (lb rfl)) <| nL <| tQ ?_
    have e2 : ({ g1 with left := g1.left - 1 } : Gn) = { g1 with left := m1 } := by rw [hm1]; rfl
    have hSb : Bd 4 1 { g1 with left := m1 } (qS l all g1 m1).2 := zj3 l all { g1 with left := m1 }
    have hS1 := hSb.ps
    have hS2 := hSb.t1
    have hS3 := hSb.t2
    have hS4 := hSb.lf
    have hKb : Bd 1 0 (qS l all g1 m1).2 (qK l all g1 m1).2 := z84 l 6 (qS l all g1 m1).2
    have hK1 := hKb.ps
    have hK2 := hKb.t1
    have hK3 := hKb.t2
    have hK4 := hKb.lf
    dsimp only at hS1 hS2 hS3 hS4
    refine tG <| sm 1 rfl <| cE rfl (ocr (z2v l 6 (qS l all g1 m1).2 oM0 oM0) y7y rfl (po2 rfl rfl) rfl (fun k (h : _) => .inr h) rfl rfl) <| sm 1 rfl <| nL <| tQ ?_
    refine Tr.cut (fr' := [(12, .ptr 112 0), (11, iInt ((n1 + 1 : Nat) : Int)), (10, .sl 2010 (all.map eInt).length), (9, .sl 109 (out.map Nd.enc).length), (6, .pv (.ept [vBool p.If, vBool p.Loop, ints p.Yield, ints p.Next, ints p.Left] 0)), (0, .ptr 2001 0), (3, iInt (d : Int))]) (σ' := look [(112, some (.box [.pv (vInt (gAny l (gRec l d) all p g1).1.kind), .pv (vInt (gAny l (gRec l d) all p g1).1.op), .pv (vInt (gAny l (gRec l d) all p g1).1.n), .pv (vStr (gAny l (gRec l d) all p g1).1.name), .pv (ints (gAny l (gRec l d) all p g1).1.args), .pv (ints (gAny l (gRec l d) all p g1).1.outs), .pv (ints (gAny l (gRec l d) all p g1).1.params), .pv (kids (gAny l (gRec l d) all p g1).1.kids)])), (109, some (.row ⟨42, 8⟩ (out.map Nd.enc))), (2010, some (rowI all)), (2001, some (z3m l (gAny l (gRec l d) all p g1).2)), (2002, some (rowI (gAny l (gRec l d) all p g1).2.types)), (2003, some (rowI seen))]) ?_ ?_
    ·refine tBk <| tQ <| tG <| sm 3 rfl ?_
     refine wS 52 rfl (fun hb52 => ?_) fun hb52 => ?_
     ·refine sm 4 rfl <| nL ?_
      refine tC rfl (fun hc49 => ?_) fun hc49 => ?_
      ·have hk0 : (z03 l 6 (qS l all g1 m1).2).1 = 0 := by simp at hb52; omega
       obtain ⟨m, rfl⟩ : ∃ m, d = m + 1 := ⟨d - 1, by simp at hc49; omega⟩
       obtain ⟨hTb, hTl⟩ : Bd 3 0 (qK l all g1 m1).2 (qT l all g1 m1).2 /\ (qT l all g1 m1).1.length <= 2 := z3w l (qK l all g1 m1).2
       have hT1 := hTb.ps
       have hT2 := hTb.t1
       have hT3 := hTb.t2
       have hT4 := hTb.lf
       have hXP : Plc.small (qP l all g1 m1 p) := ⟨hTl, hp.2.1, hp.2.2⟩
       have hCb : Bd 1 0 (qT l all g1 m1).2 (qC l all g1 m1).2 := zc7 l all [2] (qT l all g1 m1).2
       have hC1 := hCb.ps
       have hC2 := hCb.t1
       have hC3 := hCb.t2
       have hC4 := hCb.lf
       have hAb : Bd 4 0 (qC l all g1 m1).2 (qA l m all p g1 m1).2 := z73 l m all (qP l all g1 m1 p) (qC l all g1 m1).2 hXP
       have hA1 := hAb.ps
       have hA2 := hAb.t1
       have hA3 := hAb.t2
       have hA4 := hAb.lf
       have hBb : Bd 4 0 (qA l m all p g1 m1).2 (qB l m all p g1 m1).2 := z73 l m all (qP l all g1 m1 p) (qA l m all p g1 m1).2 hXP
       have hB1 := hBb.ps
       have hB2 := hBb.t1
       have hB3 := hBb.t2
       have hB4 := hBb.lf
       refine tQ <| tG <| sm 1 rfl <| cE rfl (ocr (z8k l (qK l all g1 m1).2 oM0) y7z rfl (po2 rfl rfl) rfl (fun k (h : _) => .inr h) rfl rfl) <| sm 1 rfl <| nL <| tQ <| tG <| sm 7 rfl <| cV rfl (bPu rfl rfl tZ77 tP77 rfl (fbk rfl) rfl) <| cE rfl (aLc (k := 115) rfl tZ77 rfl rfl rfl rfl) <| c0 (sBA rfl rfl rfl rfl rfl ((fun h => h)) tS77 (flk rfl) (lb rfl)) ?_
       refine nL <| tQ <| Tr.freezeBox (t := 15) (k := 115) rfl rfl rfl <| tG <| sm 2 rfl <| cE rfl (bSl rfl rfl uT35 tZ3 tS3 rfl rfl rfl rfl (fbk rfl) rfl) ?_
       refine cE rfl (ocr (zo2 l all [2] (qT l all g1 m1).2 (hIn.mono oM0) (by simp only [List.length_cons, List.length_nil]; omega) oM0) ent56 rfl (po3 rfl rfl rfl) rfl (fun k (h : _) => .inr h) rfl rfl) ?_
       refine cV rfl (bPu rfl rfl tZ42 tP42 rfl (fbk rfl) rfl) <| c0 (sBA rfl rfl rfl rfl rfl ((fun h => h)) tS42 (flk rfl) (lb rfl)) <| nL <| tQ <| Tr.fixNil (k := 112) rfl (fun h => h) <| tG <| sm 2 rfl <| cV rfl (lEA rfl rfl Tryz.underlying77 rfl tS77 (lb rfl)) <| sm 1 rfl <| cV rfl (oB rfl rfl (z2o rfl oM0)) <| cE rfl (cRr ((ih m rfl).at2010 all (qP l all g1 m1 p) (qC l all g1 m1).2 (hIn.mono oM0) hXP oM0 oM0 oM0) y7x rfl rfl (sSm rfl (sSm rfl (sSm rfl (sSm (congrArg (fun z => iInt z) oM0) Subs.nil)))) (po3 rfl rfl rfl) (by rfl) (fun k (h : _) => .inr h) rfl (by rfl)) <| sm 1 rfl ?_
       refine nL <| tQ <| tG <| sm 3 rfl <| cV rfl (lEA rfl rfl Tryz.underlying77 rfl tS77 (lb rfl)) <| sm 1 rfl <| cV rfl (oB rfl rfl (z2o rfl oM0)) <| cE rfl (cRr ((ih m rfl).at2010 all (qP l all g1 m1 p) (qA l m all p g1 m1).2 (hIn.mono oM0) hXP oM0 oM0 oM0) y7x rfl rfl (sSm rfl (sSm rfl (sSm rfl (sSm (congrArg (fun z => iInt z) oM0) Subs.nil)))) (po3 rfl rfl rfl) (by rfl) (fun k (h : _) => .inr h) rfl (by rfl)) <| cE rfl (bSl rfl rfl uT40 tZ43 tS43 rfl rfl rfl rfl (fbk rfl) rfl) <| sm 1 rfl <| c0 (sBx rfl rfl rfl rfl ((fun h => h)) tS40 (rfl) (lb rfl)) <| nL ?_
       refine tQ <| tG <| cV rfl (lBP rfl rfl rfl uT42 rfl tS42 (lb rfl) rfl trivial) <| cE rfl (ocq (z2r (.mk 10 0 0 z0o (qC l all g1 m1).1 [] [] [(qA l m all p g1 m1).1, (qB l m all p g1 m1).1] : Nd)) zq5 rfl rfl) <| sm 1 rfl <| nL ?_
       refine tC rfl (fun hc88 => ?_) fun hc88 => ?_
       ·have hX : gAny l (gRec l (m + 1)) all p g1 = ((.mk 10 0 0 z0o (qC l all g1 m1).1 (z0j (qT l all g1 m1).1 (qB l m all p g1 m1).2).1 [] [(qA l m all p g1 m1).1, (qB l m all p g1 m1).1] : Nd), (z0j (qT l all g1 m1).1 (qB l m all p g1 m1).2).2) := by
          have hcl : z02 (.mk 10 0 0 z0o (qC l all g1 m1).1 [] [] [(qA l m all p g1 m1).1, (qB l m all p g1 m1).1] : Nd) = false := by simpa using hc88
          unfold gAny
          simp only [gRec, e2]
          exact (if_pos hk0).trans (if_neg (fun h => Bool.noConfusion (hcl.symm.trans h)))
        refine tG <| sm 2 rfl <| cE rfl (ocr (z2n l (qT l all g1 m1).1 (qB l m all p g1 m1).2 oM0) y5a rfl (po2 rfl rfl) rfl (fun k (h : _) => .inr h) rfl rfl) <| sm 1 rfl <| c0 (sBx rfl rfl rfl rfl ((fun h => h)) tS35 (rfl) (lb rfl)) <| nL ?_
        refine ⟨rfl, Sub.of ⟨rfl, rfl, rfl, rfl, rfl, rfl, rfl, trivial⟩, funext (lkq [112, 109, 2010, 2001, 2002, 2003, 115, 2019] rfl rfl ⟨(by first | rfl | (rw [hX]; rfl)), rfl, rfl, (by first | rfl | (rw [hX]; rfl)), (by first | rfl | (rw [hX]; rfl)), rfl, rfl, rfl, trivial⟩)⟩
       have hX : gAny l (gRec l (m + 1)) all p g1 = ((.mk 10 0 0 z0o (qC l all g1 m1).1 [] [] [(qA l m all p g1 m1).1, (qB l m all p g1 m1).1] : Nd), (qB l m all p g1 m1).2) := by
         have hcl : z02 (.mk 10 0 0 z0o (qC l all g1 m1).1 [] [] [(qA l m all p g1 m1).1, (qB l m all p g1 m1).1] : Nd) = true := by simpa using hc88
         unfold gAny
         simp only [gRec, e2]
         exact (if_pos hk0).trans (if_pos hcl)
       refine tSk ?_
       refine ⟨rfl, Sub.of ⟨rfl, rfl, rfl, rfl, rfl, rfl, rfl, trivial⟩, funext (lkq [112, 109, 2010, 2001, 2002, 2003, 115, 2019] rfl rfl ⟨(by first | rfl | (rw [hX]; rfl)), rfl, rfl, (by first | rfl | (rw [hX]; rfl)), (by first | rfl | (rw [hX]; rfl)), rfl, rfl, rfl, trivial⟩)⟩
      refine tQ <| tG <| sm 3 rfl ?_
      refine wS 96 rfl (fun hb96 => ?_) fun hb96 => ?_
      ·refine sm 4 rfl <| nL ?_
       refine tC rfl (fun hc93 => ?_) fun hc93 => ?_
       ·have hk1 : (z03 l 6 (qS l all g1 m1).2).1 = 1 := by simp at hb96; omega
        obtain ⟨m, rfl⟩ : ∃ m, d = m + 1 := ⟨d - 1, by simp at hc93; omega⟩
        obtain ⟨hTb, hTl⟩ : Bd 3 0 (qK l all g1 m1).2 (qT l all g1 m1).2 /\ (qT l all g1 m1).1.length <= 2 := z3w l (qK l all g1 m1).2
        have hT1 := hTb.ps
        have hT2 := hTb.t1
        have hT3 := hTb.t2
        have hT4 := hTb.lf
        obtain ⟨hOb, hOl⟩ : Bd 3 0 (qT l all g1 m1).2 (qO l all g1 m1).2 /\ (qO l all g1 m1).1.length <= 2 := z3w l (qT l all g1 m1).2
        have hO1 := hOb.ps
        have hO2 := hOb.t1
        have hO3 := hOb.t2
        have hO4 := hOb.lf
        have hLP : Plc.small (qL l all g1 m1) := ⟨by simp [qL], hTl, hOl⟩
        have hCb : Bd (qT l all g1 m1).1.length 0 (qO l all g1 m1).2 (qE l all g1 m1).2 := zc7 l all (qT l all g1 m1).1 (qO l all g1 m1).2
        have hC1 := hCb.ps
        have hC2 := hCb.t1
        have hC3 := hCb.t2
        have hC4 := hCb.lf
        have hQb : Bd 0 (qT l all g1 m1).1.length (qE l all g1 m1).2 (qQ l all g1 m1).2 := zj2 (qT l all g1 m1).1 (qE l all g1 m1).2
        have hQ1 := hQb.ps
        have hQ2 := hQb.t1
        have hQ3 := hQb.t2
        have hQ4 := hQb.lf
        have hQl : (qQ l all g1 m1).1.length = (qT l all g1 m1).1.length := (z26 (qT l all g1 m1).1 (qE l all g1 m1).2).2
        have hInQ : InR (qQ l all g1 m1).2.types (all ++ (qQ l all g1 m1).1) := (hIn.mono oM0).app (InR.outs _ _)
        have hBb : Bd 4 0 (qQ l all g1 m1).2 (qD l m all g1 m1).2 := z73 l m (all ++ (qQ l all g1 m1).1) (qL l all g1 m1) (qQ l all g1 m1).2 hLP
        have hB1 := hBb.ps
        have hB2 := hBb.t1
        have hB3 := hBb.t2
        have hB4 := hBb.lf
        have hQl2 : ((qQ l all g1 m1).1.map eInt).length = (qQ l all g1 m1).1.length := by simp
        have hal : (all.map eInt).length = all.length := by simp
        have hQl3 := (z26 (qT l all g1 m1).1 (qE l all g1 m1).2).2
        refine tQ <| tG <| sm 1 rfl <| cE rfl (ocr (z8k l (qK l all g1 m1).2 oM0) y7z rfl (po2 rfl rfl) rfl (fun k (h : _) => .inr h) rfl rfl) <| sm 1 rfl <| cE rfl (ocr (z8k l (qT l all g1 m1).2 oM0) y7z rfl (po2 rfl rfl) rfl (fun k (h : _) => .inr h) rfl rfl) <| sm 2 rfl <| nL <| tQ <| tG <| sm 3 rfl <| cE rfl (ocr (zo2 l all (qT l all g1 m1).1 (qO l all g1 m1).2 (hIn.mono oM0) oM0 oM0) ent56 rfl (po3 rfl rfl rfl) rfl (fun k (h : _) => .inr h) rfl rfl) ?_
        refine sm 2 rfl <| cE rfl (ocr (z2n l (qT l all g1 m1).1 (qE l all g1 m1).2 oM0) y5a rfl (po2 rfl rfl) rfl (fun k (h : _) => .inr h) rfl rfl) <| cV rfl (bPu rfl rfl tZ42 tP42 rfl (fbk rfl) rfl) <| c0 (sBA rfl rfl rfl rfl rfl ((fun h => h)) tS42 (flk rfl) (lb rfl)) <| nL <| tQ <| Tr.fixNil (k := 112) rfl (fun h => h) <| tG <| sm 1 rfl <| nL <| tQ <| Tr.grow (t := 19) (k := 2019) ⟨3, 1⟩ rfl rfl rfl rfl rfl ?_
        refine tG <| sm 2 rfl ?_
        refine cE rfl (z5m rfl rfl rfl rfl rfl rfl rfl sI0 uT35 tB3 dC0 z56 z39 (by simp [maxLen]; omega) (by simp; omega)) ?_
        refine sm 1 rfl <| nL <| tQ <| tG <| sm 3 rfl ?_
        refine cE rfl (aPp rfl rfl rfl rfl (by (simp; done)) ((fun h => h)) uT35 tB3 dC0 (z56) (z39) (by simp [maxLen, z01]; omega) (by simp [z01]; omega)) ?_
        refine sm 1 rfl <| nL <| tQ ?_
        refine Tr.heap (σ' := look [(2019, some (rowI (all ++ (qQ l all g1 m1).1))), (112, some (.box [.pv (vInt (.mk 11 0 0 z0o (qE l all g1 m1).1 [] (qQ l all g1 m1).1 [] : Nd).kind), .pv (vInt (.mk 11 0 0 z0o (qE l all g1 m1).1 [] (qQ l all g1 m1).1 [] : Nd).op), .pv (vInt (.mk 11 0 0 z0o (qE l all g1 m1).1 [] (qQ l all g1 m1).1 [] : Nd).n), .pv (vStr (.mk 11 0 0 z0o (qE l all g1 m1).1 [] (qQ l all g1 m1).1 [] : Nd).name), .pv (ints (.mk 11 0 0 z0o (qE l all g1 m1).1 [] (qQ l all g1 m1).1 [] : Nd).args), .pv (ints (.mk 11 0 0 z0o (qE l all g1 m1).1 [] (qQ l all g1 m1).1 [] : Nd).outs), .pv (ints (.mk 11 0 0 z0o (qE l all g1 m1).1 [] (qQ l all g1 m1).1 [] : Nd).params), .pv (kids (.mk 11 0 0 z0o (qE l all g1 m1).1 [] (qQ l all g1 m1).1 [] : Nd).kids)])), (109, some (.row ⟨42, 8⟩ (out.map Nd.enc))), (2010, some (rowI all)), (2001, some (z3m l (qQ l all g1 m1).2)), (2002, some (rowI (qQ l all g1 m1).2.types)), (2003, some (rowI seen))]) (lkq [2019, 112, 109, 2010, 2001, 2002, 2003] rfl rfl ⟨(congrArg (fun z => some (HO.row _ z)) (by simp [qQ])), rfl, rfl, rfl, rfl, rfl, rfl, trivial⟩) ?_
        refine tG <| sm 4 rfl <| cV rfl (bPu rfl rfl tZ77 tP77 rfl (fbk rfl) rfl) <| sm 1 rfl <| cV rfl (oB rfl rfl (z2o rfl oM0)) ?_
        refine cE rfl (cRr ((ih m rfl).at2019 (all ++ (qQ l all g1 m1).1) (qL l all g1 m1) (qQ l all g1 m1).2 hInQ hLP oM0 oM0 (by rw [List.length_append]; omega)) y7x rfl rfl (sSm rfl (sSm (congrArg (fun n => IV.sl 2019 n) (by simp [qQ])) (Subs.cons (fun _ _ _ _ h => z42 (q := plcv (qL l all g1 m1)) (PSub.agg (ps := [vBool false, vBool true, .val (.slice none 0 0), ints (qT l all g1 m1).1, ints (qO l all g1 m1).1]) (And.intro (PSub.refl _) (And.intro (PSub.refl _) (And.intro PSub.nil (And.intro (PSub.refl _) (And.intro (PSub.refl _) trivial)))))) h) (sSm (congrArg (fun z => iInt z) oM0) Subs.nil)))) (po3 rfl rfl rfl) (by rfl) (fun k (h : _) => .inr h) rfl (by rfl)) ?_
        refine cE rfl (bSl rfl rfl uT40 tZ43 tS43 rfl rfl rfl rfl (fbk rfl) rfl) <| sm 1 rfl <| c0 (sBx rfl rfl rfl rfl ((fun h => h)) tS40 (rfl) (lb rfl)) <| nL <| tQ <| Tr.drop (k := 2019) <| tG <| cV rfl (lBP rfl rfl rfl uT42 rfl tS42 (lb rfl) rfl trivial) <| cE rfl (ocq (z2r (.mk 11 0 0 z0o (qE l all g1 m1).1 [] (qQ l all g1 m1).1 [(qD l m all g1 m1).1] : Nd)) zq5 rfl rfl) <| sm 1 rfl <| nL ?_
        refine tC rfl (fun hc131 => ?_) fun hc131 => ?_
        ·have hX : gAny l (gRec l (m + 1)) all p g1 = ((.mk 11 0 0 z0o (qE l all g1 m1).1 (z0j (qO l all g1 m1).1 (qD l m all g1 m1).2).1 (qQ l all g1 m1).1 [(qD l m all g1 m1).1] : Nd), (z0j (qO l all g1 m1).1 (qD l m all g1 m1).2).2) := by
           have hcl : z02 (.mk 11 0 0 z0o (qE l all g1 m1).1 [] (qQ l all g1 m1).1 [(qD l m all g1 m1).1] : Nd) = false := by simpa using hc131
           have hk0 : ¬ (z03 l 6 (qS l all g1 m1).2).1 = 0 := by omega
           unfold gAny
           simp only [gRec, e2]
           exact (if_neg hk0).trans ((if_pos hk1).trans (if_neg (fun h => Bool.noConfusion (hcl.symm.trans h))))
         refine tG <| sm 2 rfl <| cE rfl (ocr (z2n l (qO l all g1 m1).1 (qD l m all g1 m1).2 oM0) y5a rfl (po2 rfl rfl) rfl (fun k (h : _) => .inr h) rfl rfl) <| sm 1 rfl <| c0 (sBx rfl rfl rfl rfl ((fun h => h)) tS35 (rfl) (lb rfl)) <| nL ?_
         refine ⟨rfl, Sub.of ⟨rfl, rfl, rfl, rfl, rfl, rfl, rfl, trivial⟩, funext (lkq [112, 109, 2010, 2001, 2002, 2003, 115, 2019] rfl rfl ⟨(by first | rfl | (rw [hX]; rfl)), rfl, rfl, (by first | rfl | (rw [hX]; rfl)), (by first | rfl | (rw [hX]; rfl)), rfl, rfl, rfl, trivial⟩)⟩
        have hX : gAny l (gRec l (m + 1)) all p g1 = ((.mk 11 0 0 z0o (qE l all g1 m1).1 [] (qQ l all g1 m1).1 [(qD l m all g1 m1).1] : Nd), (qD l m all g1 m1).2) := by
          have hcl : z02 (.mk 11 0 0 z0o (qE l all g1 m1).1 [] (qQ l all g1 m1).1 [(qD l m all g1 m1).1] : Nd) = true := by simpa using hc131
          have hk0 : ¬ (z03 l 6 (qS l all g1 m1).2).1 = 0 := by omega
          unfold gAny
          simp only [gRec, e2]
          exact (if_neg hk0).trans ((if_pos hk1).trans (if_pos hcl))
        refine tSk ?_
        refine ⟨rfl, Sub.of ⟨rfl, rfl, rfl, rfl, rfl, rfl, rfl, trivial⟩, funext (lkq [112, 109, 2010, 2001, 2002, 2003, 115, 2019] rfl rfl ⟨(by first | rfl | (rw [hX]; rfl)), rfl, rfl, (by first | rfl | (rw [hX]; rfl)), (by first | rfl | (rw [hX]; rfl)), rfl, rfl, rfl, trivial⟩)⟩
       have hX : gAny l (gRec l d) all p g1 = ((qS l all g1 m1).1, (qK l all g1 m1).2) := by
         unfold gAny
         simp only [e2]
         cases d with
         | zero => rfl
         | succ m =>
           have hk0 : ¬ (z03 l 6 (qS l all g1 m1).2).1 = 0 := by first | (simp at hb52 <;> omega) | (simp at hc49 <;> omega)
           have hk1 : ¬ (z03 l 6 (qS l all g1 m1).2).1 = 1 := by first | (simp at hb96 <;> omega) | (simp at hc93 <;> omega)
           exact (if_neg hk0).trans (if_neg hk1)
       refine tSk ?_
       refine ⟨rfl, Sub.of ⟨rfl, rfl, rfl, rfl, rfl, rfl, rfl, trivial⟩, funext (lkq [112, 109, 2010, 2001, 2002, 2003, 115, 2019] rfl rfl ⟨(by first | rfl | (rw [hX]; rfl)), rfl, rfl, (by first | rfl | (rw [hX]; rfl)), (by first | rfl | (rw [hX]; rfl)), rfl, rfl, rfl, trivial⟩)⟩
      refine sm 4 rfl <| nL <| Tr.condF rfl ?_
      have hX : gAny l (gRec l d) all p g1 = ((qS l all g1 m1).1, (qK l all g1 m1).2) := by
        unfold gAny
        simp only [e2]
        cases d with
        | zero => rfl
        | succ m =>
          have hk0 : ¬ (z03 l 6 (qS l all g1 m1).2).1 = 0 := by first | (simp at hb52 <;> omega) | (simp at hc49 <;> omega)
          have hk1 : ¬ (z03 l 6 (qS l all g1 m1).2).1 = 1 := by first | (simp at hb96 <;> omega) | (simp at hc93 <;> omega)
          exact (if_neg hk0).trans (if_neg hk1)
      refine tSk ?_
      refine ⟨rfl, Sub.of ⟨rfl, rfl, rfl, rfl, rfl, rfl, rfl, trivial⟩, funext (lkq [112, 109, 2010, 2001, 2002, 2003, 115, 2019] rfl rfl ⟨(by first | rfl | (rw [hX]; rfl)), rfl, rfl, (by first | rfl | (rw [hX]; rfl)), (by first | rfl | (rw [hX]; rfl)), rfl, rfl, rfl, trivial⟩)⟩
     refine sm 4 rfl <| nL <| Tr.condF rfl <| tQ <| tG <| sm 3 rfl ?_
     refine wS 96 rfl (fun hb96 => ?_) fun hb96 => ?_
     ·refine sm 4 rfl <| nL ?_
      refine tC rfl (fun hc93 => ?_) fun hc93 => ?_
      ·have hk1 : (z03 l 6 (qS l all g1 m1).2).1 = 1 := by simp at hb96; omega
       obtain ⟨m, rfl⟩ : ∃ m, d = m + 1 := ⟨d - 1, by simp at hc93; omega⟩
       obtain ⟨hTb, hTl⟩ : Bd 3 0 (qK l all g1 m1).2 (qT l all g1 m1).2 /\ (qT l all g1 m1).1.length <= 2 := z3w l (qK l all g1 m1).2
       have hT1 := hTb.ps
       have hT2 := hTb.t1
       have hT3 := hTb.t2
       have hT4 := hTb.lf
       obtain ⟨hOb, hOl⟩ : Bd 3 0 (qT l all g1 m1).2 (qO l all g1 m1).2 /\ (qO l all g1 m1).1.length <= 2 := z3w l (qT l all g1 m1).2
       have hO1 := hOb.ps
       have hO2 := hOb.t1
       have hO3 := hOb.t2
       have hO4 := hOb.lf
       have hLP : Plc.small (qL l all g1 m1) := ⟨by simp [qL], hTl, hOl⟩
       have hCb : Bd (qT l all g1 m1).1.length 0 (qO l all g1 m1).2 (qE l all g1 m1).2 := zc7 l all (qT l all g1 m1).1 (qO l all g1 m1).2
       have hC1 := hCb.ps
       have hC2 := hCb.t1
       have hC3 := hCb.t2
       have hC4 := hCb.lf
       have hQb : Bd 0 (qT l all g1 m1).1.length (qE l all g1 m1).2 (qQ l all g1 m1).2 := zj2 (qT l all g1 m1).1 (qE l all g1 m1).2
       have hQ1 := hQb.ps
       have hQ2 := hQb.t1
       have hQ3 := hQb.t2
       have hQ4 := hQb.lf
       have hQl : (qQ l all g1 m1).1.length = (qT l all g1 m1).1.length := (z26 (qT l all g1 m1).1 (qE l all g1 m1).2).2
       have hInQ : InR (qQ l all g1 m1).2.types (all ++ (qQ l all g1 m1).1) := (hIn.mono oM0).app (InR.outs _ _)
       have hBb : Bd 4 0 (qQ l all g1 m1).2 (qD l m all g1 m1).2 := z73 l m (all ++ (qQ l all g1 m1).1) (qL l all g1 m1) (qQ l all g1 m1).2 hLP
       have hB1 := hBb.ps
       have hB2 := hBb.t1
       have hB3 := hBb.t2
       have hB4 := hBb.lf
       have hQl2 : ((qQ l all g1 m1).1.map eInt).length = (qQ l all g1 m1).1.length := by simp
       have hal : (all.map eInt).length = all.length := by simp
       have hQl3 := (z26 (qT l all g1 m1).1 (qE l all g1 m1).2).2
       refine tQ <| tG <| sm 1 rfl <| cE rfl (ocr (z8k l (qK l all g1 m1).2 oM0) y7z rfl (po2 rfl rfl) rfl (fun k (h : _) => .inr h) rfl rfl) <| sm 1 rfl <| cE rfl (ocr (z8k l (qT l all g1 m1).2 oM0) y7z rfl (po2 rfl rfl) rfl (fun k (h : _) => .inr h) rfl rfl) <| sm 2 rfl <| nL <| tQ <| tG <| sm 3 rfl <| cE rfl (ocr (zo2 l all (qT l all g1 m1).1 (qO l all g1 m1).2 (hIn.mono oM0) oM0 oM0) ent56 rfl (po3 rfl rfl rfl) rfl (fun k (h : _) => .inr h) rfl rfl) ?_
       refine sm 2 rfl <| cE rfl (ocr (z2n l (qT l all g1 m1).1 (qE l all g1 m1).2 oM0) y5a rfl (po2 rfl rfl) rfl (fun k (h : _) => .inr h) rfl rfl) <| cV rfl (bPu rfl rfl tZ42 tP42 rfl (fbk rfl) rfl) <| c0 (sBA rfl rfl rfl rfl rfl ((fun h => h)) tS42 (flk rfl) (lb rfl)) <| nL <| tQ <| Tr.fixNil (k := 112) rfl (fun h => h) <| tG <| sm 1 rfl <| nL <| tQ <| Tr.grow (t := 19) (k := 2019) ⟨3, 1⟩ rfl rfl rfl rfl rfl ?_
       refine tG <| sm 2 rfl ?_
       refine cE rfl (z5m rfl rfl rfl rfl rfl rfl rfl sI0 uT35 tB3 dC0 z56 z39 (by simp [maxLen]; omega) (by simp; omega)) ?_
       refine sm 1 rfl <| nL <| tQ <| tG <| sm 3 rfl ?_
       refine cE rfl (aPp rfl rfl rfl rfl (by (simp; done)) ((fun h => h)) uT35 tB3 dC0 (z56) (z39) (by simp [maxLen, z01]; omega) (by simp [z01]; omega)) ?_
       refine sm 1 rfl <| nL <| tQ ?_
       refine Tr.heap (σ' := look [(2019, some (rowI (all ++ (qQ l all g1 m1).1))), (112, some (.box [.pv (vInt (.mk 11 0 0 z0o (qE l all g1 m1).1 [] (qQ l all g1 m1).1 [] : Nd).kind), .pv (vInt (.mk 11 0 0 z0o (qE l all g1 m1).1 [] (qQ l all g1 m1).1 [] : Nd).op), .pv (vInt (.mk 11 0 0 z0o (qE l all g1 m1).1 [] (qQ l all g1 m1).1 [] : Nd).n), .pv (vStr (.mk 11 0 0 z0o (qE l all g1 m1).1 [] (qQ l all g1 m1).1 [] : Nd).name), .pv (ints (.mk 11 0 0 z0o (qE l all g1 m1).1 [] (qQ l all g1 m1).1 [] : Nd).args), .pv (ints (.mk 11 0 0 z0o (qE l all g1 m1).1 [] (qQ l all g1 m1).1 [] : Nd).outs), .pv (ints (.mk 11 0 0 z0o (qE l all g1 m1).1 [] (qQ l all g1 m1).1 [] : Nd).params), .pv (kids (.mk 11 0 0 z0o (qE l all g1 m1).1 [] (qQ l all g1 m1).1 [] : Nd).kids)])), (109, some (.row ⟨42, 8⟩ (out.map Nd.enc))), (2010, some (rowI all)), (2001, some (z3m l (qQ l all g1 m1).2)), (2002, some (rowI (qQ l all g1 m1).2.types)), (2003, some (rowI seen))]) (lkq [2019, 112, 109, 2010, 2001, 2002, 2003] rfl rfl ⟨(congrArg (fun z => some (HO.row _ z)) (by simp [qQ])), rfl, rfl, rfl, rfl, rfl, rfl, trivial⟩) ?_
       refine tG <| sm 4 rfl <| cV rfl (bPu rfl rfl tZ77 tP77 rfl (fbk rfl) rfl) <| sm 1 rfl <| cV rfl (oB rfl rfl (z2o rfl oM0)) ?_
       refine cE rfl (cRr ((ih m rfl).at2019 (all ++ (qQ l all g1 m1).1) (qL l all g1 m1) (qQ l all g1 m1).2 hInQ hLP oM0 oM0 (by rw [List.length_append]; omega)) y7x rfl rfl (sSm rfl (sSm (congrArg (fun n => IV.sl 2019 n) (by simp [qQ])) (Subs.cons (fun _ _ _ _ h => z42 (q := plcv (qL l all g1 m1)) (PSub.agg (ps := [vBool false, vBool true, .val (.slice none 0 0), ints (qT l all g1 m1).1, ints (qO l all g1 m1).1]) (And.intro (PSub.refl _) (And.intro (PSub.refl _) (And.intro PSub.nil (And.intro (PSub.refl _) (And.intro (PSub.refl _) trivial)))))) h) (sSm (congrArg (fun z => iInt z) oM0) Subs.nil)))) (po3 rfl rfl rfl) (by rfl) (fun k (h : _) => .inr h) rfl (by rfl)) ?_
       refine cE rfl (bSl rfl rfl uT40 tZ43 tS43 rfl rfl rfl rfl (fbk rfl) rfl) <| sm 1 rfl <| c0 (sBx rfl rfl rfl rfl ((fun h => h)) tS40 (rfl) (lb rfl)) <| nL <| tQ <| Tr.drop (k := 2019) <| tG <| cV rfl (lBP rfl rfl rfl uT42 rfl tS42 (lb rfl) rfl trivial) <| cE rfl (ocq (z2r (.mk 11 0 0 z0o (qE l all g1 m1).1 [] (qQ l all g1 m1).1 [(qD l m all g1 m1).1] : Nd)) zq5 rfl rfl) <| sm 1 rfl <| nL ?_
       refine tC rfl (fun hc131 => ?_) fun hc131 => ?_
       ·have hX : gAny l (gRec l (m + 1)) all p g1 = ((.mk 11 0 0 z0o (qE l all g1 m1).1 (z0j (qO l all g1 m1).1 (qD l m all g1 m1).2).1 (qQ l all g1 m1).1 [(qD l m all g1 m1).1] : Nd), (z0j (qO l all g1 m1).1 (qD l m all g1 m1).2).2) := by
          have hcl : z02 (.mk 11 0 0 z0o (qE l all g1 m1).1 [] (qQ l all g1 m1).1 [(qD l m all g1 m1).1] : Nd) = false := by simpa using hc131
          have hk0 : ¬ (z03 l 6 (qS l all g1 m1).2).1 = 0 := by omega
          unfold gAny
          simp only [gRec, e2]
          exact (if_neg hk0).trans ((if_pos hk1).trans (if_neg (fun h => Bool.noConfusion (hcl.symm.trans h))))
        refine tG <| sm 2 rfl <| cE rfl (ocr (z2n l (qO l all g1 m1).1 (qD l m all g1 m1).2 oM0) y5a rfl (po2 rfl rfl) rfl (fun k (h : _) => .inr h) rfl rfl) <| sm 1 rfl <| c0 (sBx rfl rfl rfl rfl ((fun h => h)) tS35 (rfl) (lb rfl)) <| nL ?_
        refine ⟨rfl, Sub.of ⟨rfl, rfl, rfl, rfl, rfl, rfl, rfl, trivial⟩, funext (lkq [112, 109, 2010, 2001, 2002, 2003, 115, 2019] rfl rfl ⟨(by first | rfl | (rw [hX]; rfl)), rfl, rfl, (by first | rfl | (rw [hX]; rfl)), (by first | rfl | (rw [hX]; rfl)), rfl, rfl, rfl, trivial⟩)⟩
       have hX : gAny l (gRec l (m + 1)) all p g1 = ((.mk 11 0 0 z0o (qE l all g1 m1).1 [] (qQ l all g1 m1).1 [(qD l m all g1 m1).1] : Nd), (qD l m all g1 m1).2) := by
         have hcl : z02 (.mk 11 0 0 z0o (qE l all g1 m1).1 [] (qQ l all g1 m1).1 [(qD l m all g1 m1).1] : Nd) = true := by simpa using hc131
         have hk0 : ¬ (z03 l 6 (qS l all g1 m1).2).1 = 0 := by omega
         unfold gAny
         simp only [gRec, e2]
         exact (if_neg hk0).trans ((if_pos hk1).trans (if_pos hcl))
       refine tSk ?_
       refine ⟨rfl, Sub.of ⟨rfl, rfl, rfl, rfl, rfl, rfl, rfl, trivial⟩, funext (lkq [112, 109, 2010, 2001, 2002, 2003, 115, 2019] rfl rfl ⟨(by first | rfl | (rw [hX]; rfl)), rfl, rfl, (by first | rfl | (rw [hX]; rfl)), (by first | rfl | (rw [hX]; rfl)), rfl, rfl, rfl, trivial⟩)⟩
      have hX : gAny l (gRec l d) all p g1 = ((qS l all g1 m1).1, (qK l all g1 m1).2) := by
        unfold gAny
        simp only [e2]
        cases d with
        | zero => rfl
        | succ m =>
          have hk0 : ¬ (z03 l 6 (qS l all g1 m1).2).1 = 0 := by first | (simp at hb52 <;> omega) | (simp at hc49 <;> omega)
          have hk1 : ¬ (z03 l 6 (qS l all g1 m1).2).1 = 1 := by first | (simp at hb96 <;> omega) | (simp at hc93 <;> omega)
          exact (if_neg hk0).trans (if_neg hk1)
      refine tSk ?_
      refine ⟨rfl, Sub.of ⟨rfl, rfl, rfl, rfl, rfl, rfl, rfl, trivial⟩, funext (lkq [112, 109, 2010, 2001, 2002, 2003, 115, 2019] rfl rfl ⟨(by first | rfl | (rw [hX]; rfl)), rfl, rfl, (by first | rfl | (rw [hX]; rfl)), (by first | rfl | (rw [hX]; rfl)), rfl, rfl, rfl, trivial⟩)⟩
     refine sm 4 rfl <| nL <| Tr.condF rfl ?_
     have hX : gAny l (gRec l d) all p g1 = ((qS l all g1 m1).1, (qK l all g1 m1).2) := by
       unfold gAny
       simp only [e2]
       cases d with
       | zero => rfl
       | succ m =>
         have hk0 : ¬ (z03 l 6 (qS l all g1 m1).2).1 = 0 := by first | (simp at hb52 <;> omega) | (simp at hc49 <;> omega)
         have hk1 : ¬ (z03 l 6 (qS l all g1 m1).2).1 = 1 := by first | (simp at hb96 <;> omega) | (simp at hc93 <;> omega)
         exact (if_neg hk0).trans (if_neg hk1)
     refine tSk ?_
     refine ⟨rfl, Sub.of ⟨rfl, rfl, rfl, rfl, rfl, rfl, rfl, trivial⟩, funext (lkq [112, 109, 2010, 2001, 2002, 2003, 115, 2019] rfl rfl ⟨(by first | rfl | (rw [hX]; rfl)), rfl, rfl, (by first | rfl | (rw [hX]; rfl)), (by first | rfl | (rw [hX]; rfl)), rfl, rfl, rfl, trivial⟩)⟩
    refine tQ ?_
    have hol : (out.map Nd.enc).length = out.length := by simp
    have hal : (all.map eInt).length = all.length := by simp
    have hxo : ((gAny l (gRec l d) all p g1).1.outs.map eInt).length = (gAny l (gRec l d) all p g1).1.outs.length := by simp
    have hxo2 := hXo.2
    refine tG <| sm 1 rfl <| cV rfl (lBP rfl rfl rfl uT42 rfl tS42 (lb rfl) rfl trivial) <| cE rfl (bSl rfl rfl uT43 tZ42 tS42 rfl rfl rfl rfl (fbk rfl) rfl) ?_
    refine cE rfl (aPp rfl rfl rfl rfl (by rfl) ((fun h => h)) uT43 tB42 dC0 (by (simp [z01]; done)) (zd4 _) (by simp [maxLen, z01]; omega) (by simp [z01]; omega)) ?_
    refine sm 1 rfl <| nL <| tQ <| tQ <| tG <| cV rfl (lBP rfl rfl rfl uT42 rfl tS42 (lb rfl) rfl trivial) <| cE rfl (ocq (z2r (gAny l (gRec l d) all p g1).1) zq5 rfl rfl) <| nL ?_
    refine tC rfl (fun hc141 => ?_) fun hc141 => ?_
    ·refine tQ ?_
     have hres : z38 l d seen p g = (out ++ [(gAny l (gRec l d) all p g1).1], (gAny l (gRec l d) all p g1).2) := by rw [<- hI, z3l, if_neg hleft, if_pos hc141]
     refine tG <| sm 2 rfl <| nL ?_
     refine Tr.freeze (t := 8) (k := 109) rfl rfl (by simp [z01]) ?_
     refine tRt ?_
     rw [hres]
     refine rOk rfl (congrArg (fun z => IV.pv (.seq z)) (by simp [z01, Nd.enc_eq, Nd.cells_eta])) (po3 rfl rfl rfl)
    refine tSk <| tG <| sm 3 rfl ?_
    refine cE rfl (aPp rfl rfl rfl rfl (by rfl) ((fun h => h)) uT35 tB3 dC0 (z56) (z39) (by simp [maxLen, z01]; omega) (by simp [z01]; omega)) ?_
    refine sm 1 rfl <| nL <| Tr.drop (k := 112) <| tG <| sm 1 rfl <| cV rfl (oB rfl rfl (z2o rfl oM0)) <| sm 1 rfl <| nL ?_
    refine ⟨_, _, ?_, Sub.of (fr' := [(11, iInt ((n1 : Nat) : Int)), (10, .sl 2010 ((all ++ (gAny l (gRec l d) all p g1).1.outs).map eInt).length), (9, .sl 109 ((out ++ [(gAny l (gRec l d) all p g1).1]).map Nd.enc).length), (6, .pv (.ept [vBool p.If, vBool p.Loop, ints p.Yield, ints p.Next, ints p.Left] 0)), (0, .ptr 2001 0), (3, iInt (d : Int))]) ⟨congrArg (fun z => some (iInt z)) oM0, congrArg (fun z => some (IV.sl _ z)) sI0, congrArg (fun z => some (IV.sl _ z)) (by simp [z01]), rfl, rfl, rfl, trivial⟩, n1, (out ++ [(gAny l (gRec l d) all p g1).1]), (all ++ (gAny l (gRec l d) all p g1).1.outs), (gAny l (gRec l d) all p g1).2, ?_, ?_, ?_, ?_, ?_, ?_, rfl, (funext (lkq [112, 109, 2010, 2001, 2002, 2003] rfl rfl ⟨rfl, (by first | rfl | exact congrArg (fun z => some (HO.row _ z)) (by simp [z01, Nd.enc_eq, Nd.cells_eta]) | exact congrArg (fun z => some (HO.row _ z)) sI0), (by first | rfl | exact congrArg (fun z => some (HO.row _ z)) (by simp [z01, Nd.enc_eq, Nd.cells_eta]) | exact congrArg (fun z => some (HO.row _ z)) sI0), rfl, rfl, rfl, trivial⟩)), rfl⟩
    ·omega
    ·rw [<- hI, z3l, if_neg hleft, if_neg (by rw [hc141]; decide)]
    ·exact (hIn.mono hXb.t1).app hXo.1
    ·have := hXb.ps; omega
    ·have := hXb.t2; omega
    ·have := hXo.2; rw [List.length_append]; have := hXl; omega
    simp; omega
   refine tEx <| tQ ?_
   have hres : z38 l d seen p g = (out ++ [(gEnd l all p g1).1], (gEnd l all p g1).2) := by
     rw [<- hI]
     (have h0 : g1.left = 0 := by simpa using hc33
      cases n with
      | zero => rw [z3l]
      | succ n => rw [z3l, if_pos h0])
   have hol : (out.map Nd.enc).length = out.length := by simp
   refine tG <| sm 3 rfl <| cV rfl (lEA rfl rfl Tryz.underlying77 rfl tS77 (lb rfl)) <| cE rfl (ocr (y4r l all p g1 hIn oM0 oM0 hp) ent58 rfl (po3 rfl rfl rfl) rfl (fun k (h : _) => .inr h) rfl rfl) <| cE rfl (bSl rfl rfl uT43 tZ42 tS42 rfl rfl rfl rfl (fbk rfl) rfl) ?_
   refine cE rfl (aPp rfl rfl rfl rfl (by rfl) ((fun h => h)) uT43 tB42 dC0 (by (simp [z01]; done)) (zd4 _) (by simp [maxLen, z01]; omega) (by simp [z01]; omega)) ?_
   refine sm 1 rfl <| nL ?_
   refine Tr.freeze (t := 8) (k := 109) rfl rfl (by simp [z01]) ?_
   refine tRt ?_
   rw [hres]
   refine rOk rfl (congrArg (fun z => IV.pv (.seq z)) (by simp [z01, Nd.enc_eq, Nd.cells_eta])) (po3 rfl rfl rfl)
  refine sm 6 rfl <| nL <| Tr.condF rfl <| tEx <| tQ ?_
  have hres : z38 l d seen p g = (out ++ [(gEnd l all p g1).1], (gEnd l all p g1).2) := by
    rw [<- hI]
    (have h0 : n = 0 := by simpa using hb27
     rw [h0, z3l]
     done)
  have hol : (out.map Nd.enc).length = out.length := by simp
  refine tG <| sm 3 rfl <| cV rfl (lEA rfl rfl Tryz.underlying77 rfl tS77 (lb rfl)) <| cE rfl (ocr (y4r l all p g1 hIn oM0 oM0 hp) ent58 rfl (po3 rfl rfl rfl) rfl (fun k (h : _) => .inr h) rfl rfl) <| cE rfl (bSl rfl rfl uT43 tZ42 tS42 rfl rfl rfl rfl (fbk rfl) rfl) ?_
  refine cE rfl (aPp rfl rfl rfl rfl (by rfl) ((fun h => h)) uT43 tB42 dC0 (by (simp [z01]; done)) (zd4 _) (by simp [maxLen, z01]; omega) (by simp [z01]; omega)) ?_
  refine sm 1 rfl <| nL ?_
  refine Tr.freeze (t := 8) (k := 109) rfl rfl (by simp [z01]) ?_
  refine tRt ?_
  rw [hres]
  refine rOk rfl (congrArg (fun z => IV.pv (.seq z)) (by simp [z01, Nd.enc_eq, Nd.cells_eta])) (po3 rfl rfl rfl)
theorem y4s (l : List UInt8) : ∀ d, d <= 100 -> LSCg l d
  | 0, h => fun seen p g h1 h2 h3 h4 h5 => y1c l 0 h (fun m e => by omega) seen p g h1 h2 h3 h4 h5
  | d + 1, h => fun seen p g h1 h2 h3 h4 h5 => y1c l (d + 1) h (fun m e => by obtain rfl : d = m := oM0; exact y4s l d oM0) seen p g h1 h2 h3 h4 h5
theorem y9m (l : List UInt8) (seen : List Int) (p : Plc) (g : Gn) (h1 : InR g.types seen) (h2 : p.small) (h3 : g.pos + 60 * g.left <= 900000) (h4 : g.types.length + 10 * g.left <= 900000) (h5 : seen.length + 10 * g.left <= 900000) :
    SC Tryz.prog 36 [.ptr 2001 0, .sl 2005 (seen.map eInt).length, .pv (plcv p), iInt 3] (gHr 2005 l g seen) (fun _ => False) (.pv (z0f (z38 l 3 seen p g).1)) (gHr 2005 l (z38 l 3 seen p g).2 seen) := SC.sw 2003 2005 (y4s l 3 oM0 seen p g h1 h2 h3 h4 h5)
def genF (l : List UInt8) (g : Gn) (ty : PV) : HO := .box [.pv (bts l), iInt (g.pos : Int), .pv ty, iInt (g.left : Int)]
theorem plc0_sub : PSub (.agg [vBool false, vBool false, .val (.slice none 0 0), .val (.slice none 0 0), .val (.slice none 0 0)]) (plcv plc0) := z1b [vBool false, vBool false, .val (.slice none 0 0), .val (.slice none 0 0), .val (.slice none 0 0)]
theorem z4o (l : List UInt8) (name : ByteArray) (params : List Int) (hpl : params.length <= 10) (g : Gn) (hb : g.pos <= 500000) (ty : PV) : SC Tryz.prog 21 [.ptr 2001 0, iStr name, .pv (ints params)] [(2001, genF l g ty)] (fun _ => False) (.pv (.agg (z24 l name params g).1.enc)) [(2001, genF l (z24 l name params g).2 (ints (z24 l name params g).2.types))] := by
  refine SC.ofC Tryz.func21 rfl (lb rfl) rfl fun F ρ w => ?_
  refine Tr.lenOf (t := 2) rfl (fun hl => ?_)
  simp only [List.length_map] at hl
  have hS := (z26 params { g with types := [], left := 30 }).1
  have hSl := (z26 params { g with types := [], left := 30 }).2
  have hSin := InR.outs params { g with types := [], left := 30 }
  have hst : (z0j params { g with types := [], left := 30 }).2.types.length = params.length := by rw [hS]; simp
  have hsp : (z0j params { g with types := [], left := 30 }).2.pos = g.pos /\ (z0j params { g with types := [], left := 30 }).2.left = 30 := by rw [hS]; exact ⟨rfl, rfl⟩
  have hbt : (z06 2 (z06 1 (z0j params { g with types := [], left := 30 }).2).2).2.types.length = params.length + 2 := by simp [z06, hst]
  have hbp : (z06 2 (z06 1 (z0j params { g with types := [], left := 30 }).2).2).2.pos = g.pos /\ (z06 2 (z06 1 (z0j params { g with types := [], left := 30 }).2).2).2.left = 30 := hsp
  have hin : InR (z06 2 (z06 1 (z0j params { g with types := [], left := 30 }).2).2).2.types ((z0j params { g with types := [], left := 30 }).1 ++ [(z06 1 (z0j params { g with types := [], left := 30 }).2).1, (z06 2 (z06 1 (z0j params { g with types := [], left := 30 }).2).2).1]) := by
    refine (hSin.mono oM0).app fun s hs => ?_
    simp only [List.mem_cons, List.not_mem_nil, or_false] at hs
    rcases hs with rfl | rfl
    ·rw [hbt]; simp only [z06, hst]; omega
    rw [hbt]; simp only [z06, List.length_append, List.length_cons, List.length_nil, hst]; omega
  have hsl2 : ((z0j params { g with types := [], left := 30 }).1.map eInt).length = (z0j params { g with types := [], left := 30 }).1.length := by simp
  refine tQ <| tG <| cE rfl (aLc (k := 106) rfl tZ51 rfl rfl rfl rfl) <| nL <| tQ <| tG <| sm 2 rfl <| cV rfl (nCk rfl rfl rfl) <| sm 1 rfl <| c0 (sBx rfl rfl rfl rfl ((fun h => h)) tS35 (rfl) (lb rfl)) <| cV rfl (nCk rfl rfl rfl) <| sm 1 rfl ?_
  refine c0 (sBx rfl rfl rfl rfl ((fun h => h)) tS3 (rfl) (lb rfl)) <| nL <| tQ <| Tr.growCell (k := 2002) (k2 := 2001) (j := 2) ⟨3, 1⟩ rfl rfl rfl rfl rfl rfl <| Tr.heap (σ' := look [(106, some (.box [.pv (vStr ⟨#[]⟩), iInt 0, iInt 0, .pv (.val (.slice none 0 0)), .pv (.val (.slice none 0 0))])), (2001, some (z3m l { g with types := [], left := 30 })), (2002, some (rowI []))]) (lkq [106, 2001, 2002] rfl rfl ⟨rfl, rfl, rfl, trivial⟩) <| tG <| sm 2 rfl <| cE rfl (ok_calln (k0 := 2005) (y9n l params { g with types := [], left := 30 } (by show 0 + params.length <= 1000000; omega)) y5a rfl rfl (sRf _ _) (po2 rfl rfl) rfl rfl rfl rfl rfl (fun k (h : _) => .inr h) rfl (by rfl)) <| sm 1 rfl <| nL <| tQ <| tG ?_
  refine sm 1 rfl <| cE rfl (ocr (zb6 l 1 (z0j params { g with types := [], left := 30 }).2 oM0) ent35 rfl (po2 rfl rfl) rfl (fun k (h : _) => .inr h) rfl rfl) <| sm 1 rfl ?_
  refine cE rfl (ocr (zb6 l 2 (z06 1 (z0j params { g with types := [], left := 30 }).2).2 (by simp only [z06, List.length_append, List.length_cons, List.length_nil]; omega)) ent35 rfl (po2 rfl rfl) rfl (fun k (h : _) => .inr h) rfl rfl) ?_
  refine sm 2 rfl <| nL <| tQ <| tG <| sm 1 rfl <| cE rfl (bSl rfl rfl uT35 tZ3 tS3 rfl rfl rfl rfl (fbk rfl) rfl) <| cV rfl (bPu rfl rfl tZ42 tP42 rfl (fbk rfl) rfl) <| WL.sub (Sub.cons2 (fun _ _ _ _ h => z42 (z1b _) h) Sub.rfl') <| sm 1 rfl <| cE rfl (bSl rfl rfl uT35 tZ3 tS3 rfl rfl rfl rfl (fbk rfl) rfl) <| cV rfl (bPu rfl rfl tZ42 tP42 rfl (fbk rfl) rfl) <| WL.sub (Sub.cons2 (fun _ _ _ _ h => z42 (z1b _) h) Sub.rfl') ?_
  refine cE rfl (z7r (k := 110) rfl rfl uT43 tZ42 tS42 rfl rfl rfl rfl (fbk rfl) rfl rfl rfl rfl rfl) <| sm 1 rfl <| nL <| tQ <| tG <| sm 3 rfl <| cE rfl (bSl rfl rfl uT35 tZ3 tS3 rfl rfl rfl rfl (fbk rfl) rfl) ?_
  refine cE rfl (aPp rfl rfl rfl rfl (by rfl) sI0 uT35 tB3 dC0 (by simp [z01]) (z39 (l := [(z06 1 (z0j params { g with types := [], left := 30 }).2).1, (z06 2 (z06 1 (z0j params { g with types := [], left := 30 }).2).2).1])) (by simp [maxLen, z01]; omega) (by simp [z01]; omega)) ?_
  refine sm 1 rfl <| nL <| tQ ?_
  refine Tr.heap (σ' := look [(106, some (.box [.pv (vStr ⟨#[]⟩), iInt 0, iInt 0, .pv (.val (.slice none 0 0)), .pv (.val (.slice none 0 0))])), (110, some (.row ⟨42, 8⟩ ((zk9 (z06 1 (z0j params { g with types := [], left := 30 }).2).1 (z06 2 (z06 1 (z0j params { g with types := [], left := 30 }).2).2).1).map Nd.enc))), (2005, some (rowI ((z0j params { g with types := [], left := 30 }).1 ++ [(z06 1 (z0j params { g with types := [], left := 30 }).2).1, (z06 2 (z06 1 (z0j params { g with types := [], left := 30 }).2).2).1]))), (2001, some (z3m l (z06 2 (z06 1 (z0j params { g with types := [], left := 30 }).2).2).2)), (2002, some (rowI (z06 2 (z06 1 (z0j params { g with types := [], left := 30 }).2).2).2.types))]) (lkq [106, 110, 2005, 2001, 2002] rfl rfl ⟨rfl, rfl, (congrArg (fun z => some (HO.row _ z)) (by simp [z01, eInt])), rfl, rfl, trivial⟩) ?_
  refine tG <| sm 3 rfl <| cV rfl (bPu rfl rfl tZ77 tP77 rfl (fbk rfl) rfl) ?_
  have hli := z73 l 3 ((z0j params { g with types := [], left := 30 }).1 ++ [(z06 1 (z0j params { g with types := [], left := 30 }).2).1, (z06 2 (z06 1 (z0j params { g with types := [], left := 30 }).2).2).1]) plc0 (z06 2 (z06 1 (z0j params { g with types := [], left := 30 }).2).2).2 ⟨by simp [plc0], by simp [plc0], by simp [plc0]⟩
  have hrl := zl0 l 3 ((z0j params { g with types := [], left := 30 }).1 ++ [(z06 1 (z0j params { g with types := [], left := 30 }).2).1, (z06 2 (z06 1 (z0j params { g with types := [], left := 30 }).2).2).1]) plc0 (z06 2 (z06 1 (z0j params { g with types := [], left := 30 }).2).2).2
  refine cE rfl (cRr (y9m l ((z0j params { g with types := [], left := 30 }).1 ++ [(z06 1 (z0j params { g with types := [], left := 30 }).2).1, (z06 2 (z06 1 (z0j params { g with types := [], left := 30 }).2).2).1]) plc0 (z06 2 (z06 1 (z0j params { g with types := [], left := 30 }).2).2).2 hin ⟨by simp [plc0], by simp [plc0], by simp [plc0]⟩ oM0 oM0 (by simp; omega)) y7x rfl rfl (sSm rfl (sSm (congrArg (fun n => IV.sl 2005 n) (by simp [z5l])) (Subs.cons (fun _ _ _ _ h => z42 plc0_sub h) (sSm rfl Subs.nil)))) (po3 rfl rfl rfl) (by rfl) (fun k (h : _) => .inr h) rfl (by rfl)) ?_
  refine cE rfl (aPp rfl rfl rfl rfl (by rfl) ((fun h => h)) uT43 tB42 dC0 (y8h) (y8g) (by simp [maxLen, z01]; omega) (by simp [z01]; omega)) ?_
  refine sm 1 rfl <| nL <| tQ ?_
  refine Tr.freeze (t := 10) (k := 110) rfl rfl (by simp [z01, zk9]; omega) ?_
  refine Tr.freezeCell (k := 2002) (k2 := 2001) (j := 2) (n := ((z38 l 3 ((z0j params { g with types := [], left := 30 }).1 ++ [(z06 1 (z0j params { g with types := [], left := 30 }).2).1, (z06 2 (z06 1 (z0j params { g with types := [], left := 30 }).2).2).1]) plc0 (z06 2 (z06 1 (z0j params { g with types := [], left := 30 }).2).2).2).2.types.map eInt).length) rfl rfl rfl rfl dC0 <| tG <| sm 2 rfl <| cV rfl (oSm uT35 rfl) <| sm 1 rfl <| cV rfl (nCk rfl rfl rfl) <| sm 3 rfl <| cV rfl (bPu rfl rfl tZ51 tP51 rfl (fbk rfl) rfl) <| c0 (sBA rfl rfl rfl rfl rfl ((fun h => h)) tS51 (flk rfl) (lb rfl)) <| nL <| tRt <| rCk (.inl rfl) (fun _ _ ho => lBP ho rfl rfl Tryz.underlying51 rfl tS51 (lb rfl) rfl trivial) ?_ (po1 rfl)
  rfl
theorem sc_made (l : List UInt8) : SC Tryz.prog 10 [.pv (bts l)] [] (fun _ => False) (.pv (made l).enc) [] := by
  refine SC.ofC Tryz.func10 rfl (lb rfl) rfl fun F ρ w => ?_
  have hb1 : (z24 l z0e [] ⟨0, [], 0⟩).2.pos <= 2000 := y87 l z0e [] ⟨0, [], 0⟩ sI0 sI0
  refine tQ <| tG <| cE rfl (aLc (k := 102) rfl tZ25 rfl rfl rfl rfl) <| nL <| tQ <| tG <| sm 1 rfl <| cV rfl (bPu rfl rfl tZ57 tP57 rfl (fbk rfl) rfl) <| cE rfl (ze0 (k := 2001) rfl rfl rfl rfl rfl rfl) <| sm 1 rfl <| nL <| tQ ?_
  refine tG <| cV rfl (bPu rfl rfl tZ49 tP49 rfl (fbk rfl) rfl) <| cE rfl (bSl rfl rfl uT22 tZ49 tS49 rfl rfl rfl rfl (fbk rfl) rfl) <| cV rfl (bPu rfl rfl tZ25 tP25 rfl (fbk rfl) rfl) <| cE rfl (aLc (k := 104) rfl tZ25 rfl rfl rfl rfl) <| c0 (sBA rfl rfl rfl rfl rfl ((fun h => h)) tS25 (flk rfl) (lb rfl)) <| nL <| tQ <| Tr.growCell (k := 1040) (k2 := 104) (j := 1) ⟨51, 5⟩ rfl rfl rfl rfl rfl rfl <| tDr z1t (fun k => k ∈ ([] : List Nat)) <| wR 6 [0, 2] kR0 h30 <| smR 2 rfl ?_
  refine nR <| WA.all (rs := [1, 3]) kR0 sI0 ?_
  refine fmc ⟨?_, fmc ⟨?_, by simp⟩⟩
  ·refine wI rfl rfl nf nw (fun _ _ => OkV.ok (R1 := fun _ => True) ((z0v rfl rfl rfl uT23 rfl rfl trivial))) <| wO 3 kR0 <| wI rfl rfl nf (nAp rfl) (fun _ _ => cRr (z4o l z0e [] sI0 ⟨0, [], 0⟩ sI0 (.val (.slice none 0 0))) zk2 rfl rfl (sSm rfl (sSm rfl (Subs.cons (fun _ _ _ _ h => z42 PSub.nil h) Subs.nil))) (po1 rfl) (by rfl) (fun k (h : _) => absurd h List.not_mem_nil) rfl (by rfl)) <| wO 4 kR0 <| wI rfl rfl nf nw (fun _ _ => bSl rfl rfl uT23 tZ51 tS51 rfl rfl rfl rfl (fbk rfl) rfl) <| wO 5 kR0 ?_
   refine wI rfl rfl nf (nOl rfl) (fun _ _ => aPp rfl rfl rfl rfl (by rfl) sI0 uT23 tB51 dC0 (fun el hel => by rw [List.mem_singleton.1 hel]; rfl) (z1v _ _ _ _ _) (by simp [maxLen, z01]) (by simp [z01])) ?_
   refine wR 1 [6] kR0 h30 <| smR 1 rfl <| nR <| wO 7 kR0 <| wI rfl rfl nf (nOl rfl) (fun _ _ => sBx rfl rfl rfl rfl sI0 tS23 (⟨_, _, rfl, rfl⟩) (lb rfl)) <| wDn kR0 <| tQ <| tDr z1t (fun k => k ∈ ([] : List Nat)) <| wR 7 [0, 2] kR0 h30 <| smR 2 rfl <| nR <| WA.all (rs := [1, 3]) kR0 sI0 ?_
   refine fmc ⟨?_, fmc ⟨?_, by simp⟩⟩
   ·refine wI rfl rfl nf nw (fun _ _ => OkV.ok (R1 := fun _ => True) ((z0v rfl rfl rfl uT23 rfl rfl trivial))) <| wO 3 kR0 <| wI rfl rfl nf nw (fun _ _ => bSl rfl rfl uT35 tZ3 tS3 rfl rfl rfl rfl (fbk rfl) rfl) <| wO 4 kR0 <| wI rfl rfl nf (nAp rfl) (fun _ _ => ocr (z4o l z37 [1, 2] sI0 (z24 l z0e [] ⟨0, [], 0⟩).2 oM0 (ints (z24 l z0e [] ⟨0, [], 0⟩).2.types)) zk2 rfl (po1 rfl) rfl nl rfl rfl) <| wO 5 kR0 <| wI rfl rfl nf nw (fun _ _ => bSl rfl rfl uT23 tZ51 tS51 rfl rfl rfl rfl (fbk rfl) rfl) <| wO 6 kR0 ?_
    refine wI rfl rfl nf (nOl rfl) (fun _ _ => aPp rfl rfl rfl rfl (by rfl) sI0 uT23 tB51 dC0 (fun el hel => by rw [List.mem_singleton.1 hel]; rfl) (z1v _ _ _ _ _) (by simp [maxLen, z01]) (by simp [z01])) ?_
    refine wR 1 [7] kR0 h30 <| smR 1 rfl <| nR <| wO 8 kR0 <| wI rfl rfl nf (nOl rfl) (fun _ _ => sBx rfl rfl rfl rfl sI0 tS23 (⟨_, _, rfl, rfl⟩) (lb rfl)) <| wDn kR0 <| tQ <| Tr.freezeCell (k := 1040) (k2 := 104) (j := 1) (n := 2) rfl rfl rfl rfl dC0 <| tG <| cV rfl (lBP rfl rfl rfl uT25 rfl tS25 (lb rfl) rfl trivial) <| c0 (sBA rfl rfl rfl rfl rfl ((fun h => h)) tS25 (flk rfl) (lb rfl)) <| nL ?_
    refine tRt <| rCk (.inl rfl) (fun _ _ ho => lBP ho rfl rfl uT25 rfl tS25 (lb rfl) rfl trivial) rfl nPo
   refine wI rfl rfl nf nw (fun _ _ => bSl rfl rfl uT35 tZ3 tS3 rfl rfl rfl rfl (fbk rfl) rfl) <| WA.all (rs := [1, 4]) kR0 sI0 ?_
   refine fmc ⟨?_, fmc ⟨?_, by simp⟩⟩
   ·refine wI rfl rfl nf nw (fun _ _ => OkV.ok (R1 := fun _ => True) ((z0v rfl rfl rfl uT23 rfl rfl trivial))) <| wO 4 kR0 <| wI rfl rfl nf (nAp rfl) (fun _ _ => ocr (z4o l z37 [1, 2] sI0 (z24 l z0e [] ⟨0, [], 0⟩).2 oM0 (ints (z24 l z0e [] ⟨0, [], 0⟩).2.types)) zk2 rfl (po1 rfl) rfl nl rfl rfl) <| wO 5 kR0 <| wI rfl rfl nf nw (fun _ _ => bSl rfl rfl uT23 tZ51 tS51 rfl rfl rfl rfl (fbk rfl) rfl) <| wO 6 kR0 ?_
    refine wI rfl rfl nf (nOl rfl) (fun _ _ => aPp rfl rfl rfl rfl (by rfl) sI0 uT23 tB51 dC0 (fun el hel => by rw [List.mem_singleton.1 hel]; rfl) (z1v _ _ _ _ _) (by simp [maxLen, z01]) (by simp [z01])) ?_
    refine wR 1 [7] kR0 h30 <| smR 1 rfl <| nR <| wO 8 kR0 <| wI rfl rfl nf (nOl rfl) (fun _ _ => sBx rfl rfl rfl rfl sI0 tS23 (⟨_, _, rfl, rfl⟩) (lb rfl)) <| wDn kR0 <| tQ <| Tr.freezeCell (k := 1040) (k2 := 104) (j := 1) (n := 2) rfl rfl rfl rfl dC0 <| tG <| cV rfl (lBP rfl rfl rfl uT25 rfl tS25 (lb rfl) rfl trivial) <| c0 (sBA rfl rfl rfl rfl rfl ((fun h => h)) tS25 (flk rfl) (lb rfl)) <| nL ?_
    refine tRt <| rCk (.inl rfl) (fun _ _ ho => lBP ho rfl rfl uT25 rfl tS25 (lb rfl) rfl trivial) rfl nPo
   refine wI rfl rfl nf (nAp rfl) (fun _ _ => ocr (z4o l z37 [1, 2] sI0 (z24 l z0e [] ⟨0, [], 0⟩).2 oM0 (ints (z24 l z0e [] ⟨0, [], 0⟩).2.types)) zk2 rfl (po1 rfl) rfl nl rfl rfl) <| WA.all (rs := [1, 5]) kR0 sI0 ?_
   refine fmc ⟨?_, fmc ⟨?_, by simp⟩⟩
   ·refine wI rfl rfl nf nw (fun _ _ => OkV.ok (R1 := fun _ => True) ((z0v rfl rfl rfl uT23 rfl rfl trivial))) <| wO 5 kR0 <| wI rfl rfl nf nw (fun _ _ => bSl rfl rfl uT23 tZ51 tS51 rfl rfl rfl rfl (fbk rfl) rfl) <| wO 6 kR0 ?_
    refine wI rfl rfl nf (nOl rfl) (fun _ _ => aPp rfl rfl rfl rfl (by rfl) sI0 uT23 tB51 dC0 (fun el hel => by rw [List.mem_singleton.1 hel]; rfl) (z1v _ _ _ _ _) (by simp [maxLen, z01]) (by simp [z01])) ?_
    refine wR 1 [7] kR0 h30 <| smR 1 rfl <| nR <| wO 8 kR0 <| wI rfl rfl nf (nOl rfl) (fun _ _ => sBx rfl rfl rfl rfl sI0 tS23 (⟨_, _, rfl, rfl⟩) (lb rfl)) <| wDn kR0 <| tQ <| Tr.freezeCell (k := 1040) (k2 := 104) (j := 1) (n := 2) rfl rfl rfl rfl dC0 <| tG <| cV rfl (lBP rfl rfl rfl uT25 rfl tS25 (lb rfl) rfl trivial) <| c0 (sBA rfl rfl rfl rfl rfl ((fun h => h)) tS25 (flk rfl) (lb rfl)) <| nL ?_
    refine tRt <| rCk (.inl rfl) (fun _ _ ho => lBP ho rfl rfl uT25 rfl tS25 (lb rfl) rfl trivial) rfl nPo
   refine wI rfl rfl nf nw (fun _ _ => bSl rfl rfl uT23 tZ51 tS51 rfl rfl rfl rfl (fbk rfl) rfl) <| wO 1 kR0 <| wI rfl rfl nf nw (fun _ _ => OkV.ok (R1 := fun _ => True) ((z0v rfl rfl rfl uT23 rfl rfl trivial))) <| wO 6 kR0 ?_
   refine wI rfl rfl nf (nOl rfl) (fun _ _ => aPp rfl rfl rfl rfl (by rfl) sI0 uT23 tB51 dC0 (fun el hel => by rw [List.mem_singleton.1 hel]; rfl) (z1v _ _ _ _ _) (by simp [maxLen, z01]) (by simp [z01])) ?_
   refine wR 1 [7] kR0 h30 <| smR 1 rfl <| nR <| wO 8 kR0 <| wI rfl rfl nf (nOl rfl) (fun _ _ => sBx rfl rfl rfl rfl sI0 tS23 (⟨_, _, rfl, rfl⟩) (lb rfl)) <| wDn kR0 <| tQ <| Tr.freezeCell (k := 1040) (k2 := 104) (j := 1) (n := 2) rfl rfl rfl rfl dC0 <| tG <| cV rfl (lBP rfl rfl rfl uT25 rfl tS25 (lb rfl) rfl trivial) <| c0 (sBA rfl rfl rfl rfl rfl ((fun h => h)) tS25 (flk rfl) (lb rfl)) <| nL ?_
   refine tRt <| rCk (.inl rfl) (fun _ _ ho => lBP ho rfl rfl uT25 rfl tS25 (lb rfl) rfl trivial) rfl nPo
  refine wI rfl rfl nf (nAp rfl) (fun _ _ => cRr (z4o l z0e [] sI0 ⟨0, [], 0⟩ sI0 (.val (.slice none 0 0))) zk2 rfl rfl (sSm rfl (sSm rfl (Subs.cons (fun _ _ _ _ h => z42 PSub.nil h) Subs.nil))) (po1 rfl) (by rfl) (fun k (h : _) => absurd h List.not_mem_nil) rfl (by rfl)) <| WA.all (rs := [1, 4]) kR0 sI0 ?_
  refine fmc ⟨?_, fmc ⟨?_, by simp⟩⟩
  ·refine wI rfl rfl nf nw (fun _ _ => OkV.ok (R1 := fun _ => True) ((z0v rfl rfl rfl uT23 rfl rfl trivial))) <| wO 4 kR0 <| wI rfl rfl nf nw (fun _ _ => bSl rfl rfl uT23 tZ51 tS51 rfl rfl rfl rfl (fbk rfl) rfl) <| wO 5 kR0 ?_
   refine wI rfl rfl nf (nOl rfl) (fun _ _ => aPp rfl rfl rfl rfl (by rfl) sI0 uT23 tB51 dC0 (fun el hel => by rw [List.mem_singleton.1 hel]; rfl) (z1v _ _ _ _ _) (by simp [maxLen, z01]) (by simp [z01])) ?_
   refine wR 1 [6] kR0 h30 <| smR 1 rfl <| nR <| wO 7 kR0 <| wI rfl rfl nf (nOl rfl) (fun _ _ => sBx rfl rfl rfl rfl sI0 tS23 (⟨_, _, rfl, rfl⟩) (lb rfl)) <| wDn kR0 <| tQ <| tDr z1t (fun k => k ∈ ([] : List Nat)) <| wR 7 [0, 2] kR0 h30 <| smR 2 rfl <| nR <| WA.all (rs := [1, 3]) kR0 sI0 ?_
   refine fmc ⟨?_, fmc ⟨?_, by simp⟩⟩
   ·refine wI rfl rfl nf nw (fun _ _ => OkV.ok (R1 := fun _ => True) ((z0v rfl rfl rfl uT23 rfl rfl trivial))) <| wO 3 kR0 <| wI rfl rfl nf nw (fun _ _ => bSl rfl rfl uT35 tZ3 tS3 rfl rfl rfl rfl (fbk rfl) rfl) <| wO 4 kR0 <| wI rfl rfl nf (nAp rfl) (fun _ _ => ocr (z4o l z37 [1, 2] sI0 (z24 l z0e [] ⟨0, [], 0⟩).2 oM0 (ints (z24 l z0e [] ⟨0, [], 0⟩).2.types)) zk2 rfl (po1 rfl) rfl nl rfl rfl) <| wO 5 kR0 <| wI rfl rfl nf nw (fun _ _ => bSl rfl rfl uT23 tZ51 tS51 rfl rfl rfl rfl (fbk rfl) rfl) <| wO 6 kR0 ?_
    refine wI rfl rfl nf (nOl rfl) (fun _ _ => aPp rfl rfl rfl rfl (by rfl) sI0 uT23 tB51 dC0 (fun el hel => by rw [List.mem_singleton.1 hel]; rfl) (z1v _ _ _ _ _) (by simp [maxLen, z01]) (by simp [z01])) ?_
    refine wR 1 [7] kR0 h30 <| smR 1 rfl <| nR <| wO 8 kR0 <| wI rfl rfl nf (nOl rfl) (fun _ _ => sBx rfl rfl rfl rfl sI0 tS23 (⟨_, _, rfl, rfl⟩) (lb rfl)) <| wDn kR0 <| tQ <| Tr.freezeCell (k := 1040) (k2 := 104) (j := 1) (n := 2) rfl rfl rfl rfl dC0 <| tG <| cV rfl (lBP rfl rfl rfl uT25 rfl tS25 (lb rfl) rfl trivial) <| c0 (sBA rfl rfl rfl rfl rfl ((fun h => h)) tS25 (flk rfl) (lb rfl)) <| nL ?_
    refine tRt <| rCk (.inl rfl) (fun _ _ ho => lBP ho rfl rfl uT25 rfl tS25 (lb rfl) rfl trivial) rfl nPo
   refine wI rfl rfl nf nw (fun _ _ => bSl rfl rfl uT35 tZ3 tS3 rfl rfl rfl rfl (fbk rfl) rfl) <| WA.all (rs := [1, 4]) kR0 sI0 ?_
   refine fmc ⟨?_, fmc ⟨?_, by simp⟩⟩
   ·refine wI rfl rfl nf nw (fun _ _ => OkV.ok (R1 := fun _ => True) ((z0v rfl rfl rfl uT23 rfl rfl trivial))) <| wO 4 kR0 <| wI rfl rfl nf (nAp rfl) (fun _ _ => ocr (z4o l z37 [1, 2] sI0 (z24 l z0e [] ⟨0, [], 0⟩).2 oM0 (ints (z24 l z0e [] ⟨0, [], 0⟩).2.types)) zk2 rfl (po1 rfl) rfl nl rfl rfl) <| wO 5 kR0 <| wI rfl rfl nf nw (fun _ _ => bSl rfl rfl uT23 tZ51 tS51 rfl rfl rfl rfl (fbk rfl) rfl) <| wO 6 kR0 ?_
    refine wI rfl rfl nf (nOl rfl) (fun _ _ => aPp rfl rfl rfl rfl (by rfl) sI0 uT23 tB51 dC0 (fun el hel => by rw [List.mem_singleton.1 hel]; rfl) (z1v _ _ _ _ _) (by simp [maxLen, z01]) (by simp [z01])) ?_
    refine wR 1 [7] kR0 h30 <| smR 1 rfl <| nR <| wO 8 kR0 <| wI rfl rfl nf (nOl rfl) (fun _ _ => sBx rfl rfl rfl rfl sI0 tS23 (⟨_, _, rfl, rfl⟩) (lb rfl)) <| wDn kR0 <| tQ <| Tr.freezeCell (k := 1040) (k2 := 104) (j := 1) (n := 2) rfl rfl rfl rfl dC0 <| tG <| cV rfl (lBP rfl rfl rfl uT25 rfl tS25 (lb rfl) rfl trivial) <| c0 (sBA rfl rfl rfl rfl rfl ((fun h => h)) tS25 (flk rfl) (lb rfl)) <| nL ?_
    refine tRt <| rCk (.inl rfl) (fun _ _ ho => lBP ho rfl rfl uT25 rfl tS25 (lb rfl) rfl trivial) rfl nPo
   refine wI rfl rfl nf (nAp rfl) (fun _ _ => ocr (z4o l z37 [1, 2] sI0 (z24 l z0e [] ⟨0, [], 0⟩).2 oM0 (ints (z24 l z0e [] ⟨0, [], 0⟩).2.types)) zk2 rfl (po1 rfl) rfl nl rfl rfl) <| WA.all (rs := [1, 5]) kR0 sI0 ?_
   refine fmc ⟨?_, fmc ⟨?_, by simp⟩⟩
   ·refine wI rfl rfl nf nw (fun _ _ => OkV.ok (R1 := fun _ => True) ((z0v rfl rfl rfl uT23 rfl rfl trivial))) <| wO 5 kR0 <| wI rfl rfl nf nw (fun _ _ => bSl rfl rfl uT23 tZ51 tS51 rfl rfl rfl rfl (fbk rfl) rfl) <| wO 6 kR0 ?_
    refine wI rfl rfl nf (nOl rfl) (fun _ _ => aPp rfl rfl rfl rfl (by rfl) sI0 uT23 tB51 dC0 (fun el hel => by rw [List.mem_singleton.1 hel]; rfl) (z1v _ _ _ _ _) (by simp [maxLen, z01]) (by simp [z01])) ?_
    refine wR 1 [7] kR0 h30 <| smR 1 rfl <| nR <| wO 8 kR0 <| wI rfl rfl nf (nOl rfl) (fun _ _ => sBx rfl rfl rfl rfl sI0 tS23 (⟨_, _, rfl, rfl⟩) (lb rfl)) <| wDn kR0 <| tQ <| Tr.freezeCell (k := 1040) (k2 := 104) (j := 1) (n := 2) rfl rfl rfl rfl dC0 <| tG <| cV rfl (lBP rfl rfl rfl uT25 rfl tS25 (lb rfl) rfl trivial) <| c0 (sBA rfl rfl rfl rfl rfl ((fun h => h)) tS25 (flk rfl) (lb rfl)) <| nL ?_
    refine tRt <| rCk (.inl rfl) (fun _ _ ho => lBP ho rfl rfl uT25 rfl tS25 (lb rfl) rfl trivial) rfl nPo
   refine wI rfl rfl nf nw (fun _ _ => bSl rfl rfl uT23 tZ51 tS51 rfl rfl rfl rfl (fbk rfl) rfl) <| wO 1 kR0 <| wI rfl rfl nf nw (fun _ _ => OkV.ok (R1 := fun _ => True) ((z0v rfl rfl rfl uT23 rfl rfl trivial))) <| wO 6 kR0 ?_
   refine wI rfl rfl nf (nOl rfl) (fun _ _ => aPp rfl rfl rfl rfl (by rfl) sI0 uT23 tB51 dC0 (fun el hel => by rw [List.mem_singleton.1 hel]; rfl) (z1v _ _ _ _ _) (by simp [maxLen, z01]) (by simp [z01])) ?_
   refine wR 1 [7] kR0 h30 <| smR 1 rfl <| nR <| wO 8 kR0 <| wI rfl rfl nf (nOl rfl) (fun _ _ => sBx rfl rfl rfl rfl sI0 tS23 (⟨_, _, rfl, rfl⟩) (lb rfl)) <| wDn kR0 <| tQ <| Tr.freezeCell (k := 1040) (k2 := 104) (j := 1) (n := 2) rfl rfl rfl rfl dC0 <| tG <| cV rfl (lBP rfl rfl rfl uT25 rfl tS25 (lb rfl) rfl trivial) <| c0 (sBA rfl rfl rfl rfl rfl ((fun h => h)) tS25 (flk rfl) (lb rfl)) <| nL ?_
   refine tRt <| rCk (.inl rfl) (fun _ _ ho => lBP ho rfl rfl uT25 rfl tS25 (lb rfl) rfl trivial) rfl nPo
  refine wI rfl rfl nf nw (fun _ _ => bSl rfl rfl uT23 tZ51 tS51 rfl rfl rfl rfl (fbk rfl) rfl) <| wO 1 kR0 <| wI rfl rfl nf nw (fun _ _ => OkV.ok (R1 := fun _ => True) ((z0v rfl rfl rfl uT23 rfl rfl trivial))) <| wO 5 kR0 ?_
  refine wI rfl rfl nf (nOl rfl) (fun _ _ => aPp rfl rfl rfl rfl (by rfl) sI0 uT23 tB51 dC0 (fun el hel => by rw [List.mem_singleton.1 hel]; rfl) (z1v _ _ _ _ _) (by simp [maxLen, z01]) (by simp [z01])) ?_
  refine wR 1 [6] kR0 h30 <| smR 1 rfl <| nR <| wO 7 kR0 <| wI rfl rfl nf (nOl rfl) (fun _ _ => sBx rfl rfl rfl rfl sI0 tS23 (⟨_, _, rfl, rfl⟩) (lb rfl)) <| wDn kR0 <| tQ <| tDr z1t (fun k => k ∈ ([] : List Nat)) <| wR 7 [0, 2] kR0 h30 <| smR 2 rfl <| nR <| WA.all (rs := [1, 3]) kR0 sI0 ?_
  refine fmc ⟨?_, fmc ⟨?_, by simp⟩⟩
  ·refine wI rfl rfl nf nw (fun _ _ => OkV.ok (R1 := fun _ => True) ((z0v rfl rfl rfl uT23 rfl rfl trivial))) <| wO 3 kR0 <| wI rfl rfl nf nw (fun _ _ => bSl rfl rfl uT35 tZ3 tS3 rfl rfl rfl rfl (fbk rfl) rfl) <| wO 4 kR0 <| wI rfl rfl nf (nAp rfl) (fun _ _ => ocr (z4o l z37 [1, 2] sI0 (z24 l z0e [] ⟨0, [], 0⟩).2 oM0 (ints (z24 l z0e [] ⟨0, [], 0⟩).2.types)) zk2 rfl (po1 rfl) rfl nl rfl rfl) <| wO 5 kR0 <| wI rfl rfl nf nw (fun _ _ => bSl rfl rfl uT23 tZ51 tS51 rfl rfl rfl rfl (fbk rfl) rfl) <| wO 6 kR0 ?_
   refine wI rfl rfl nf (nOl rfl) (fun _ _ => aPp rfl rfl rfl rfl (by rfl) sI0 uT23 tB51 dC0 (fun el hel => by rw [List.mem_singleton.1 hel]; rfl) (z1v _ _ _ _ _) (by simp [maxLen, z01]) (by simp [z01])) ?_
   refine wR 1 [7] kR0 h30 <| smR 1 rfl <| nR <| wO 8 kR0 <| wI rfl rfl nf (nOl rfl) (fun _ _ => sBx rfl rfl rfl rfl sI0 tS23 (⟨_, _, rfl, rfl⟩) (lb rfl)) <| wDn kR0 <| tQ <| Tr.freezeCell (k := 1040) (k2 := 104) (j := 1) (n := 2) rfl rfl rfl rfl dC0 <| tG <| cV rfl (lBP rfl rfl rfl uT25 rfl tS25 (lb rfl) rfl trivial) <| c0 (sBA rfl rfl rfl rfl rfl ((fun h => h)) tS25 (flk rfl) (lb rfl)) <| nL ?_
   refine tRt <| rCk (.inl rfl) (fun _ _ ho => lBP ho rfl rfl uT25 rfl tS25 (lb rfl) rfl trivial) rfl nPo
  refine wI rfl rfl nf nw (fun _ _ => bSl rfl rfl uT35 tZ3 tS3 rfl rfl rfl rfl (fbk rfl) rfl) <| WA.all (rs := [1, 4]) kR0 sI0 ?_
  refine fmc ⟨?_, fmc ⟨?_, by simp⟩⟩
  ·refine wI rfl rfl nf nw (fun _ _ => OkV.ok (R1 := fun _ => True) ((z0v rfl rfl rfl uT23 rfl rfl trivial))) <| wO 4 kR0 <| wI rfl rfl nf (nAp rfl) (fun _ _ => ocr (z4o l z37 [1, 2] sI0 (z24 l z0e [] ⟨0, [], 0⟩).2 oM0 (ints (z24 l z0e [] ⟨0, [], 0⟩).2.types)) zk2 rfl (po1 rfl) rfl nl rfl rfl) <| wO 5 kR0 <| wI rfl rfl nf nw (fun _ _ => bSl rfl rfl uT23 tZ51 tS51 rfl rfl rfl rfl (fbk rfl) rfl) <| wO 6 kR0 ?_
   refine wI rfl rfl nf (nOl rfl) (fun _ _ => aPp rfl rfl rfl rfl (by rfl) sI0 uT23 tB51 dC0 (fun el hel => by rw [List.mem_singleton.1 hel]; rfl) (z1v _ _ _ _ _) (by simp [maxLen, z01]) (by simp [z01])) ?_
   refine wR 1 [7] kR0 h30 <| smR 1 rfl <| nR <| wO 8 kR0 <| wI rfl rfl nf (nOl rfl) (fun _ _ => sBx rfl rfl rfl rfl sI0 tS23 (⟨_, _, rfl, rfl⟩) (lb rfl)) <| wDn kR0 <| tQ <| Tr.freezeCell (k := 1040) (k2 := 104) (j := 1) (n := 2) rfl rfl rfl rfl dC0 <| tG <| cV rfl (lBP rfl rfl rfl uT25 rfl tS25 (lb rfl) rfl trivial) <| c0 (sBA rfl rfl rfl rfl rfl ((fun h => h)) tS25 (flk rfl) (lb rfl)) <| nL ?_
   refine tRt <| rCk (.inl rfl) (fun _ _ ho => lBP ho rfl rfl uT25 rfl tS25 (lb rfl) rfl trivial) rfl nPo
  refine wI rfl rfl nf (nAp rfl) (fun _ _ => ocr (z4o l z37 [1, 2] sI0 (z24 l z0e [] ⟨0, [], 0⟩).2 oM0 (ints (z24 l z0e [] ⟨0, [], 0⟩).2.types)) zk2 rfl (po1 rfl) rfl nl rfl rfl) <| WA.all (rs := [1, 5]) kR0 sI0 ?_
  refine fmc ⟨?_, fmc ⟨?_, by simp⟩⟩
  ·refine wI rfl rfl nf nw (fun _ _ => OkV.ok (R1 := fun _ => True) ((z0v rfl rfl rfl uT23 rfl rfl trivial))) <| wO 5 kR0 <| wI rfl rfl nf nw (fun _ _ => bSl rfl rfl uT23 tZ51 tS51 rfl rfl rfl rfl (fbk rfl) rfl) <| wO 6 kR0 ?_
   refine wI rfl rfl nf (nOl rfl) (fun _ _ => aPp rfl rfl rfl rfl (by rfl) sI0 uT23 tB51 dC0 (fun el hel => by rw [List.mem_singleton.1 hel]; rfl) (z1v _ _ _ _ _) (by simp [maxLen, z01]) (by simp [z01])) ?_
   refine wR 1 [7] kR0 h30 <| smR 1 rfl <| nR <| wO 8 kR0 <| wI rfl rfl nf (nOl rfl) (fun _ _ => sBx rfl rfl rfl rfl sI0 tS23 (⟨_, _, rfl, rfl⟩) (lb rfl)) <| wDn kR0 <| tQ <| Tr.freezeCell (k := 1040) (k2 := 104) (j := 1) (n := 2) rfl rfl rfl rfl dC0 <| tG <| cV rfl (lBP rfl rfl rfl uT25 rfl tS25 (lb rfl) rfl trivial) <| c0 (sBA rfl rfl rfl rfl rfl ((fun h => h)) tS25 (flk rfl) (lb rfl)) <| nL ?_
   refine tRt <| rCk (.inl rfl) (fun _ _ ho => lBP ho rfl rfl uT25 rfl tS25 (lb rfl) rfl trivial) rfl nPo
  refine wI rfl rfl nf nw (fun _ _ => bSl rfl rfl uT23 tZ51 tS51 rfl rfl rfl rfl (fbk rfl) rfl) <| wO 1 kR0 <| wI rfl rfl nf nw (fun _ _ => OkV.ok (R1 := fun _ => True) ((z0v rfl rfl rfl uT23 rfl rfl trivial))) <| wO 6 kR0 ?_
  refine wI rfl rfl nf (nOl rfl) (fun _ _ => aPp rfl rfl rfl rfl (by rfl) sI0 uT23 tB51 dC0 (fun el hel => by rw [List.mem_singleton.1 hel]; rfl) (z1v _ _ _ _ _) (by simp [maxLen, z01]) (by simp [z01])) ?_
  refine wR 1 [7] kR0 h30 <| smR 1 rfl <| nR <| wO 8 kR0 <| wI rfl rfl nf (nOl rfl) (fun _ _ => sBx rfl rfl rfl rfl sI0 tS23 (⟨_, _, rfl, rfl⟩) (lb rfl)) <| wDn kR0 <| tQ <| Tr.freezeCell (k := 1040) (k2 := 104) (j := 1) (n := 2) rfl rfl rfl rfl dC0 <| tG <| cV rfl (lBP rfl rfl rfl uT25 rfl tS25 (lb rfl) rfl trivial) <| c0 (sBA rfl rfl rfl rfl rfl ((fun h => h)) tS25 (flk rfl) (lb rfl)) <| nL ?_
  refine tRt <| rCk (.inl rfl) (fun _ _ ho => lBP ho rfl rfl uT25 rfl tS25 (lb rfl) rfl trivial) rfl nPo
def Vis (tys all : List Int) (y t : Int) : Prop := all.contains y = true /\ 0 <= y /\ y < tys.length /\ tys.getD y.toNat 0 = t
theorem Vis.mono {tys all : List Int} {y t : Int} (h : Vis tys all y t) (c : List Int) : Vis tys (all ++ c) y t := ⟨by rw [List.contains_append, h.1]; rfl, h.2⟩
def Rel (tys : List Int) (to : TT) (all all' : List Int) : Prop := ∀ v, all.contains v = true -> 0 <= v -> v < tys.length -> Vis tys all' (z1o to v) (tys.getD v.toNat 0)
theorem zq1 {tys seen : List Int} {v w : Int} : z5g tys seen v w = true ↔ seen.contains v = true /\ 0 <= v /\ v < tys.length /\ (w = 0 ∨ tys.getD v.toNat 0 = w) := by
  unfold z5g
  simp only [Bool.not_eq_true', Bool.or_eq_false_iff, decide_eq_false_iff_not, Bool.not_eq_false', Bool.and_eq_false_iff, bne_eq_false_iff_eq]
  constructor
  ·rintro ⟨⟨⟨h1, h2⟩, h3⟩, h4⟩
   exact ⟨h3, by omega, by omega, h4⟩
  rintro ⟨h3, h1, h2, h4⟩
  exact ⟨⟨⟨by omega, by omega⟩, h3⟩, h4⟩
theorem use_rel {tys all all' : List Int} {to : TT} (hr : Rel tys to all all') {v w : Int} (h : z5g tys all v w = true) : z5g tys all' (z1o to v) w = true := by
  obtain ⟨h1, h2, h3, h4⟩ := zq1.1 h
  obtain ⟨k1, k2, k3, k4⟩ := hr v h1 h2 h3
  exact zq1.2 ⟨k1, k2, k3, by rw [k4]; exact h4⟩
theorem zp8 {tys all all' : List Int} {to : TT} (hr : Rel tys to all all') : ∀ {l want : List Int}, z0z tys all l want = true -> z0z tys all' (l.map (z1o to)) want = true
  | [], _, _ => by simp [z0z]
  | _ :: _, [], _ => by simp [z0z]
  | v :: r, w :: ws, h => by
    simp only [z0z, Bool.and_eq_true, List.map_cons] at h ⊢
    exact ⟨use_rel hr h.1, zp8 hr h.2⟩
theorem zp9 {tys all all' : List Int} {to : TT} (hr : Rel tys to all all') {l want : List Int} (h : z04 tys all l want = true) : z04 tys all' (l.map (z1o to)) want = true := by
  unfold z04 at h ⊢
  simp only [Bool.and_eq_true, List.length_map] at h ⊢
  exact ⟨h.1, zp8 hr h.2⟩
theorem Rel.outs {tys all all' outs : List Int} {to : TT} (hr : Rel tys to all all') (hn : ∀ v ∈ outs, aGet v to = none) : Rel tys to (all ++ outs) (all' ++ outs) := fun v hv h0 h1 => by
  rw [List.contains_append, Bool.or_eq_true] at hv
  by_cases ho : outs.contains v = true
  ·have e : z1o to v = v := by unfold z1o; rw [hn v (List.contains_iff_mem.1 ho)]; rfl
   rw [e]
   exact ⟨by rw [List.contains_append, ho, Bool.or_true], h0, h1, rfl⟩
  exact (hr v (hv.resolve_right ho) h0 h1).mono _
theorem Rel.congr {tys all all' : List Int} {to to' : TT} (hr : Rel tys to all all') (hn : ∀ v, all.contains v = true -> aGet v to' = aGet v to) : Rel tys to' all all' := fun v hv h0 h1 => by
  have e : z1o to' v = z1o to v := by unfold z1o; rw [hn v hv]
  rw [e]
  exact hr v hv h0 h1
theorem yb3 {u : Un} {f : Fl} {to : TT} {all all' : List Int} {w : Wh} {outs : List Int} {x y : Nd} (ek : y.kind = x.kind) (eo : y.op = x.op) (en : y.n = x.n) (em : y.name = x.name) (ea : y.args = x.args.map (z1o to)) (hr : Rel f.types to all all')
    (h : (z43 u f x all w).ok f.types outs = true) : (z43 u f y all' w).ok f.types outs = true := by
  have M : ∀ want, z04 f.types all x.args want = true -> z04 f.types all' (x.args.map (z1o to)) want = true := fun want => zp9 hr
  have F : ∀ (b b' : Bool) (want : Option (List Int)), (b = true -> b' = true) -> SForm.ok ⟨b, want⟩ f.types outs = true -> SForm.ok ⟨b', want⟩ f.types outs = true := fun b b' want hb h => by
    cases want <;> simp only [SForm.ok, Bool.and_eq_true] at h ⊢ <;> exact ⟨hb h.1, h.2⟩
  unfold z43 at h ⊢
  rw [ek, eo, en, em, ea]
  by_cases k1 : (x.kind == 1) = true
  ·rw [if_pos k1] at h ⊢
   exact F _ _ _ (fun hb => M _ hb) h
  rw [if_neg k1] at h ⊢
  by_cases k2 : (x.kind == 2) = true
  ·rw [if_pos k2] at h ⊢
   exact F _ _ _ (fun hb => by simp only [Bool.and_eq_true] at hb ⊢; exact ⟨hb.1, M _ hb.2⟩) h
  rw [if_neg k2] at h ⊢
  by_cases k3 : (x.kind == 3) = true
  ·rw [if_pos k3] at h ⊢
   exact F _ _ _ (fun hb => by simp only [Bool.and_eq_true] at hb ⊢; exact ⟨hb.1, M _ hb.2⟩) h
  rw [if_neg k3] at h ⊢
  by_cases k4 : (x.kind == 4) = true
  ·rw [if_pos k4] at h ⊢
   refine F _ _ _ (fun hb => ?_) h
   simp only [Bool.and_eq_true] at hb ⊢
   refine ⟨⟨hb.1.1, M _ hb.1.2⟩, ?_⟩
   have ht := hb.1.2
   unfold z04 at ht
   simp only [Bool.and_eq_true, beq_iff_eq, List.length_cons, List.length_nil] at ht
   match x.args, ht, hb.2 with
   | [a, b], ht, h2 =>
     simp only [z0z, Bool.and_eq_true] at ht
     obtain ⟨a1, a2, a3, _⟩ := zq1.1 ht.2.1
     obtain ⟨b1, b2, b3, _⟩ := zq1.1 ht.2.2.1
     have e1 := (hr a a1 a2 a3).2.2.2
     have e2 := (hr b b1 b2 b3).2.2.2
     simp only [List.map_cons, List.map_nil, List.getD_cons_zero, List.getD_cons_succ] at h2 ⊢
     rw [e1, e2]
     exact h2
  rw [if_neg k4] at h ⊢
  by_cases k5 : (x.kind == 5) = true
  ·rw [if_pos k5] at h ⊢
   exact F _ _ _ (fun hb => by simp only [Bool.and_eq_true] at hb ⊢; exact ⟨hb.1, M _ hb.2⟩) h
  rw [if_neg k5] at h ⊢
  by_cases k6 : (x.kind == 6) = true
  ·rw [if_pos k6] at h ⊢
   exact F _ _ _ (fun hb => by simp only [Bool.and_eq_true] at hb ⊢; exact ⟨hb.1, M _ hb.2⟩) h
  rw [if_neg k6] at h ⊢
  by_cases k7 : (x.kind == 7) = true
  ·rw [if_pos k7] at h ⊢
   by_cases hp : decide (z08 x.name u.flows 0 ≥ 0) = true
   ·rw [if_pos hp] at h ⊢
    cases hg : u.flows[(z08 x.name u.flows 0).toNat]? with
    | none => rw [hg] at h; exact h
    | some g => rw [hg] at h; exact F _ _ _ (fun hb => M _ hb) h
   rw [if_neg hp] at h ⊢; exact h
  rw [if_neg k7] at h ⊢
  by_cases k8 : (x.kind == 8) = true
  ·rw [if_pos k8] at h ⊢
   exact F _ _ _ (fun hb => by simpa using hb) h
  rw [if_neg k8] at h ⊢
  by_cases k9 : (x.kind == 9) = true
  ·rw [if_pos k9] at h ⊢
   exact F _ _ _ (fun hb => M _ hb) h
  rw [if_neg k9] at h ⊢
  by_cases k12 : (x.kind == 12) = true
  ·rw [if_pos k12] at h ⊢
   exact F _ _ _ (fun hb => by simp only [Bool.and_eq_true] at hb ⊢; exact ⟨hb.1, M _ hb.2⟩) h
  rw [if_neg k12] at h ⊢
  by_cases k13 : (x.kind == 13) = true
  ·rw [if_pos k13] at h ⊢
   exact F _ _ _ (fun hb => by simp only [Bool.and_eq_true] at hb ⊢; exact ⟨hb.1, M _ hb.2⟩) h
  rw [if_neg k13] at h ⊢
  by_cases k14 : (x.kind == 14) = true
  ·rw [if_pos k14] at h ⊢
   exact F _ _ _ (fun hb => by simp only [Bool.and_eq_true] at hb ⊢; exact ⟨hb.1, M _ hb.2⟩) h
  rw [if_neg k14] at h ⊢
  by_cases k15 : (x.kind == 15) = true
  ·rw [if_pos k15] at h ⊢
   exact F _ _ _ (fun hb => M _ hb) h
  rw [if_neg k15] at h ⊢
  exact h
theorem y2f {k n : Nat} {v : Int} (hk : k <= n) (h : (iota k).contains v = true) : (z3e k n).getD v.toNat false = true := by
  rw [List.contains_iff_mem] at h
  obtain ⟨i, hi, rfl⟩ := List.mem_map.1 h
  rw [List.mem_range] at hi
  simp only [z3e, List.getD_eq_getElem?_getD]
  rw [List.getElem?_append_left (by simpa using hi)]
  simp [hi]
def inEs (l : TT) : List (Value × PV) := l.map fun e => (vKey e.1, vInt e.2)
theorem y0k (l : TT) : ∀ e ∈ inEs l, z2h (.int .i64) e.1 = true := fun e he => by
  obtain ⟨x, _, rfl⟩ := List.mem_map.1 he
  rfl
theorem y8m (a b : Int) : keyB (vKey a) (vKey b) = decide (a = b) := by
  show (a == b) = _
  by_cases h : a = b <;> simp [h]
theorem y0j (v : Int) : ∀ l : TT, z5f (vKey v) (inEs l) = (aGet v l).map vInt
  | [] => rfl
  | (a, b) :: r => by
    have ih := y0j v r
    unfold inEs at ih ⊢
    simp only [List.map_cons, z5f, aGet, y8m, decide_eq_true_eq]
    by_cases h : v = a
    · rw [if_pos h, if_pos h]; rfl
    · rw [if_neg h, if_neg h]; exact ih
theorem y49 (k v : Int) : ∀ l : TT, mput (vKey k) (vInt v) (inEs l) = inEs (aPut k v l)
  | [] => rfl
  | (a, b) :: r => by
    have ih := y49 k v r
    unfold inEs at ih ⊢
    simp only [List.map_cons, mput, aPut, y8m, decide_eq_true_eq]
    by_cases h : k = a
    · rw [if_pos h, if_pos h]; rfl
    · rw [if_neg h, if_neg h, ih]; rfl
theorem y8i (v : Int) (l : TT) : ((z5f (vKey v) (inEs l)).getD (.val (.int .i64 0)), (z5f (vKey v) (inEs l)).isSome) = (vInt ((aGet v l).getD 0), (aGet v l).isSome) := by
  rw [y0j]
  cases aGet v l <;> rfl
theorem y6q {to : TT} {v : Int} (h : (aGet v to).isSome = true) : (aGet v to).getD 0 = z1o to v := by
  unfold z1o
  cases hg : aGet v to with
  | none => rw [hg] at h; cases h
  | some y => rfl
theorem y6p {to : TT} {v : Int} (h : (aGet v to).isSome = false) : z1o to v = v := by
  unfold z1o
  cases hg : aGet v to with
  | none => rfl
  | some y => rw [hg] at h; cases h
theorem y7b {l m : List Int} (h : ¬ (l.length : Int) = m.length) : (l == m) = false := by
  cases hb : (l == m) with
  | false => rfl
  | true => exact absurd (by rw [eq_of_beq hb]) h
theorem y7t (B : List Nd -> List Nd) (l : List Fl) (x : Fl) : (l ++ [z4t B x]).map Fl.enc = l.map Fl.enc ++ [[vStr x.name, vInt x.ty, vInt x.params, ints x.types, z0f (B x.body)]] := by
  rw [List.map_append]; rfl
mutual
def cnN (k : Int) : Nd -> Nat
  | .mk kind _ _ _ _ _ _ ks => (if kind == k then 1 else 0) + (if kind == 10 then cnK k ks else 0)
def cnL (k : Int) : List Nd -> Nat
  | [] => 0
  | x :: r => cnN k x + cnL k r
def cnK (k : Int) : List (List Nd) -> Nat
  | [] => 0
  | l :: r => cnL k l + cnK k r
end
theorem za0 (k : Int) (x : Nd) : cnN k x = (if x.kind == k then 1 else 0) + (if x.kind == 10 then cnK k x.kids else 0) := by cases x; simp only [cnN]; rfl
theorem z75 (k : Int) : ∀ a b : List Nd, cnL k (a ++ b) = cnL k a + cnL k b
  | [], b => by simp [cnL]
  | x :: r, b => by simp only [List.cons_append, cnL, z75 k r b]; omega
def z0s (l : List Nd) : Int := match l.getLast? with
  | some x => x.kind
  | none => 0
def z1h (l : List Nd) : Bool := match l.getLast? with
  | some x => z02 x
  | none => false
def z2t (l : List Nd) : Bool := cnL 13 l == 0 && (cnL 14 l == 0 || (cnL 14 l == 1 && z0s l == 14))
def z35 : List Nd -> List Nd -> Bool
  | [x], [y] => x.kind == 12 && y.kind == 12 && x.args == y.args
  | _, _ => false
def z0q : List Int -> List Int -> TT -> TT
  | v :: l, t :: m, to => z0q l m (aPut v t to)
  | _, _, to => to
def z6v : List Nd -> List Int
  | x :: _ => x.args
  | [] => []
def z52 (l : List Nd) : List Int := match l.getLast? with
  | some x => x.args
  | none => []
def z7q (x : Nd) : Nd := if z02 x then .mk x.kind x.op x.n x.name x.args [] x.params x.kids else x
mutual
def tdN : Nd -> Nd
  | .mk kind op n name args outs params ks => z7q (.mk kind op n name args outs params (tdK ks))
def tdL : List Nd -> List Nd
  | [] => []
  | x :: r => if z02 (tdN x) then [tdN x] else tdN x :: tdL r
def tdK : List (List Nd) -> List (List Nd)
  | [] => []
  | l :: r => tdL l :: tdK r
end
theorem tdN_eq (x : Nd) : tdN x = z7q (.mk x.kind x.op x.n x.name x.args x.outs x.params (tdK x.kids)) := by cases x; simp only [tdN]; rfl
mutual
def trN (to : TT) : Nd -> List Nd × TT
  | .mk kind op n name args outs params ks =>
    if kind == 11 then
      (if z2t (kid0 ks) then
        (if z0s (kid0 (trKs (z0q params (args.map (z1o to)) to) ks).1) == 14 then
          ((kid0 (trKs (z0q params (args.map (z1o to)) to) ks).1).dropLast, z0q outs (z52 (kid0 (trKs (z0q params (args.map (z1o to)) to) ks).1)) (trKs (z0q params (args.map (z1o to)) to) ks).2)
        else (kid0 (trKs (z0q params (args.map (z1o to)) to) ks).1, (trKs (z0q params (args.map (z1o to)) to) ks).2))
      else ([.mk kind op n name (args.map (z1o to)) outs params (trKs to ks).1], (trKs to ks).2))
    else if kind == 10 then
      (if z35 (kid0 (trKs to ks).1) (kid1 (trKs to ks).1) then ([], z0q outs (z6v (kid0 (trKs to ks).1)) (trKs to ks).2)
      else ([.mk kind op n name (args.map (z1o to)) outs params (trKs to ks).1], (trKs to ks).2))
    else ([.mk kind op n name (args.map (z1o to)) outs params ks], to)
def trR (out : List Nd) (to : TT) : List Nd -> List Nd × TT
  | [] => (out, to)
  | x :: r => if z1h (out ++ (trN to x).1) then (out ++ (trN to x).1, (trN to x).2) else trR (out ++ (trN to x).1) (trN to x).2 r
def trKs (to : TT) : List (List Nd) -> List (List Nd) × TT
  | [] => ([], to)
  | l :: r => (tdL (trR [] to l).1 :: (trKs (trR [] to l).2 r).1, (trKs (trR [] to l).2 r).2)
end
def trL (to : TT) (l : List Nd) : List Nd × TT := (tdL (trR [] to l).1, (trR [] to l).2)
theorem z6b (to : TT) (l : List Nd) (r : List (List Nd)) : trKs to (l :: r) = ((trL to l).1 :: (trKs (trL to l).2 r).1, (trKs (trL to l).2 r).2) := by rw [trKs]; rfl
def trB (l : List Nd) : List Nd := (trL [] l).1
def trA (to : TT) (x : Nd) : Nd := .mk x.kind x.op x.n x.name (x.args.map (z1o to)) x.outs x.params x.kids
def z9i (to : TT) (x : Nd) : List Nd × TT :=
  if z2t (kid0 x.kids) then
    (if z0s (kid0 (trKs (z0q x.params x.args to) x.kids).1) == 14 then
      ((kid0 (trKs (z0q x.params x.args to) x.kids).1).dropLast, z0q x.outs (z52 (kid0 (trKs (z0q x.params x.args to) x.kids).1)) (trKs (z0q x.params x.args to) x.kids).2)
    else (kid0 (trKs (z0q x.params x.args to) x.kids).1, (trKs (z0q x.params x.args to) x.kids).2))
  else ([.mk x.kind x.op x.n x.name x.args x.outs x.params (trKs to x.kids).1], (trKs to x.kids).2)
def z7n (to : TT) (x : Nd) : List Nd × TT :=
  if z35 (kid0 (trKs to x.kids).1) (kid1 (trKs to x.kids).1) then ([], z0q x.outs (z6v (kid0 (trKs to x.kids).1)) (trKs to x.kids).2)
  else ([.mk x.kind x.op x.n x.name x.args x.outs x.params (trKs to x.kids).1], (trKs to x.kids).2)
theorem zt9 (to : TT) (x : Nd) : trN to x = if x.kind == 11 then z9i to (trA to x) else if x.kind == 10 then z7n to (trA to x) else ([trA to x], to) := by
  cases x; simp only [trN, z9i, z7n, trA, Nd.kind, Nd.op, Nd.n, Nd.name, Nd.args, Nd.outs, Nd.params, Nd.kids]; rfl
mutual
def gdN (to : TT) : Nd -> Bool
  | .mk kind op n name args outs params ks =>
    if kind == 11 then ks.length == 1 && decide (params.length <= args.length) &&
      (if z2t (kid0 ks) then gdKs (z0q params (args.map (z1o to)) to) ks && !(kid0 (trKs (z0q params (args.map (z1o to)) to) ks).1).isEmpty &&
          (z0s (kid0 (trKs (z0q params (args.map (z1o to)) to) ks).1) != 14 || decide (outs.length <= (z52 (kid0 (trKs (z0q params (args.map (z1o to)) to) ks).1)).length))
        else gdKs to ks)
    else if kind == 10 then ks.length == 2 && gdKs to ks && (!z35 (kid0 (trKs to ks).1) (kid1 (trKs to ks).1) || decide (outs.length <= (z6v (kid0 (trKs to ks).1)).length))
    else true
def gdR (out : List Nd) (to : TT) : List Nd -> Bool
  | [] => true
  | x :: r => gdN to x && (z1h (out ++ (trN to x).1) || gdR (out ++ (trN to x).1) (trN to x).2 r)
def gdKs (to : TT) : List (List Nd) -> Bool
  | [] => true
  | l :: r => gdR [] to l && gdKs (trR [] to l).2 r
end
theorem y0g (to : TT) (x : Nd) : gdN to x =
    if x.kind == 11 then x.kids.length == 1 && decide (x.params.length <= x.args.length) &&
      (if z2t (kid0 x.kids) then gdKs (z0q x.params (trA to x).args to) x.kids && !(kid0 (trKs (z0q x.params (trA to x).args to) x.kids).1).isEmpty &&
          (z0s (kid0 (trKs (z0q x.params (trA to x).args to) x.kids).1) != 14 || decide (x.outs.length <= (z52 (kid0 (trKs (z0q x.params (trA to x).args to) x.kids).1)).length))
        else gdKs to x.kids)
    else if x.kind == 10 then x.kids.length == 2 && gdKs to x.kids && (!z35 (kid0 (trKs to x.kids).1) (kid1 (trKs to x.kids).1) || decide (x.outs.length <= (z6v (kid0 (trKs to x.kids).1)).length))
    else true := by
  cases x; simp only [gdN, trA, Nd.kind, Nd.args, Nd.outs, Nd.params, Nd.kids]; rfl
mutual
def zy6 : Nd -> Bool
  | .mk kind _ _ _ args outs params ks => (kind != 10 || ks.length == 2) && (kind != 11 || (ks.length == 1 && params.length == args.length)) && y1u ks
def zh2 : List Nd -> Bool
  | [] => true
  | x :: r => zy6 x && zh2 r
def y1u : List (List Nd) -> Bool
  | [] => true
  | l :: r => !l.isEmpty && zh2 l && y1u r
end
theorem z94 (x : Nd) : zy6 x = ((x.kind != 10 || x.kids.length == 2) && (x.kind != 11 || (x.kids.length == 1 && x.params.length == x.args.length)) && y1u x.kids) := by
  cases x; simp only [zy6]; rfl
theorem zp6 : ∀ {l : List Nd} {x : Nd}, zh2 l = true -> x ∈ l -> zy6 x = true
  | y :: r, x, hh, hx => by
    simp only [zh2, Bool.and_eq_true] at hh
    rcases List.mem_cons.1 hx with rfl | hx
    · exact hh.1
    · exact zp6 hh.2 hx
theorem z8q : ∀ {l : List (List Nd)} {x : List Nd}, y1u l = true -> x ∈ l -> x ≠ [] /\ zh2 x = true
  | y :: r, x, hh, hx => by
    simp only [y1u, Bool.and_eq_true] at hh
    rcases List.mem_cons.1 hx with rfl | hx
    · exact ⟨by intro e; rw [e] at hh; simp at hh, hh.1.2⟩
    · exact z8q hh.2 hx
mutual
theorem y5i : ∀ x : Nd, z3f x = (cnN 14 x != 0)
  | .mk kind op n name args outs params ks => by
    have hk := zs6 ks
    simp only [z3f, cnN, hk]
    by_cases h14 : kind = 14
    ·subst h14; simp
    by_cases h10 : kind = 10
    ·subst h10; simp
    simp [h14, h10]
theorem z5t : ∀ l : List Nd, z10 l = (cnL 14 l != 0)
  | [] => rfl
  | x :: r => by
    simp only [z10, cnL, y5i x, z5t r]
    rw [Bool.eq_iff_iff]
    simp only [Bool.or_eq_true, bne_iff_ne, ne_eq]
    omega
theorem zs6 : ∀ ks : List (List Nd), z2m ks = (cnK 14 ks != 0)
  | [] => rfl
  | l :: r => by
    simp only [z2m, cnK, z5t l, zs6 r]
    rw [Bool.eq_iff_iff]
    simp only [Bool.or_eq_true, bne_iff_ne, ne_eq]
    omega
end
def Cx13 (w w' : Wh) (n : Nat) : Prop := n = 0 ∨ (w'.Loop = w.Loop /\ w'.Next = w.Next)
def Cx14 (w w' : Wh) (n : Nat) : Prop := n = 0 ∨ (w'.Loop = w.Loop /\ w'.Left = w.Left)
def Cx12 (w w' : Wh) (x : Nd) : Prop := x.kind = 12 -> (w'.If = w.If /\ w'.Yield = w.Yield)
theorem Cx13.part {w w' : Wh} {n m : Nat} (h : Cx13 w w' n) (hm : n = 0 -> m = 0) : Cx13 w w' m := h.imp hm id
theorem Cx14.part {w w' : Wh} {n m : Nat} (h : Cx14 w w' n) (hm : n = 0 -> m = 0) : Cx14 w w' m := h.imp hm id
theorem yb2 (u : Un) (f : Fl) (x : Nd) (s : List Int) (w w' : Wh) (h12 : Cx12 w w' x) (h13 : Cx13 w w' (cnN 13 x)) (h14 : Cx14 w w' (cnN 14 x)) : z43 u f x s w' = z43 u f x s w := by
  have e12 : (x.kind == 12) = true -> (w'.If = w.If /\ w'.Yield = w.Yield) := fun h => h12 (by simpa using h)
  have e13 : (x.kind == 13) = true -> (w'.Loop = w.Loop /\ w'.Next = w.Next) := fun h => h13.resolve_left (by rw [za0, if_pos h]; omega)
  have e14 : (x.kind == 14) = true -> (w'.Loop = w.Loop /\ w'.Left = w.Left) := fun h => h14.resolve_left (by rw [za0, if_pos h]; omega)
  unfold z43
  by_cases k12 : (x.kind == 12) = true
  ·obtain ⟨a, b⟩ := e12 k12
   rw [a, b]
   have k13 : (x.kind == 13) = false := by simp at k12 ⊢; omega
   have k14 : (x.kind == 14) = false := by simp at k12 ⊢; omega
   simp only [k12, k13, k14, if_true, Bool.false_eq_true, if_false]
  by_cases k13 : (x.kind == 13) = true
  ·obtain ⟨a, b⟩ := e13 k13
   rw [a, b]
   have k12' : (x.kind == 12) = false := by simpa using k12
   have k14 : (x.kind == 14) = false := by simp at k13 ⊢; omega
   simp only [k12', k13, k14, if_true, Bool.false_eq_true, if_false]
  by_cases k14 : (x.kind == 14) = true
  ·obtain ⟨a, b⟩ := e14 k14
   rw [a, b]
   have k12' : (x.kind == 12) = false := by simpa using k12
   have k13' : (x.kind == 13) = false := by simpa using k13
   simp only [k12', k13', k14, if_true, Bool.false_eq_true, if_false]
  have k12' : (x.kind == 12) = false := by simpa using k12
  have k13' : (x.kind == 13) = false := by simpa using k13
  have k14' : (x.kind == 14) = false := by simpa using k14
  simp only [k12', k13', k14', Bool.false_eq_true, if_false]
mutual
theorem y4l (u : Un) (f : Fl) : ∀ (x : Nd) (deep deep' : Int) (w w' : Wh) (all : List Int), deep' <= deep -> Cx12 w w' x -> Cx13 w w' (cnN 13 x) -> Cx14 w w' (cnN 14 x) -> z3k u f deep w all x = true -> z3k u f deep' w' all x = true
  | .mk kind op n name args outs params ks, deep, deep', w, w', all, hd, h12, h13, h14, hv => by
    have hb := z33 u f deep _ all hv
    by_cases h10 : kind = 10
    ·obtain ⟨a, b, hk⟩ := z3q hb h10
     rw [z54 u f deep w all hb h10 hk] at hv
     rw [z54 u f deep' w' all hb h10 hk]
     simp only [Bool.and_eq_true, z44] at hv ⊢
     simp only [Nd.kids] at hk
     match ks, hk with
     | [a', b'], hk =>
       cases hk
       subst h10
       have z13 : ∀ {c : Nat}, cnN 13 (.mk 10 op n name args outs params [a, b]) = 0 -> (cnL 13 a = 0 /\ cnL 13 b = 0) := fun {_} h => by simp only [cnN, cnK] at h; simp at h; exact h
       have z14 : ∀ {c : Nat}, cnN 14 (.mk 10 op n name args outs params [a, b]) = 0 -> (cnL 14 a = 0 /\ cnL 14 b = 0) := fun {_} h => by simp only [cnN, cnK] at h; simp at h; exact h
       have A := y0h u f a (deep + 1) (deep' + 1) (w1 w f (.mk 10 op n name args outs params [a, b])) (w1 w' f (.mk 10 op n name args outs params [a, b])) all oM0 (fun _ _ _ => ⟨rfl, rfl⟩) (h13.imp (fun h => (z13 (c := 0) h).1) id) (h14.imp (fun h => (z14 (c := 0) h).1) id) hv.1.1.1.2.2
       have B := y0h u f b (deep + 1) (deep' + 1) (w1 w f (.mk 10 op n name args outs params [a, b])) (w1 w' f (.mk 10 op n name args outs params [a, b])) all oM0 (fun _ _ _ => ⟨rfl, rfl⟩) (h13.imp (fun h => (z13 (c := 0) h).2) id) (h14.imp (fun h => (z14 (c := 0) h).2) id) hv.1.1.2.2
       exact ⟨⟨⟨⟨hv.1.1.1.1, hv.1.1.1.2.1, A⟩, hv.1.1.2.1, B⟩, hv.1.2⟩, hv.2⟩
    by_cases h11 : kind = 11
    ·obtain ⟨a, hk⟩ := z2e hb h11
     rw [z3g u f deep w all hb h11 hk] at hv
     rw [z3g u f deep' w' all hb h11 hk]
     simp only [Bool.and_eq_true, z44] at hv ⊢
     simp only [Nd.kids] at hk
     match ks, hk with
     | [a'], hk =>
       cases hk
       have A := y0h u f a (deep + 1) (deep' + 1) (w2 f (.mk kind op n name args outs params [a])) (w2 f (.mk kind op n name args outs params [a])) (all ++ params) oM0 (fun _ _ _ => ⟨rfl, rfl⟩) (.inr ⟨rfl, rfl⟩) (.inr ⟨rfl, rfl⟩) hv.1.1.2.2
       exact ⟨⟨⟨hv.1.1.1, hv.1.1.2.1, A⟩, hv.1.2⟩, hv.2⟩
    have e10 : (kind == 10) = false := by simpa using h10
    have e11 : (kind == 11) = false := by simpa using h11
    rw [z2a u f deep w all hb e10 e11] at hv
    rw [z2a u f deep' w' all hb e10 e11, yb2 u f _ all w w' h12 h13 h14]
    exact hv
theorem y0h (u : Un) (f : Fl) : ∀ (l : List Nd) (deep deep' : Int) (w w' : Wh) (all : List Int), deep' <= deep -> (∀ x ∈ l, Cx12 w w' x) -> Cx13 w w' (cnL 13 l) -> Cx14 w w' (cnL 14 l) -> vGo u f deep w all l = true -> vGo u f deep' w' all l = true
  | [], _, _, _, _, _, _, _, _, _, _ => by simp [vGo]
  | x :: r, deep, deep', w, w', all, hd, h12, h13, h14, hv => by
    simp only [vGo, Bool.and_eq_true] at hv ⊢
    simp only [cnL] at h13 h14
    refine ⟨⟨⟨?_, y4l u f x deep deep' w w' all hd (h12 x (.head _)) (h13.part oM0) (h14.part oM0) hv.1.1.2⟩, hv.1.2⟩, y0h u f r deep deep' w w' _ hd (fun y hy => h12 y (.tail _ hy)) (h13.part oM0) (h14.part oM0) hv.2⟩
    have := hv.1.1.1
    simp only [Bool.not_eq_true', decide_eq_false_iff_not] at this ⊢
    omega
end
theorem y5y {x : Nd} (h : z02 x = false) : x.kind ≠ 12 /\ x.kind ≠ 13 /\ x.kind ≠ 14 := by
  refine ⟨fun e => ?_, fun e => ?_, fun e => ?_⟩ <;> (unfold z02 at h; simp [e, z0y] at h)
theorem y99 (u : Un) (f : Fl) : ∀ (l : List Nd) (deep deep' : Int) (w w' : Wh) (all : List Int), deep' <= deep -> Cx13 w w' (cnL 13 l) -> Cx14 w w' (cnL 14 l) -> vPre u f deep w all l = true -> vPre u f deep' w' all l = true
  | [], _, _, _, _, _, _, _, _, _ => rfl
  | x :: r, deep, deep', w, w', all, hd, h13, h14, hv => by
    simp only [vPre, Bool.and_eq_true] at hv ⊢
    simp only [cnL] at h13 h14
    refine ⟨⟨⟨?_, y4l u f x deep deep' w w' all hd (fun e => absurd e (y5y (by simpa using hv.1.2)).1) (h13.part oM0) (h14.part oM0) hv.1.1.2⟩, hv.1.2⟩, y99 u f r deep deep' w w' _ hd (h13.part oM0) (h14.part oM0) hv.2⟩
    have := hv.1.1.1
    simp only [Bool.not_eq_true', decide_eq_false_iff_not] at this ⊢
    omega
theorem y2c {u : Un} {f : Fl} {deep : Int} {w : Wh} {all : List Int} {x : Nd} (hv : z3k u f deep w all x = true) (hc : z02 x = true) : x.outs = [] := by
  have hb := z33 u f deep _ all hv
  have ok : z9r x = true -> x.outs = [] := fun h => by
    unfold z9r at h
    rw [hc] at h
    simp only [Bool.not_true, Bool.or_false, beq_iff_eq] at h
    exact List.eq_nil_of_length_eq_zero oM0
  by_cases h10 : x.kind = 10
  ·obtain ⟨a, b, hk⟩ := z3q hb h10
   rw [z54 u f deep w all hb h10 hk] at hv
   simp only [Bool.and_eq_true] at hv
   exact ok hv.1.2
  by_cases h11 : x.kind = 11
  ·obtain ⟨a, hk⟩ := z2e hb h11
   rw [z3g u f deep w all hb h11 hk] at hv
   simp only [Bool.and_eq_true] at hv
   exact ok hv.1.2
  have e10 : (x.kind == 10) = false := by simpa using h10
  have e11 : (x.kind == 11) = false := by simpa using h11
  rw [z2a u f deep w all hb e10 e11] at hv
  have hE : z0y x.kind = true := by
    unfold z02 at hc
    simpa only [e10, e11, Bool.false_and, Bool.false_eq_true, if_false] using hc
  have hk : x.kind = 12 ∨ x.kind = 13 ∨ x.kind = 14 ∨ x.kind = 15 := by
    simp only [z0y, Bool.or_eq_true, Bool.and_eq_true, beq_iff_eq, decide_eq_true_eq] at hE
    omega
  have hz : ∀ b : Bool, SForm.ok ⟨b, none⟩ f.types x.outs = true -> x.outs = [] := fun b h => by
    simp only [SForm.ok, Bool.and_eq_true, beq_iff_eq] at h
    exact List.eq_nil_of_length_eq_zero oM0
  unfold z43 at hv
  rcases hk with e | e | e | e <;> (simp only [e] at hv; exact hz _ hv)
theorem y2s {x : Nd} (h : z02 x = true -> x.outs = []) : z7q x = x := by
  unfold z7q
  split
  ·rename_i hc
   cases x
   simp only [Nd.outs] at h
   rw [h hc]; rfl
  rfl
mutual
theorem tidyN (u : Un) (f : Fl) : ∀ (x : Nd) (deep : Int) (w : Wh) (all : List Int), z3k u f deep w all x = true -> tdN x = x
  | .mk kind op n name args outs params ks, deep, w, all, hv => by
    have hb := z33 u f deep _ all hv
    have fin : tdK ks = ks -> tdN (.mk kind op n name args outs params ks) = .mk kind op n name args outs params ks := fun h => by
      unfold tdN
      rw [h]
      exact y2s fun hc => y2c hv hc
    apply fin
    by_cases h10 : kind = 10
    ·obtain ⟨a, b, hk⟩ := z3q hb h10
     rw [z54 u f deep w all hb h10 hk] at hv
     simp only [Bool.and_eq_true, z44] at hv
     simp only [Nd.kids] at hk
     match ks, hk with
     | [a', b'], hk =>
       cases hk
       simp only [tdK, yc5 u f a _ _ _ hv.1.1.1.2.2, yc5 u f b _ _ _ hv.1.1.2.2]
    by_cases h11 : kind = 11
    ·obtain ⟨a, hk⟩ := z2e hb h11
     rw [z3g u f deep w all hb h11 hk] at hv
     simp only [Bool.and_eq_true, z44] at hv
     simp only [Nd.kids] at hk
     match ks, hk with
     | [a'], hk =>
       cases hk
       simp only [tdK, yc5 u f a _ _ _ hv.1.1.2.2]
    have e10 : (kind == 10) = false := by simpa using h10
    have e11 : (kind == 11) = false := by simpa using h11
    have hk0 : ks = [] := z8s hb e10 e11
    rw [hk0]; simp [tdK]
theorem yc5 (u : Un) (f : Fl) : ∀ (l : List Nd) (deep : Int) (w : Wh) (all : List Int), vGo u f deep w all l = true -> tdL l = l
  | [], _, _, _, _ => by simp [tdL]
  | x :: r, deep, w, all, hv => by
    simp only [vGo, Bool.and_eq_true, beq_iff_eq] at hv
    have h1 := tidyN u f x deep w all hv.1.1.2
    have h2 := yc5 u f r deep w _ hv.2
    unfold tdL
    rw [h1, h2]
    cases hc : z02 x with
    | false => simp
    | true =>
      rw [hc] at hv
      have : r = [] := by
        have := hv.1.2
        cases r with
        | nil => rfl
        | cons _ _ => simp at this
      simp [this]
end
theorem Rel.mono {tys all all' : List Int} {to : TT} (h : Rel tys to all all') (c : List Int) : Rel tys to all (all' ++ c) := fun v hv h0 h1 => (h v hv h0 h1).mono c
theorem z51 : ∀ (l m : List Int) (to : TT) (v : Int), v ∉ l -> aGet v (z0q l m to) = aGet v to
  | [], _, _, _, _ => by simp [z0q]
  | _ :: _, [], _, _, _ => by simp [z0q]
  | a :: l, t :: m, to, v, h => by
    simp only [List.mem_cons, not_or] at h
    simp only [z0q]
    rw [z51 l m _ v h.2, zu2, if_neg h.1]
theorem zt8 {tys all' : List Int} : ∀ (l m : List Int) (to : TT), l.Nodup -> l.length = m.length -> z0z tys all' m (l.map fun v => tys.getD v.toNat 0) = true -> ∀ v ∈ l, ∃ t, aGet v (z0q l m to) = some t /\ z5g tys all' t (tys.getD v.toNat 0) = true
  | [], _, _, _, _, _, v, hv => by simp at hv
  | _ :: _, [], _, _, hl, _, _, _ => by simp at hl
  | a :: l, t :: m, to, hn, hl, h, v, hv => by
    simp only [List.map_cons, z0z, Bool.and_eq_true] at h
    obtain ⟨hn1, hn2⟩ := List.nodup_cons.1 hn
    simp only [z0q]
    rcases List.mem_cons.1 hv with rfl | hv
    ·exact ⟨t, by rw [z51 l m _ v hn1, zu2, if_pos rfl], h.1⟩
    exact zt8 l m _ hn2 (by simpa using hl) h.2 v hv
theorem yc7 {tys l : List Int} (h : inR tys.length l) : r8of tys l = l.map fun v => tys.getD v.toNat 0 := by
  unfold r8of
  rw [if_pos]
  rw [List.all_eq_true]
  intro v hv
  simp only [z6y, Bool.and_eq_true, decide_eq_true_eq]
  exact h v hv
theorem z6d {tys all l to : List Int} (hr : inR tys.length to) (h : z04 tys all l (r8of tys to) = true) : l.length = to.length := by
  rw [yc7 hr] at h
  unfold z04 at h
  simp only [Bool.and_eq_true, List.length_map, beq_iff_eq] at h
  omega
theorem zp4 {tys all all' l m : List Int} {to : TT} (hty : ∀ v : Int, 0 <= v -> v < tys.length -> tys.getD v.toNat 0 ≠ 0) (hr : Rel tys to all all') (hn : l.Nodup) (hin : inR tys.length l) (h : z04 tys all' m (r8of tys l) = true) : Rel tys (z0q l m to) (all ++ l) all' := fun v hv h0 h1 => by
  have hl := z6d hin h
  rw [yc7 hin] at h
  unfold z04 at h
  simp only [Bool.and_eq_true] at h
  by_cases hm : v ∈ l
  ·obtain ⟨t, h2, h3⟩ := zt8 l m to hn hl.symm h.2 v hm
   obtain ⟨u1, u2, u3, u4⟩ := zq1.1 h3
   have e : z1o (z0q l m to) v = t := by unfold z1o; rw [h2]; rfl
   rw [e]
   exact ⟨u1, u2, u3, u4.resolve_left (hty v h0 h1)⟩
  have e : z1o (z0q l m to) v = z1o to v := by unfold z1o; rw [z51 l m to v hm]
  rw [e]
  refine hr v ?_ h0 h1
  rw [List.contains_append, Bool.or_eq_true] at hv
  exact hv.resolve_right fun hc => hm (List.contains_iff_mem.1 hc)
def HT (f : Fl) : Prop := ∀ v : Int, 0 <= v -> v < f.types.length -> f.types.getD v.toNat 0 ≠ 0
theorem z6l {A B : List Nd} (h : B ≠ []) : z0s (A ++ B) = z0s B := by unfold z0s; rw [y4d h]
theorem zq7 {A B : List Nd} (h : B ≠ []) : z1h (A ++ B) = z1h B := by unfold z1h; rw [y4d h]
theorem z57 (x : Nd) : z0s [x] = x.kind := rfl
theorem zv5 {l : List Nd} (h : l ≠ []) : ∃ x ∈ l, l.getLast? = some x := by
  cases hg : l.getLast? with
  | none => exact absurd (List.getLast?_eq_none_iff.1 hg) h
  | some x => exact ⟨x, List.mem_of_getLast? hg, rfl⟩
theorem zv4 {l : List Nd} (h : ∀ y ∈ l, z02 y = false) : z1h l = false := by
  by_cases e : l = []
  ·subst e; rfl
  obtain ⟨x, hx, hg⟩ := zv5 e
  unfold z1h
  rw [hg]; exact h x hx
theorem y9a {u : Un} {f : Fl} {deep : Int} {w : Wh} : ∀ {l : List Nd} {all : List Int}, vPre u f deep w all l = true -> ∀ y ∈ l, z02 y = false
  | x :: r, all, h, y, hy => by
    simp only [vPre, Bool.and_eq_true] at h
    rcases List.mem_cons.1 hy with rfl | hy
    ·simpa using h.1.2
    exact y9a h.2 y hy
theorem pre_open {u : Un} {f : Fl} {deep : Int} {w : Wh} {M out : List Nd} {all : List Int} (h : vPre u f deep w all M = true) (ho : z1h out = false) : z1h (out ++ M) = false := by
  by_cases e : M = []
  ·subst e; simpa using ho
  rw [zq7 e]; exact zv4 (y9a h)
theorem y8e {u : Un} {f : Fl} {deep : Int} {w : Wh} : ∀ {l : List Nd} {all : List Int}, vGo u f deep w all l = true -> ∀ y ∈ l, ∃ s, z3k u f deep w s y = true
  | x :: r, all, h, y, hy => by
    simp only [vGo, Bool.and_eq_true] at h
    rcases List.mem_cons.1 hy with rfl | hy
    ·exact ⟨_, h.1.1.2⟩
    exact y8e h.2 y hy
theorem y48 {u : Un} {f : Fl} {deep : Int} {w : Wh} {e : Nd} : ∀ {A : List Nd} {all : List Int}, vGo u f deep w all (A ++ [e]) = true -> vPre u f deep w all A = true /\ z3k u f deep w (all ++ A.flatMap Nd.outs) e = true
  | [], all, h => by
    simp only [List.nil_append, vGo, Bool.and_eq_true] at h
    exact ⟨rfl, by simpa using h.1.1.2⟩
  | x :: r, all, h => by
    simp only [List.cons_append, vGo, Bool.and_eq_true] at h
    obtain ⟨h1, h2⟩ := y48 h.2
    have hc : z02 x = false := by
      have := h.1.2
      cases r <;> simpa using this
    simp only [vPre, Bool.and_eq_true, List.flatMap_cons]
    exact ⟨⟨⟨h.1.1, by rw [hc]; rfl⟩, h1⟩, by rw [<- List.append_assoc]; exact h2⟩
theorem form12 {u : Un} {f : Fl} {x : Nd} {s : List Int} {w : Wh} (h : x.kind = 12) : z43 u f x s w = ⟨w.If && z04 f.types s x.args w.Yield, none⟩ := by unfold z43; simp [h]
theorem form14 {u : Un} {f : Fl} {x : Nd} {s : List Int} {w : Wh} (h : x.kind = 14) : z43 u f x s w = ⟨w.Loop && z04 f.types s x.args w.Left, none⟩ := by unfold z43; simp [h]
theorem node12 {u : Un} {f : Fl} {deep : Int} {w : Wh} {s : List Int} {x : Nd} (h : z3k u f deep w s x = true) (hk : x.kind = 12) : w.If = true /\ z04 f.types s x.args w.Yield = true := by
  rw [z2a u f deep w s (z33 u f deep w s h) (by simp [hk]) (by simp [hk]), form12 hk] at h
  simp only [SForm.ok, Bool.and_eq_true] at h
  exact h.1
theorem node14 {u : Un} {f : Fl} {deep : Int} {w : Wh} {s : List Int} {x : Nd} (h : z3k u f deep w s x = true) (hk : x.kind = 14) : z04 f.types s x.args w.Left = true := by
  rw [z2a u f deep w s (z33 u f deep w s h) (by simp [hk]) (by simp [hk]), form14 hk] at h
  simp only [SForm.ok, Bool.and_eq_true] at h
  exact h.1.2
theorem no12 {u : Un} {f : Fl} {deep : Int} {w : Wh} {l : List Nd} {all : List Int} (hw : w.If = false) (h : vGo u f deep w all l = true) : ∀ y ∈ l, y.kind ≠ 12 := fun y hy e => by
  obtain ⟨s, hs⟩ := y8e h y hy
  have := (node12 hs e).1
  rw [hw] at this; cases this
theorem y2n : ∀ {l : List Nd} {k : Int}, k = 13 ∨ k = 14 -> z0s l = k -> 1 <= cnL k l := fun {l k} hk h => by
  have hne : l ≠ [] := by intro e; subst e; simp [z0s] at h; omega
  obtain ⟨x, hx, hg⟩ := zv5 hne
  have e : l = l.dropLast ++ [x] := by
    have := List.dropLast_concat_getLast hne
    rw [List.getLast?_eq_some_getLast hne] at hg
    rw [Option.some.inj hg] at this
    exact this.symm
  unfold z0s at h
  rw [hg] at h
  rw [e, z75]
  simp only [cnL, za0]
  rw [if_pos (by simpa using h)]
  omega
theorem zd6 {l : List Nd} (hne : l ≠ []) : ∃ A e, l = A ++ [e] /\ l.dropLast = A /\ z0s l = e.kind /\ z52 l = e.args := by
  obtain ⟨x, hx, hg⟩ := zv5 hne
  have e : l = l.dropLast ++ [x] := by
    have := List.dropLast_concat_getLast hne
    rw [List.getLast?_eq_some_getLast hne] at hg
    rw [Option.some.inj hg] at this
    exact this.symm
  exact ⟨l.dropLast, x, e, rfl, by unfold z0s; rw [hg], by unfold z52; rw [hg]⟩
def zv2 : List (List Nd) -> Bool
  | [a, b] => z35 a b
  | _ => false
def y5w : List (List Nd) -> Bool
  | [a] => !a.isEmpty && z2t a
  | _ => false
mutual
def fiN : Nd -> Bool
  | .mk kind _ _ _ _ _ _ ks => !(kind == 10 && zv2 ks) && !(kind == 11 && y5w ks) && fiK ks
def fiL : List Nd -> Bool
  | [] => true
  | x :: r => fiN x && fiL r
def fiK : List (List Nd) -> Bool
  | [] => true
  | l :: r => fiL l && fiK r
end
theorem y43 (x : Nd) : fiN x = (!(x.kind == 10 && zv2 x.kids) && !(x.kind == 11 && y5w x.kids) && fiK x.kids) := by cases x; simp only [fiN, Nd.kind, Nd.kids]
theorem y2e : ∀ a b : List Nd, fiL (a ++ b) = (fiL a && fiL b)
  | [], b => by simp [fiL]
  | x :: r, b => by simp only [List.cons_append, fiL, y2e r b, Bool.and_assoc]
structure TPost (u : Un) (f : Fl) (deep : Int) (w : Wh) (all' : List Int) (to : TT) (l N : List Nd) (to' : TT) : Prop where
  run : ∀ out, z1h out = false -> trR out to l = (out ++ N, to')
  good : ∀ out, z1h out = false -> gdR out to l = true
  valid : vGo u f deep w all' N = true
  ne : N ≠ []
  l12 : z0s N = 12 ↔ z0s l = 12
  l14 : z0s N = 14 ↔ z0s l = 14
  cn : ∀ k, k = 13 ∨ k = 14 -> cnL k N = cnL k l
  keys : ∀ v, v ∉ dL l -> aGet v to' = aGet v to
  fine : fiL N = true
theorem TPost.raw {u : Un} {f : Fl} {deep : Int} {w : Wh} {all' : List Int} {to to' : TT} {l N : List Nd} (h : TPost u f deep w all' to l N to') : trR [] to l = (N, to') := by
  have := h.run [] rfl; simpa using this
theorem TPost.tr {u : Un} {f : Fl} {deep : Int} {w : Wh} {all' : List Int} {to to' : TT} {l N : List Nd} (h : TPost u f deep w all' to l N to') : trL to l = (N, to') := by
  unfold trL
  rw [h.raw]
  simp only [yc5 u f N deep w all' h.valid]
def TP (u : Un) (f : Fl) (l : List Nd) : Prop := ∀ (deep : Int) (w : Wh) (all all' : List Int) (to : TT), HT f -> l ≠ [] -> (dL l).Nodup -> (∀ v ∈ dL l, all.contains v = false) -> (∀ v ∈ dL l, aGet v to = none) ->
  Rel f.types to all all' -> vGo u f deep w all l = true -> ∃ N to', TPost u f deep w all' to l N to'
structure NPost (u : Un) (f : Fl) (deep : Int) (w : Wh) (all all' : List Int) (to : TT) (x : Nd) (M : List Nd) (to' : TT) : Prop where
  run : trN to x = (M, to')
  good : gdN to x = true
  keys : ∀ v, v ∉ dN x -> aGet v to' = aGet v to
  cn : ∀ k, k = 13 ∨ k = 14 -> cnL k M = cnN k x
  fine : fiL M = true
  post : (z02 x = true /\ vGo u f deep w all' M = true /\ M ≠ [] /\ (z0s M = 12 ↔ x.kind = 12) /\ (z0s M = 14 ↔ x.kind = 14)) ∨
    (z02 x = false /\ vPre u f deep w all' M = true /\ Rel f.types to' (all ++ x.outs) (all' ++ M.flatMap Nd.outs))
theorem zl8 {u : Un} {f : Fl} {deep : Int} {w : Wh} {all all' : List Int} {to to' : TT} {x y : Nd} (hd : ¬ deep > 100) (run : trN to x = ([y], to')) (good : gdN to x = true) (keys : ∀ v, v ∉ dN x -> aGet v to' = aGet v to)
    (cn : ∀ k, k = 13 ∨ k = 14 -> cnN k y = cnN k x) (hf : fiN y = true) (hv : z3k u f deep w all' y = true) (hc : z02 y = z02 x) (hk : y.kind = x.kind) (ho : y.outs = x.outs) (hr : Rel f.types to' (all ++ x.outs) (all' ++ x.outs)) : NPost u f deep w all all' to x [y] to' := by
  refine ⟨run, good, keys, fun k h => by simp only [cnL, cn k h, Nat.add_zero], by simp only [fiL, hf, Bool.and_true], ?_⟩
  cases hx : z02 x with
  | true =>
    refine .inl ⟨rfl, ?_, by simp, by rw [z57, hk], by rw [z57, hk]⟩
    simp only [vGo, Bool.and_eq_true, hc, hx, hv]
    simp [hd]
  | false =>
    refine .inr ⟨rfl, ?_, by simpa [ho] using hr⟩
    simp only [vPre, Bool.and_eq_true, hc, hx, hv]
    simp [hd]
theorem zj5 {x : Nd} {a b : List Nd} (hk : x.kind = 10) (h : x.kids = [a, b]) : z02 x = (z2f a != 12 && z2f b != 12) := by
  unfold z02; rw [hk, h]; rfl
theorem z74 {x : Nd} {a : List Nd} (hk : x.kind = 11) (h : x.kids = [a]) : z02 x = !z10 a := by
  unfold z02; rw [hk, h]; rfl
theorem zx0 (l : List Nd) : z2f l = 12 ↔ z0s l = 12 := by
  unfold z2f z0s
  cases l.getLast? with
  | none => simp
  | some x =>
    dsimp only
    by_cases h : x.kind = 12
    ·simp [h, z0y]
    by_cases h2 : z0y x.kind = true
    ·rw [if_pos h2]
    rw [if_neg h2]
    constructor
    ·intro e; cases e
    intro e; exact absurd e h
theorem y0o {a b : List Nd} (h : z0s a = 12 ↔ z0s b = 12) : (z2f a != 12) = (z2f b != 12) := by
  have h2 := (zx0 a).trans (h.trans (zx0 b).symm)
  by_cases e : z2f a = 12
  ·rw [e, h2.1 e]
  have e2 : ¬ z2f b = 12 := fun q => e (h2.2 q)
  have a1 : (z2f a != 12) = true := bne_iff_ne.2 e
  have b1 : (z2f b != 12) = true := bne_iff_ne.2 e2
  rw [a1, b1]
theorem y8o {a b : List Nd} (h : cnL 14 a = cnL 14 b) : z10 a = z10 b := by rw [z5t, z5t, h]
theorem if_t (u : Un) (f : Fl) (x : Nd) (ih : ∀ q ∈ x.kids, TP u f q) (deep : Int) (w : Wh) (all all' : List Int) (to : TT) (hty : HT f) (hd : ¬ deep > 100) (hnd : (dN x).Nodup) (hall : ∀ v ∈ dN x, all.contains v = false) (hto : ∀ v ∈ dN x, aGet v to = none)
    (hr : Rel f.types to all all') (hv : z3k u f deep w all x = true) (h10 : x.kind = 10) : ∃ M to', NPost u f deep w all all' to x M to' := by
  have hb := z33 u f deep _ all hv
  obtain ⟨a, b, hk⟩ := z3q hb h10
  rw [z54 u f deep w all hb h10 hk] at hv
  simp only [Bool.and_eq_true] at hv
  have hdn : dN x = dL a ++ (dL b ++ x.outs) := dN_if hb h10 hk
  rw [hdn] at hnd hall hto
  obtain ⟨n1, n2, n3⟩ := List.nodup_append.1 hnd
  obtain ⟨n4, n5, n6⟩ := List.nodup_append.1 n2
  have hva := hv.1.1.1.2
  have hvb := hv.1.1.2
  simp only [z44, Bool.and_eq_true] at hva hvb
  obtain ⟨Na, to1, pa⟩ := ih a (by rw [hk]; simp) (deep + 1) (w1 w f x) all all' to hty (by intro e; subst e; simp at hva) n1 (fun v hv => hall v (by simp [hv])) (fun v hv => hto v (by simp [hv])) hr hva.2
  have hrb : Rel f.types to1 all all' := hr.congr fun v hv => pa.keys v fun hm => by
    have := hall v (by simp [hm]); rw [hv] at this; cases this
  obtain ⟨Nb, to2, pb⟩ := ih b (by rw [hk]; simp) (deep + 1) (w1 w f x) all all' to1 hty (by intro e; subst e; simp at hvb) n4 (fun v hv => hall v (by simp [hv])) (fun v hv => (pa.keys v fun hm => n3 v hm v (by simp [hv]) rfl).trans (hto v (by simp [hv]))) hrb hvb.2
  have hrc : Rel f.types to2 all all' := hrb.congr fun v hv => pb.keys v fun hm => by
    have := hall v (by simp [hm]); rw [hv] at this; cases this
  have hks : trKs to x.kids = ([Na, Nb], to2) := by
    rw [hk, z6b, pa.tr, z6b, pb.tr]; rfl
  have hgk : gdKs to x.kids = true := by
    rw [hk]
    simp only [gdKs, pa.good [] rfl, pa.raw, pb.good [] rfl, Bool.and_true]
  have hkeys : ∀ v, v ∉ dN x -> aGet v to2 = aGet v to := fun v hv => by
    rw [hdn] at hv
    simp only [List.mem_append, not_or] at hv
    rw [pb.keys v hv.2.1, pa.keys v hv.1]
  have h10b : (x.kind == 10) = true := by simp [h10]
  have h11b : (x.kind == 11) = false := by simp [h10]
  have hcx : ∀ k, k = 13 ∨ k = 14 -> cnN k x = cnL k Na + cnL k Nb := fun k hk2 => by
    rw [za0, if_neg (by rw [h10]; rcases hk2 with rfl | rfl <;> decide), if_pos h10b, hk, pa.cn k hk2, pb.cn k hk2]
    simp [cnK]
  have hrun := zt9 to x
  rw [if_neg (by simp [h11b]), if_pos h10b] at hrun
  have hkk : (trA to x).kids = x.kids := rfl
  unfold z7n at hrun
  rw [hkk, hks] at hrun
  have hgood : gdN to x = (true && true && (!z35 Na Nb || decide (x.outs.length <= (z6v Na).length))) := by
    rw [y0g, if_neg (by simp [h11b]), if_pos h10b, hgk, hks, hk]; rfl
  by_cases hid : z35 Na Nb = true
  ·rw [if_pos (show z35 (kid0 [Na, Nb]) (kid1 [Na, Nb]) = true from hid)] at hrun
   match hNa : Na, hNb : Nb, hid with
   | [ya], [yb], hid =>
     subst hNa hNb
     simp only [z35, Bool.and_eq_true, beq_iff_eq] at hid
     obtain ⟨s, hya⟩ := y8e pa.valid ya (.head _)
     have hva2 := pa.valid
     simp only [vGo, Bool.and_eq_true] at hva2
     have hty2 := (node12 hva2.1.1.2 hid.1.1).2
     have hin : inR f.types.length x.outs := z2w hv.2
     have hlen := z6d hin hty2
     have hca : cnN 13 ya = 0 /\ cnN 14 ya = 0 /\ cnN 13 yb = 0 /\ cnN 14 yb = 0 := by
       refine ⟨?_, ?_, ?_, ?_⟩ <;> (rw [za0]; simp [hid.1.1, hid.1.2])
     refine ⟨[], z0q x.outs ya.args to2, hrun, ?_, fun v hv => ?_, fun k hk2 => ?_, rfl, .inr ⟨?_, rfl, ?_⟩⟩
     ·rw [hgood]
      rw [Bool.true_and, Bool.true_and, Bool.or_eq_true]
      exact .inr (decide_eq_true (show x.outs.length <= ya.args.length by omega))
     ·rw [z51 _ _ _ v (fun hm => hv (by rw [hdn]; simp [hm]))]
      exact hkeys v hv
     ·rw [hcx k hk2]
      rcases hk2 with rfl | rfl <;> simp [cnL, hca]
     ·rw [zj5 h10 hk]
      have : z2f a = 12 := (zx0 a).2 (pa.l12.1 (by rw [z57]; exact hid.1.1))
      rw [this]; rfl
     simpa using zp4 hty hrc n5 hin hty2
  have hid2 : z35 Na Nb = false := by simpa using hid
  rw [if_neg (show ¬ z35 (kid0 [Na, Nb]) (kid1 [Na, Nb]) = true from hid)] at hrun
  have hvo : (z25 f.types x.outs (zer x.outs)) = true := hv.2
  have hcl : z02 (.mk x.kind x.op x.n x.name (x.args.map (z1o to)) x.outs x.params [Na, Nb]) = z02 x := by
    rw [zj5 h10 hk, zj5 (x := .mk x.kind x.op x.n x.name (x.args.map (z1o to)) x.outs x.params [Na, Nb]) h10 rfl, y0o pa.l12, y0o pb.l12]
  refine ⟨[.mk x.kind x.op x.n x.name (x.args.map (z1o to)) x.outs x.params [Na, Nb]], to2, zl8 hd hrun ?_ hkeys (fun k hk2 => ?_) ?_ ?_ hcl rfl rfl ?_⟩
  ·rw [hgood, hid2]; rfl
  ·rw [hcx k hk2]
   show cnN k (.mk x.kind x.op x.n x.name (x.args.map (z1o to)) x.outs x.params [Na, Nb]) = _
   unfold cnN
   rw [if_neg (by rw [h10]; rcases hk2 with rfl | rfl <;> decide), if_pos h10b]
   simp [cnK]
  ·rw [y43]
   show (!(x.kind == 10 && z35 Na Nb) && !(x.kind == 11 && false) && fiK [Na, Nb]) = true
   rw [hid2]
   simp only [fiK, pa.fine, pb.fine, Bool.and_false, Bool.and_true, Bool.not_false]
  ·have hb2 : z1a (.mk x.kind x.op x.n x.name (x.args.map (z1o to)) x.outs x.params [Na, Nb]) = true := by
     have := hb
     cases x
     simp only [Nd.kids] at hk
     subst hk
     exact this
   rw [z54 u f deep w all' hb2 h10 rfl]
   simp only [Bool.and_eq_true, z44]
   have hne : ∀ {N : List Nd}, N ≠ [] -> (!N.isEmpty) = true := fun {N} h => by cases N with | nil => exact absurd rfl h | cons _ _ => rfl
   refine ⟨⟨⟨⟨zp9 hr hv.1.1.1.1, hne pa.ne, pa.valid⟩, hne pb.ne, pb.valid⟩, ?_⟩, hvo⟩
   have := hv.1.2
   unfold z9r at this ⊢
   rw [hcl]; exact this
  exact hrc.outs fun v hv => by
    rw [pb.keys v fun hm => n6 v hm v hv rfl, pa.keys v fun hm => n3 v hm v (by simp [hv]) rfl]
    exact hto v (by simp [hv])
theorem loop_t (u : Un) (f : Fl) (x : Nd) (ih : ∀ q ∈ x.kids, TP u f q) (deep : Int) (w : Wh) (all all' : List Int) (to : TT) (hty : HT f) (hd : ¬ deep > 100) (hnd : (dN x).Nodup) (hall : ∀ v ∈ dN x, all.contains v = false) (hto : ∀ v ∈ dN x, aGet v to = none)
    (hr : Rel f.types to all all') (hv : z3k u f deep w all x = true) (h11 : x.kind = 11) : ∃ M to', NPost u f deep w all all' to x M to' := by
  have hb := z33 u f deep _ all hv
  obtain ⟨a, hk⟩ := z2e hb h11
  rw [z3g u f deep w all hb h11 hk] at hv
  simp only [Bool.and_eq_true] at hv
  have hdn : dN x = x.params ++ (dL a ++ x.outs) := y2d hk
  rw [hdn] at hnd hall hto
  obtain ⟨n1, n2, n3⟩ := List.nodup_append.1 hnd
  obtain ⟨n4, n5, n6⟩ := List.nodup_append.1 n2
  have hva := hv.1.1.2
  simp only [z44, Bool.and_eq_true] at hva
  have hne : a ≠ [] := by intro e; subst e; simp at hva
  have hinp : inR f.types.length x.params := z2w hv.1.1.1.2
  have hino : inR f.types.length x.outs := z2w hv.2
  have htp : z04 f.types all' (x.args.map (z1o to)) (r8of f.types x.params) = true := zp9 hr hv.1.1.1.1
  have hpl : x.args.length = x.params.length := z6d hinp hv.1.1.1.1
  have h11b : (x.kind == 11) = true := by simp [h11]
  have h10b : (x.kind == 10) = false := by simp [h11]
  have hda : ∀ v ∈ dL a, (all ++ x.params).contains v = false := fun v hm => by
    rw [List.contains_append, hall v (by simp [hm]), Bool.false_or, <- Bool.not_eq_true, List.contains_iff_mem]
    exact fun hp => n3 v hp v (by simp [hm]) rfl
  have hcx : ∀ k, k = 13 ∨ k = 14 -> cnN k x = 0 := fun k hk2 => by
    rw [za0, if_neg (by rw [h11]; rcases hk2 with rfl | rfl <;> decide), if_neg (by simp [h10b])]
  have hrun := zt9 to x
  rw [if_pos h11b] at hrun
  unfold z9i at hrun
  rw [show (trA to x).kids = x.kids from rfl, show (trA to x).params = x.params from rfl, show (trA to x).outs = x.outs from rfl, show (trA to x).args = x.args.map (z1o to) from rfl, hk] at hrun
  have hgood := y0g to x
  rw [if_pos h11b, hk, show (trA to x).args = x.args.map (z1o to) from rfl] at hgood
  have hpd : decide (x.params.length <= x.args.length) = true := decide_eq_true oM0
  rw [hpd] at hgood
  by_cases ho : z2t a = true
  ·rw [if_pos (show z2t (kid0 [a]) = true from ho)] at hrun hgood
   have hr1 : Rel f.types (z0q x.params (x.args.map (z1o to)) to) (all ++ x.params) all' := zp4 hty hr n1 hinp htp
   obtain ⟨Na, to2, pa⟩ := ih a (by rw [hk]; simp) (deep + 1) (w2 f x) (all ++ x.params) all' (z0q x.params (x.args.map (z1o to)) to) hty hne n4 hda
     (fun v hm => (z51 _ _ _ v fun hp => n3 v hp v (by simp [hm]) rfl).trans (hto v (by simp [hm]))) hr1 hva.2
   have hks : trKs (z0q x.params (x.args.map (z1o to)) to) [a] = ([Na], to2) := by rw [z6b, pa.tr]; rfl
   have hgk : gdKs (z0q x.params (x.args.map (z1o to)) to) [a] = true := by simp only [gdKs, pa.good [] rfl, Bool.and_true]
   rw [hks] at hrun hgood
   rw [hgk] at hgood
   have hkeys : ∀ v, v ∉ x.params -> v ∉ dL a -> aGet v to2 = aGet v to := fun v h1 h2 => by rw [pa.keys v h2, z51 _ _ _ v h1]
   have hr2 : Rel f.types to2 all all' := hr.congr fun v hv => hkeys v (fun hm => by have := hall v (by simp [hm]); rw [hv] at this; cases this) fun hm => by
     have := hall v (by simp [hm]); rw [hv] at this; cases this
   simp only [z2t, Bool.and_eq_true, Bool.or_eq_true, beq_iff_eq] at ho
   have c13 : cnL 13 Na = 0 := by rw [pa.cn 13 (.inl rfl)]; exact ho.1
   have hnb : (!(kid0 ([Na], to2).1).isEmpty) = true := by
     show (!Na.isEmpty) = true
     cases hN : Na with
     | nil => exact absurd hN pa.ne
     | cons _ _ => rfl
   rw [hnb] at hgood
   by_cases hl : z0s Na = 14
   ·have hlb : (z0s (kid0 ([Na], to2).1) == 14) = true := by show (z0s Na == 14) = true; simp [hl]
    rw [if_pos hlb] at hrun
    obtain ⟨A, e, hA, hA2, hA3, hA4⟩ := zd6 pa.ne
    have hla := pa.l14.1 hl
    have h1 := y2n (.inr rfl) hla
    have c14 : cnL 14 a = 1 := by omega
    have hek : e.kind = 14 := by rw [<- hA3]; exact hl
    have ce : cnN 14 e = 1 := by rw [za0]; simp [hek]
    have cA : cnL 14 A = 0 := by
      have h2 := pa.cn 14 (.inr rfl)
      rw [hA, z75] at h2
      simp only [cnL, ce] at h2
      omega
    have cA13 : cnL 13 A = 0 := by
      rw [hA, z75] at c13
      omega
    have hsp := pa.valid
    rw [hA] at hsp
    obtain ⟨s1, s2⟩ := y48 hsp
    have hte := node14 s2 hek
    have hlen := z6d hino hte
    have hfA : fiL A = true := by
      have := pa.fine
      rw [hA, y2e, Bool.and_eq_true] at this
      exact this.1
    refine ⟨A, z0q x.outs e.args to2, ?_, ?_, fun v hv => ?_, fun k hk2 => ?_, hfA, .inr ⟨?_, ?_, ?_⟩⟩
    ·rw [hrun]
     show (Na.dropLast, z0q x.outs (z52 Na) to2) = _
     rw [hA2, hA4]
    ·rw [hgood]
     have hlb2 : (z0s (kid0 ([Na], to2).1) != 14) = false := by rw [bne, hlb]; rfl
     rw [hlb2]
     simp only [List.length_cons, List.length_nil, Bool.false_or, Bool.true_and]
     exact decide_eq_true (show x.outs.length <= (z52 Na).length by rw [hA4]; omega)
    ·rw [hdn] at hv
     simp only [List.mem_append, not_or] at hv
     rw [z51 _ _ _ v hv.2.2]
     exact hkeys v hv.1 hv.2.1
    ·rw [hcx k hk2]
     rcases hk2 with rfl | rfl
     ·exact cA13
     exact cA
    ·rw [z74 h11 hk, z5t, c14]; rfl
    ·exact y99 u f A (deep + 1) deep (w2 f x) w all' oM0 (.inl cA13) (.inl cA) s1
    exact zp4 hty (hr2.mono _) n5 hino hte
   have hlb : (z0s (kid0 ([Na], to2).1) == 14) = false := by show (z0s Na == 14) = false; simp [hl]
   rw [if_neg (by rw [hlb]; simp)] at hrun
   have hla : z0s a ≠ 14 := fun h => hl (pa.l14.2 h)
   have c14 : cnL 14 a = 0 := by
     rcases ho.2 with h | h
     ·exact h
     exact absurd h.2 hla
   have c14' : cnL 14 Na = 0 := by rw [pa.cn 14 (.inr rfl)]; exact c14
   have hno := no12 (w := w2 f x) rfl pa.valid
   obtain ⟨A, e, hA, hA2, hA3, hA4⟩ := zd6 pa.ne
   refine ⟨Na, to2, hrun, ?_, fun v hv => ?_, fun k hk2 => ?_, pa.fine, .inl ⟨?_, ?_, pa.ne, ⟨fun h => ?_, fun h => ?_⟩, ⟨fun h => absurd h hl, fun h => ?_⟩⟩⟩
   ·rw [hgood]
    have hlb2 : (z0s (kid0 ([Na], to2).1) != 14) = true := by rw [bne, hlb]; rfl
    rw [hlb2]; rfl
   ·rw [hdn] at hv
    simp only [List.mem_append, not_or] at hv
    exact hkeys v hv.1 hv.2.1
   ·rw [hcx k hk2]
    rcases hk2 with rfl | rfl
    ·exact c13
    exact c14'
   ·rw [z74 h11 hk, z5t, c14]; rfl
   ·exact y0h u f Na (deep + 1) deep (w2 f x) w all' oM0 (fun y hy e => absurd e (hno y hy)) (.inl c13) (.inl c14') pa.valid
   ·rw [hA3] at h
    exact absurd h (hno e (by rw [hA]; simp))
   ·rw [h11] at h; cases h
   rw [h11] at h; cases h
  rw [if_neg (show ¬ z2t (kid0 [a]) = true from ho)] at hrun hgood
  have hrp : Rel f.types to (all ++ x.params) (all' ++ x.params) := hr.outs fun v hv => hto v (by simp [hv])
  obtain ⟨Na, to2, pa⟩ := ih a (by rw [hk]; simp) (deep + 1) (w2 f x) (all ++ x.params) (all' ++ x.params) to hty hne n4 hda (fun v hm => hto v (by simp [hm])) hrp hva.2
  have hks : trKs to [a] = ([Na], to2) := by rw [z6b, pa.tr]; rfl
  have hgk : gdKs to [a] = true := by simp only [gdKs, pa.good [] rfl, Bool.and_true]
  rw [hks] at hrun
  rw [hgk] at hgood
  have hr2 : Rel f.types to2 all all' := hr.congr fun v hv => pa.keys v fun hm => by
    have := hall v (by simp [hm]); rw [hv] at this; cases this
  have hcl : z02 (.mk x.kind x.op x.n x.name (x.args.map (z1o to)) x.outs x.params [Na]) = z02 x := by
    rw [z74 h11 hk, z74 (x := .mk x.kind x.op x.n x.name (x.args.map (z1o to)) x.outs x.params [Na]) h11 rfl, y8o (pa.cn 14 (.inr rfl))]
  refine ⟨[.mk x.kind x.op x.n x.name (x.args.map (z1o to)) x.outs x.params [Na]], to2, zl8 hd hrun (by rw [hgood]; rfl) (fun v hv => ?_) (fun k hk2 => ?_) ?_ ?_ hcl rfl rfl ?_⟩
  ·rw [hdn] at hv
   simp only [List.mem_append, not_or] at hv
   exact pa.keys v hv.2.1
  ·rw [hcx k hk2]
   show cnN k (.mk x.kind x.op x.n x.name (x.args.map (z1o to)) x.outs x.params [Na]) = _
   unfold cnN
   rw [if_neg (by rw [h11]; rcases hk2 with rfl | rfl <;> decide), if_neg (by simp [h10b])]
  ·have hoN : z2t Na = false := by
     have : z2t Na = z2t a := by
       unfold z2t
       rw [pa.cn 13 (.inl rfl), pa.cn 14 (.inr rfl)]
       by_cases h : z0s Na = 14
       ·rw [h, pa.l14.1 h]
       have h2 : ¬ z0s a = 14 := fun q => h (pa.l14.2 q)
       rw [beq_eq_false_iff_ne.2 h, beq_eq_false_iff_ne.2 h2]
     rw [this]; simpa using ho
   rw [y43]
   show (!(x.kind == 10 && false) && !(x.kind == 11 && (!Na.isEmpty && z2t Na)) && fiK [Na]) = true
   rw [hoN]
   simp only [fiK, pa.fine, Bool.and_false, Bool.and_true, Bool.not_false]
  ·have hb2 : z1a (.mk x.kind x.op x.n x.name (x.args.map (z1o to)) x.outs x.params [Na]) = true := by
     have := hb
     cases x
     simp only [Nd.kids] at hk
     subst hk
     exact this
   rw [z3g u f deep w all' hb2 h11 rfl]
   simp only [Bool.and_eq_true, z44]
   have hnb : (!Na.isEmpty) = true := by
     cases hN : Na with
     | nil => exact absurd hN pa.ne
     | cons _ _ => rfl
   refine ⟨⟨⟨⟨htp, hv.1.1.1.2⟩, hnb, pa.valid⟩, ?_⟩, hv.2⟩
   have := hv.1.2
   unfold z9r at this ⊢
   rw [hcl]; exact this
  exact hr2.outs fun v hv => by
    rw [pa.keys v fun hm => n6 v hm v hv rfl]
    exact hto v (by simp [hv])
theorem node_t (u : Un) (f : Fl) (x : Nd) (ih : ∀ q ∈ x.kids, TP u f q) (deep : Int) (w : Wh) (all all' : List Int) (to : TT) (hty : HT f) (hd : ¬ deep > 100) (hnd : (dN x).Nodup) (hall : ∀ v ∈ dN x, all.contains v = false) (hto : ∀ v ∈ dN x, aGet v to = none)
    (hr : Rel f.types to all all') (hv : z3k u f deep w all x = true) : ∃ M to', NPost u f deep w all all' to x M to' := by
  by_cases h10 : x.kind = 10
  ·exact if_t u f x ih deep w all all' to hty hd hnd hall hto hr hv h10
  by_cases h11 : x.kind = 11
  ·exact loop_t u f x ih deep w all all' to hty hd hnd hall hto hr hv h11
  have hb := z33 u f deep _ all hv
  have e10 : (x.kind == 10) = false := by simpa using h10
  have e11 : (x.kind == 11) = false := by simpa using h11
  rw [z2a u f deep w all hb e10 e11] at hv
  have hrun := zt9 to x
  rw [if_neg (by simp [e11]), if_neg (by simp [e10])] at hrun
  have hgood := y0g to x
  rw [if_neg (by simp [e11]), if_neg (by simp [e10])] at hgood
  have hb2 : z1a (trA to x) = true := by cases x; exact hb
  have hfi : fiN (trA to x) = true := by
    rw [y43, show (trA to x).kind = x.kind from rfl, show (trA to x).kids = x.kids from rfl, e10, e11, z8s hb e10 e11]; rfl
  refine ⟨_, _, zl8 hd hrun hgood (fun _ _ => rfl) (fun k _ => by cases x; rfl) hfi ?_ (by cases x; rfl) rfl rfl (hr.outs fun v hv => hto v (by rw [y01]; simp [hv]))⟩
  rw [z2a u f deep w all' hb2 e10 e11]
  exact yb3 (x := x) rfl rfl rfl rfl rfl hr hv
theorem go_t (u : Un) (f : Fl) : ∀ (l : List Nd), (∀ x ∈ l, ∀ q ∈ x.kids, TP u f q) -> TP u f l
  | [], _ => fun _ _ _ _ _ _ h => absurd rfl h
  | [x], ih => fun deep w all all' to hty _ hnd hall hto hr hv => by
    simp only [vGo, Bool.and_eq_true, beq_iff_eq, List.isEmpty_nil] at hv
    have hd : ¬ deep > 100 := by simpa using hv.1.1.1
    have hdl : dL [x] = dN x := by simp [dL]
    rw [hdl] at hnd hall hto
    obtain ⟨M, to', p⟩ := node_t u f x (ih x (.head _)) deep w all all' to hty hd hnd hall hto hr hv.1.1.2
    rcases p.post with ⟨c1, c2, c3, c4, c5⟩ | ⟨c1, _⟩
    ·refine ⟨M, to', ⟨fun out ho => ?_, fun out ho => ?_, c2, c3, c4.trans (by rw [z57]), c5.trans (by rw [z57]), fun k hk => by rw [p.cn k hk]; simp [cnL], fun v hv => p.keys v (by rwa [hdl] at hv), p.fine⟩⟩
     ·simp only [trR, p.run]
      split <;> rfl
     simp only [gdR, p.good, Bool.or_true, Bool.and_true]
    rw [hv.1.2] at c1; cases c1
  | x :: y :: r, ih => fun deep w all all' to hty _ hnd hall hto hr hv => by
    unfold vGo at hv
    simp only [Bool.and_eq_true, beq_iff_eq, List.isEmpty_cons] at hv
    have hd : ¬ deep > 100 := by simpa using hv.1.1.1
    have hdl : dL (x :: y :: r) = dN x ++ dL (y :: r) := by rw [dL]
    rw [hdl] at hnd hall hto
    obtain ⟨n1, n2, n3⟩ := List.nodup_append.1 hnd
    obtain ⟨M, to', p⟩ := node_t u f x (ih x (.head _)) deep w all all' to hty hd n1 (fun v hv => hall v (by simp [hv])) (fun v hv => hto v (by simp [hv])) hr hv.1.1.2
    rcases p.post with ⟨c1, _⟩ | ⟨c1, c2, c3⟩
    ·rw [hv.1.2] at c1; cases c1
    obtain ⟨N, to2, q⟩ := go_t u f (y :: r) (fun z hz => ih z (.tail _ hz)) deep w (all ++ x.outs) (all' ++ M.flatMap Nd.outs) to' hty sI0 n2 (fun v hm => by
      rw [List.contains_append, hall v (by simp [hm]), Bool.false_or, <- Bool.not_eq_true, List.contains_iff_mem]
      exact fun ho => n3 v (by rw [y01]; simp [ho]) v hm rfl) (fun v hm => (p.keys v fun hn => n3 v hn v hm rfl).trans (hto v (by simp [hm]))) c3 hv.2
    have hop : ∀ out, z1h out = false -> z1h (out ++ (trN to x).1) = false := fun out ho => by rw [p.run]; exact pre_open c2 ho
    refine ⟨M ++ N, to2, ⟨fun out ho => ?_, fun out ho => ?_, go_app u f deep w M N all' q.ne c2 q.valid, fun e => q.ne (List.append_eq_nil_iff.1 e).2, ?_, ?_, fun k hk => ?_, fun v hv => ?_, by rw [y2e, p.fine, q.fine]; rfl⟩⟩
    ·have h1 := hop out ho
     rw [trR, if_neg (by rw [h1]; simp), p.run]
     rw [p.run] at h1
     rw [q.run _ h1, List.append_assoc]
    ·have h1 := hop out ho
     rw [gdR, p.good, Bool.true_and, h1, Bool.false_or]
     rw [p.run] at h1 ⊢
     exact q.good _ h1
    ·rw [z6l q.ne, show x :: y :: r = [x] ++ (y :: r) from rfl, z6l sI0]; exact q.l12
    ·rw [z6l q.ne, show x :: y :: r = [x] ++ (y :: r) from rfl, z6l sI0]; exact q.l14
    ·rw [z75, p.cn k hk, q.cn k hk]; simp [cnL]
    rw [hdl] at hv
    simp only [List.mem_append, not_or] at hv
    rw [q.keys v hv.2, p.keys v hv.1]
theorem tp_all (u : Un) (f : Fl) : ∀ (N : Nat) (l : List Nd), SizeOf.sizeOf l < N -> TP u f l
  | 0, _, h => absurd h (Nat.not_lt_zero _)
  | N + 1, l, hN => go_t u f l fun x hx q hq => tp_all u f N q (Nat.lt_of_lt_of_le (z61 hx rfl hq) (Nat.le_of_lt_succ hN))
theorem flow_ht {u : Un} {f : Fl} (h : z2s u f = true) : HT f := fun v h0 h1 => by
  unfold z2s at h
  simp only [Bool.and_eq_true] at h
  have ht := h.1.2
  rw [List.all_eq_true] at ht
  have hlt : v.toNat < f.types.length := by omega
  have := ht (f.types[v.toNat]) (List.getElem_mem hlt)
  rw [List.getD_eq_getElem?_getD, List.getElem?_eq_getElem hlt]
  simp only [Option.getD_some]
  intro e
  rw [e] at this
  simp at this
theorem zj4 {u : Un} {f : Fl} (hF : z2s u f = true) : ∃ N to', TPost u f 1 z1z (iota f.params.toNat) [] f.body N to' := by
  have h := zk5 hF
  have hp := z9l hF
  have hv := h.1
  simp only [z44, Bool.and_eq_true] at hv
  exact tp_all u f _ f.body (Nat.lt_succ_self _) 1 z1z (iota f.params.toNat) (iota f.params.toNat) [] (flow_ht hF) (by intro e; rw [e] at hv; simp at hv) h.2.1 (fun v hm => by
    have := h.2.2 v hm
    cases hc : (iota f.params.toNat).contains v with
    | false => rfl
    | true => rw [y2f hp hc] at this; cases this) (fun _ _ => rfl) (fun v hv v0 v1 => ⟨hv, v0, v1, rfl⟩) hv.2
theorem y5q (x : Nd) : List.Sublist (dN (z7q x)) (dN x) := by
  unfold z7q
  split
  ·rw [y01, y01]
   exact (List.Sublist.refl _).append ((List.Sublist.refl _).append (List.nil_sublist _))
  exact .refl _
mutual
theorem yc4 : ∀ x : Nd, List.Sublist (dN (tdN x)) (dN x)
  | .mk kind op n name args outs params ks => by
    unfold tdN
    refine (y5q _).trans ?_
    simp only [dN]
    exact (List.Sublist.refl _).append ((yc3 ks).append (List.Sublist.refl _))
theorem zy4 : ∀ l : List Nd, List.Sublist (dL (tdL l)) (dL l)
  | [] => .refl _
  | x :: r => by
    unfold tdL
    split
    ·simp only [dL, List.append_nil]
     exact (yc4 x).trans (List.sublist_append_left _ _)
    simp only [dL]
    exact (yc4 x).append (zy4 r)
theorem yc3 : ∀ ks : List (List Nd), List.Sublist (dK (tdK ks)) (dK ks)
  | [] => .refl _
  | l :: r => by
    simp only [tdK, dK]
    exact (zy4 l).append (yc3 r)
end
theorem kid0_sub : ∀ K : List (List Nd), List.Sublist (dL (kid0 K)) (dK K)
  | [] => by simp [kid0, dL, dK]
  | l :: r => by simp only [kid0, dK, List.getElem?_cons_zero, Option.getD_some]; exact List.sublist_append_left _ _
theorem zf6 : ∀ l : List Nd, List.Sublist (dL l.dropLast) (dL l)
  | [] => .refl _
  | [x] => List.nil_sublist _
  | x :: y :: r => by
    rw [List.dropLast_cons_cons]
    simp only [dL]
    exact (List.Sublist.refl _).append (zf6 (y :: r))
mutual
theorem trN_sub : ∀ (x : Nd) (to : TT), List.Sublist (dL (trN to x).1) (dN x)
  | .mk kind op n name args outs params ks, to => by
    have one : ∀ K : List (List Nd), List.Sublist (dK K) (dK ks) -> List.Sublist (dL [.mk kind op n name (args.map (z1o to)) outs params K]) (dN (.mk kind op n name args outs params ks)) := fun K h => by
      simp only [dL, dN, List.append_nil]
      exact (List.Sublist.refl _).append (h.append (List.Sublist.refl _))
    have inn : ∀ L : List Nd, List.Sublist (dL L) (dK ks) -> List.Sublist (dL L) (dN (.mk kind op n name args outs params ks)) := fun L h => by
      simp only [dN]
      exact (h.trans (List.sublist_append_left _ _)).trans (List.sublist_append_right _ _)
    unfold trN
    split
    ·split
     ·have h := (kid0_sub _).trans (zi6 ks (z0q params (args.map (z1o to)) to))
      split
      ·exact inn _ ((zf6 _).trans h)
      exact inn _ h
     exact one _ (zi6 ks to)
    split
    ·split
     ·exact List.nil_sublist _
     exact one _ (zi6 ks to)
    exact one _ (.refl _)
theorem y3l : ∀ (l out : List Nd) (to : TT), List.Sublist (dL (trR out to l).1) (dL out ++ dL l)
  | [], out, to => by simp [trR, dL]
  | x :: r, out, to => by
    have h1 := trN_sub x to
    unfold trR
    split
    ·simp only [y7s, dL]
     exact (List.Sublist.refl _).append (h1.trans (List.sublist_append_left _ _))
    refine (y3l r _ _).trans ?_
    simp only [y7s, dL, List.append_assoc]
    exact (List.Sublist.refl _).append (h1.append (List.Sublist.refl _))
theorem zi6 : ∀ (ks : List (List Nd)) (to : TT), List.Sublist (dK (trKs to ks).1) (dK ks)
  | [], _ => by simp [trKs, dK]
  | l :: r, to => by
    have h := (zy4 (trR [] to l).1).trans (y3l l [] to)
    simp only [trKs, dK]
    exact (by simpa [dL] using h : List.Sublist _ (dL l)).append (zi6 r _)
end
mutual
theorem wt_tdN : ∀ x : Nd, wtN (tdN x) <= wtN x
  | .mk kind op n name args outs params ks => by
    have hk := wt_tdK ks
    unfold tdN z7q
    split
    ·simp only [wtN, Nd.name, Nd.args, Nd.params, Nd.kids, List.length_nil]; omega
    simp only [wtN]; omega
theorem y24 : ∀ l : List Nd, (tdL l).length + wtL (tdL l) <= l.length + wtL l
  | [] => Nat.le_refl _
  | x :: r => by
    have h1 := wt_tdN x
    have h2 := y24 r
    unfold tdL
    split
    ·simp only [List.length_cons, List.length_nil, wtL]; omega
    simp only [List.length_cons, wtL]; omega
theorem wt_tdK : ∀ ks : List (List Nd), wtK (tdK ks) <= wtK ks
  | [] => Nat.le_refl _
  | l :: r => by
    have h1 := y24 l
    have h2 := wt_tdK r
    simp only [tdK, wtK]; omega
end
theorem wt_kid0 : ∀ K : List (List Nd), (kid0 K).length + wtL (kid0 K) <= wtK K
  | [] => by simp [kid0, wtL, wtK]
  | l :: r => by simp only [kid0, wtK, List.getElem?_cons_zero, Option.getD_some]; omega
theorem zq3 : ∀ l : List Nd, l.dropLast.length + wtL l.dropLast <= l.length + wtL l
  | [] => Nat.le_refl _
  | [x] => by simp [wtL]
  | x :: y :: r => by
    have h := zq3 (y :: r)
    rw [List.dropLast_cons_cons]
    simp only [List.length_cons, wtL] at h ⊢
    omega
mutual
theorem wt_trN : ∀ (x : Nd) (to : TT), (trN to x).1.length + wtL (trN to x).1 <= 1 + wtN x
  | .mk kind op n name args outs params ks, to => by
    unfold trN
    split
    ·split
     ·have h1 := zz7 ks (z0q params (args.map (z1o to)) to)
      have h2 := wt_kid0 (trKs (z0q params (args.map (z1o to)) to) ks).1
      have h3 := zq3 (kid0 (trKs (z0q params (args.map (z1o to)) to) ks).1)
      split
      ·simp only [wtN]; omega
      simp only [wtN]; omega
     have h1 := zz7 ks to
     simp only [wtL, wtN, List.length_cons, List.length_nil, List.length_map]; omega
    split
    ·split
     ·simp [wtL]
     have h1 := zz7 ks to
     simp only [wtL, wtN, List.length_cons, List.length_nil, List.length_map]; omega
    simp only [wtL, wtN, List.length_cons, List.length_nil, List.length_map]; omega
theorem y53 : ∀ (l out : List Nd) (to : TT), (trR out to l).1.length + wtL (trR out to l).1 <= out.length + wtL out + (l.length + wtL l)
  | [], out, to => by simp [trR, wtL]
  | x :: r, out, to => by
    have h1 := wt_trN x to
    have h2 := y53 r (out ++ (trN to x).1) (trN to x).2
    rw [List.length_append, z7o] at h2
    unfold trR
    split
    ·simp only [List.length_append, z7o, List.length_cons, wtL]; omega
    simp only [List.length_cons, wtL]; omega
theorem zz7 : ∀ (ks : List (List Nd)) (to : TT), wtK (trKs to ks).1 <= wtK ks
  | [], _ => by simp [trKs]
  | l :: r, to => by
    have h1 := y53 l [] to
    have h2 := y24 (trR [] to l).1
    have h3 := zz7 r (trR [] to l).2
    simp only [List.length_nil, wtL] at h1
    simp only [trKs, wtK]
    omega
end
theorem y5r (l : List Nd) : z3r (trB l) <= z3r l := by
  have h1 := y53 l [] []
  have h2 := y24 (trR [] [] l).1
  simp only [List.length_nil, wtL] at h1
  unfold z3r trB trL
  dsimp only
  omega
mutual
theorem y3k (u : Un) (f : Fl) : ∀ (x : Nd) (deep : Int) (w : Wh) (all : List Int), z3k u f deep w all x = true -> zy6 x = true
  | .mk kind op n name args outs params ks, deep, w, all, hv => by
    have hb := z33 u f deep _ all hv
    by_cases h10 : kind = 10
    ·obtain ⟨a, b, hk⟩ := z3q hb h10
     rw [z54 u f deep _ all hb h10 hk] at hv
     simp only [Bool.and_eq_true, z44] at hv
     simp only [Nd.kids] at hk
     match ks, hk with
     | [a', b'], hk =>
       cases hk
       subst h10
       simp only [zy6, y1u, Bool.and_eq_true, Bool.and_true]
       exact ⟨⟨rfl, rfl⟩, ⟨hv.1.1.1.2.1, z6c u f a _ _ _ hv.1.1.1.2.2⟩, hv.1.1.2.1, z6c u f b _ _ _ hv.1.1.2.2⟩
    by_cases h11 : kind = 11
    ·obtain ⟨a, hk⟩ := z2e hb h11
     rw [z3g u f deep _ all hb h11 hk] at hv
     simp only [Bool.and_eq_true, z44] at hv
     have hpl : args.length = params.length := z6d (z2w hv.1.1.1.2) hv.1.1.1.1
     simp only [Nd.kids] at hk
     match ks, hk with
     | [a'], hk =>
       cases hk
       subst h11
       simp only [zy6, y1u, Bool.and_eq_true, Bool.and_true]
       exact ⟨⟨rfl, by rw [hpl]; simp⟩, hv.1.1.2.1, z6c u f a _ _ _ hv.1.1.2.2⟩
    have e10 : (kind == 10) = false := by simpa using h10
    have e11 : (kind == 11) = false := by simpa using h11
    have hk0 : ks = [] := z8s hb e10 e11
    subst hk0
    simp only [zy6, y1u, bne, e10, e11, Bool.not_false, Bool.true_or, Bool.and_true]
theorem z6c (u : Un) (f : Fl) : ∀ (l : List Nd) (deep : Int) (w : Wh) (all : List Int), vGo u f deep w all l = true -> zh2 l = true
  | [], _, _, _, _ => rfl
  | x :: r, deep, w, all, hv => by
    simp only [vGo, Bool.and_eq_true] at hv
    simp only [zh2, Bool.and_eq_true]
    exact ⟨y3k u f x deep w all hv.1.1.2, z6c u f r deep w _ hv.2⟩
end
def trGood (l : List Nd) : Prop := zh2 l = true /\ gdR [] [] l = true
theorem y6u {u : Un} (h : (z50 u).1 = 0) : ∀ f ∈ u.flows, trGood f.body := by
  rw [zf0] at h
  intro f hf
  have hF := ((z85 u).1 h).2 f hf
  have hb := (zk5 hF).1
  simp only [z44, Bool.and_eq_true] at hb
  obtain ⟨N, to', p⟩ := zj4 hF
  exact ⟨z6c u f f.body 1 _ _ hb.2, p.good [] rfl⟩
theorem zr3 {u : Un} (h : (z2q u).1 = 0) : z2q (z3o trB u) = (0, 0) :=
  check_m trB h fun f hf hB => by
    obtain ⟨N, to', p⟩ := zj4 (((z85 u).1 h).2 f hf)
    have e : trB f.body = N := by unfold trB; rw [p.tr]
    refine ⟨?_, ?_⟩
    ·rw [e]
     simp only [z44, Bool.and_eq_true]
     refine ⟨?_, p.valid⟩
     cases hN : N with
     | nil => exact absurd hN p.ne
     | cons _ _ => rfl
    have hs : List.Sublist (dL (trB f.body)) (dL f.body) := by
      have := (zy4 (trR [] [] f.body).1).trans (y3l f.body [] [])
      show List.Sublist (dL (tdL (trR [] [] f.body).1)) (dL f.body)
      simpa [dL] using this
    exact ⟨hB.2.1.sublist hs, fun v hv => hB.2.2 v (hs.subset hv)⟩
def y1t (u : Un) : Bool := u.flows.all fun f => fiL f.body
theorem y62 (u : Un) : y1t (z64 trB u).1 = true := by
  by_cases h : (z2q u).1 = 0
  ·rw [z4y trB h]
   unfold y1t
   rw [List.all_eq_true]
   intro g hg
   obtain ⟨f, hf, rfl⟩ := List.mem_map.1 (show g ∈ u.flows.map (z4t trB) from hg)
   obtain ⟨N, to', p⟩ := zj4 (((z85 u).1 h).2 f hf)
   have e : trB f.body = N := by unfold trB; rw [p.tr]
   show fiL (trB f.body) = true
   rw [e]; exact p.fine
  rw [zt0 trB h]
  rfl
def tM (to : TT) : List (Nat × HO) := [(3001, .map (inEs to))]
abbrev wV : IV := .agg [.mp 3001]
def y47 (to : TT) (x : Nd) : Bool := x.kids.length == 1 && decide (x.params.length <= x.args.length) &&
  (if z2t (kid0 x.kids) then gdKs (z0q x.params x.args to) x.kids && !(kid0 (trKs (z0q x.params x.args to) x.kids).1).isEmpty &&
      (z0s (kid0 (trKs (z0q x.params x.args to) x.kids).1) != 14 || decide (x.outs.length <= (z52 (kid0 (trKs (z0q x.params x.args to) x.kids).1)).length))
    else gdKs to x.kids)
def zv1 (to : TT) (x : Nd) : Bool := x.kids.length == 2 && gdKs to x.kids && (!z35 (kid0 (trKs to x.kids).1) (kid1 (trKs to x.kids).1) || decide (x.outs.length <= (z6v (kid0 (trKs to x.kids).1)).length))
theorem gdN_loop {to : TT} {x : Nd} (h : x.kind = 11) : gdN to x = y47 to (trA to x) := by
  rw [y0g, if_pos (by simp [h])]
  unfold y47
  have : (trA to x).args.length = x.args.length := List.length_map _
  rw [this]
  rfl
theorem y5e {to : TT} {x : Nd} (h : x.kind = 10) : gdN to x = zv1 to (trA to x) := by
  rw [y0g, if_neg (by simp [h]), if_pos (by simp [h])]
  rfl
theorem trN_loop {to : TT} {x : Nd} (h : x.kind = 11) : trN to x = z9i to (trA to x) := by rw [zt9, if_pos (by simp [h])]
theorem y6s {to : TT} {x : Nd} (h : x.kind = 10) : trN to x = z7n to (trA to x) := by rw [zt9, if_neg (by simp [h]), if_pos (by simp [h])]
theorem yc6 {to : TT} {x : Nd} (h10 : (x.kind == 10) = false) (h11 : (x.kind == 11) = false) : trN to x = ([trA to x], to) := by rw [zt9, if_neg (by simp [h11]), if_neg (by simp [h10])]
theorem zy5 (to : TT) (a : List Nd) : trKs to [a] = ([(trL to a).1], (trL to a).2) := by rw [z6b]; rfl
theorem trKs_two (to : TT) (a b : List Nd) : trKs to [a, b] = ([(trL to a).1, (trL (trL to a).2 b).1], (trL (trL to a).2 b).2) := by rw [z6b, z6b]; rfl
mutual
theorem cnN_wt (k : Int) : ∀ x : Nd, cnN k x <= 1 + wtN x
  | .mk kind op n name args outs params ks => by
    have h := cnK_wt k ks
    simp only [cnN, wtN]
    split <;> split <;> omega
theorem y41 (k : Int) : ∀ l : List Nd, cnL k l <= l.length + wtL l
  | [] => Nat.le_refl _
  | x :: r => by
    have h1 := cnN_wt k x
    have h2 := y41 k r
    simp only [cnL, wtL, List.length_cons]; omega
theorem cnK_wt (k : Int) : ∀ ks : List (List Nd), cnK k ks <= wtK ks
  | [] => Nat.le_refl _
  | l :: r => by
    have h1 := y41 k l
    have h2 := cnK_wt k r
    simp only [cnK, wtK]; omega
end
theorem zu1 : ∀ {l : List Nd} {x : Nd}, x ∈ l -> 1 + wtN x <= l.length + wtL l
  | y :: r, x, h => by
    simp only [wtL, List.length_cons]
    rcases List.mem_cons.1 h with rfl | h
    · omega
    · have := zu1 h; omega
theorem zq4 : ∀ {ks : List (List Nd)} {q : List Nd}, q ∈ ks -> q.length + wtL q + 1 <= wtK ks
  | y :: r, q, h => by
    simp only [wtK]
    rcases List.mem_cons.1 h with rfl | h
    · omega
    · have := zq4 h; omega
theorem z8r (x : Nd) : x.args.length <= wtN x /\ x.outs.length <= wtN x /\ wtK x.kids <= wtN x := by rw [y51]; omega
theorem z1e (u : Un) (f : Fl) (set : List Bool) (l want : List Int) (hs : set.length = f.types.length) : SC Tryz.prog 103 [.ptr 3 0, .pv (ints l), .pv (ints want)] (ckHp u f 4 set) (fun k => k = 3) (iBool (z0i f.types set l want).1) (ckHp u f 4 (z0i f.types set l want).2) := by
  refine SC.of Tryz.func103 rfl (lb rfl) fun F ρ w => ?_
  refine Tr.lenOf (t := 1) rfl (fun hl => ?_)
  simp only [List.length_map] at hl
  refine Tr.lenOf (t := 2) rfl (fun hl3 => ?_)
  simp only [List.length_map] at hl3
  refine tQ <| tG <| sm 1 rfl <| nL <| tQ <| tQ <| tG <| sm 1 rfl <| cV rfl (oSm uT35 rfl) <| sm 1 rfl <| cV rfl (oSm uT35 rfl) <| sm 1 rfl ?_
  refine nL ?_
  refine tC rfl (fun hc12 => ?_) fun hc12 => ?_
  ·refine tQ <| tG <| sm 1 rfl <| nL <| tRt <| rOk rfl ?_ ?_
   ·have : ((l.length : Int) == want.length) = false := by simpa using hc12
    simp [z0i, this]
   have : ((l.length : Int) == want.length) = false := by simpa using hc12
   simp only [z0i, this]
   exact fun _ _ h => h
  have hlen : l.length = want.length := by simp at hc12; omega
  refine tSk <| tQ <| tQ <| tG <| sm 1 rfl <| nL <| tBk <| Tr.sub (Sub.of (fr' := [(7, iInt 0), (0, .ptr 3 0), (1, .pv (ints l)), (2, .pv (ints want))]) ⟨rfl, rfl, rfl, rfl, trivial⟩) ?_
  refine Tr.loop (fun fr σ m => ∃ (k : Nat) (st : List Bool), (k <= l.length) /\ (z1m f.types set l want = z1m f.types st (l.drop k) (want.drop k)) /\ (st.length = f.types.length) /\ fr = [(7, iInt k), (0, .ptr 3 0), (1, .pv (ints l)), (2, .pv (ints want))] /\ σ = look (up (ckHp u f 4 st)) /\ m = l.length - k) (n := l.length - 0) ?_ ?_
  ·exact ⟨0, set, Nat.zero_le _, rfl, hs, rfl, rfl, rfl⟩
  rintro fr σ m ⟨k, st, hI0, hI1, hI2, rfl, rfl, rfl⟩
  refine tQ <| tQ <| tG <| sm 2 rfl <| cV rfl (oSm uT35 rfl) <| sm 1 rfl <| nL ?_
  refine tC rfl (fun hc16 => ?_) fun hc16 => ?_
  ·have hlt : k < l.length := by simpa using hc16
   have hd := List.drop_eq_getElem_cons hlt
   have hm := List.getElem_mem hlt
   have hi := z0d (f := eInt) (List.getElem?_eq_getElem hlt)
   generalize l[k] = x at hd hm hi
   have hltw : k < want.length := by omega
   have hdw := List.drop_eq_getElem_cons hltw
   have hw := z0d (f := eInt) (List.getElem?_eq_getElem hltw)
   generalize want[k] = y at hdw hw
   refine tSk <| tQ <| tBk <| tQ <| tQ <| Tr.still z1t kR0 rfl <| smS 2 rfl <| sV rfl (iSq rfl rfl rfl uT35 hi tS3 rfl (by rfl)) <| smS 3 rfl ?_
   refine WS.split (t := 24) rfl (fun hb24 => ?_) (fun hb24 => ?_)
   ·refine smS 31 rfl <| WS.noU rfl rfl rfl rfl rfl rfl <| WS.noU rfl rfl rfl rfl rfl rfl <| WS.noU rfl rfl rfl rfl rfl rfl <| WS.noU rfl rfl rfl rfl rfl rfl <| WS.noU rfl rfl rfl rfl rfl rfl <| WS.noU rfl rfl rfl rfl rfl rfl <| WS.noU rfl rfl rfl rfl rfl rfl <| WS.noU rfl rfl rfl rfl rfl rfl <| WS.noU rfl rfl rfl rfl rfl rfl <| WS.noU rfl rfl rfl rfl rfl rfl <| WS.noU rfl rfl rfl rfl rfl rfl ?_
    refine WS.noU rfl rfl rfl rfl rfl rfl <| WS.noU rfl rfl rfl rfl rfl rfl <| WS.noU rfl rfl rfl rfl rfl rfl <| WS.noU rfl rfl rfl rfl rfl rfl <| WS.noU rfl rfl rfl rfl rfl rfl <| smS 2 rfl <| WS.nil <| Tr.condT rfl <| tQ <| tG <| sm 1 rfl <| nL ?_
    refine tRt ?_
    have hu : z7x f.types st x y = true := by (try clear hvx); simp_all [z7x]
    have hsum : z0i f.types set l want = (false, st) := by simp [z0i, hlen, hI1, hd, hdw, z1m, hu]
    rw [hsum]
    exact rOk rfl rfl (fun _ _ h => h)
   refine smS 2 rfl <| syV rfl rfl (iSq rfl rfl rfl uT35 hi tS3 rfl (by rfl)) <| smS 2 rfl <| syV rfl rfl (nCk rfl rfl rfl) <| smS 3 rfl <| syV rfl rfl (oSm uT35 rfl) <| smS 3 rfl ?_
   refine WS.split (t := 37) rfl (fun hb37 => ?_) (fun hb37 => ?_)
   ·refine smS 18 rfl <| WS.noU rfl rfl rfl rfl rfl rfl <| WS.noU rfl rfl rfl rfl rfl rfl <| WS.noU rfl rfl rfl rfl rfl rfl <| WS.noU rfl rfl rfl rfl rfl rfl <| WS.noU rfl rfl rfl rfl rfl rfl <| WS.noU rfl rfl rfl rfl rfl rfl <| WS.noU rfl rfl rfl rfl rfl rfl <| WS.noU rfl rfl rfl rfl rfl rfl <| WS.noU rfl rfl rfl rfl rfl rfl <| WS.noU rfl rfl rfl rfl rfl rfl <| WS.noU rfl rfl rfl rfl rfl rfl ?_
    refine WS.noU rfl rfl rfl rfl rfl rfl <| WS.noU rfl rfl rfl rfl rfl rfl <| WS.noU rfl rfl rfl rfl rfl rfl <| WS.noU rfl rfl rfl rfl rfl rfl <| WS.noU rfl rfl rfl rfl rfl rfl <| smS 2 rfl <| WS.nil <| Tr.condT rfl <| tQ <| tG <| sm 1 rfl <| nL ?_
    refine tRt ?_
    have hu : z7x f.types st x y = true := by (try clear hvx); simp_all [z7x]
    have hsum : z0i f.types set l want = (false, st) := by simp [z0i, hlen, hI1, hd, hdw, z1m, hu]
    rw [hsum]
    exact rOk rfl rfl (fun _ _ h => h)
   have hv0 : x.toNat < f.types.length := by simp at hb24 hb37; omega
   have hvx : x = ((x.toNat : Nat) : Int) := by simp at hb24; omega
   have hty : (f.types.map eInt)[x.toNat]? = some [vInt (f.types.getD x.toNat 0)] := by rw [List.getElem?_map]; simp [eInt, List.getD, hv0]
   have hst : (st.map zg9)[x.toNat]? = some [vBool (st.getD x.toNat false)] := by rw [List.getElem?_map]; simp [zg9, List.getD, hI2, hv0]
   have hstl : x.toNat < (st.map zg9).length := by simpa [hI2] using hv0
   refine smS 1 rfl <| syV rfl rfl (nCk rfl rfl rfl) <| smS 4 rfl <| syV rfl rfl (iSq rfl rfl rfl uT35 hi tS3 rfl (by rfl)) <| smS 1 rfl <| syV rfl rfl (iRw rfl rfl rfl rfl rfl Tryz.underlying86 tS4 (by assumption) oM0) <| syV rfl rfl (lRw rfl rfl rfl rfl (Nat.add_zero _).symm (by assumption) rfl Tryz.underlying4 rfl trivial) <| smS 2 rfl ?_
   refine WS.split (t := 49) rfl (fun hb49 => ?_) (fun hb49 => ?_)
   ·refine smS 6 rfl <| WS.noU rfl rfl rfl rfl rfl rfl <| WS.noU rfl rfl rfl rfl rfl rfl <| WS.noU rfl rfl rfl rfl rfl rfl <| WS.noU rfl rfl rfl rfl rfl rfl <| WS.noU rfl rfl rfl rfl rfl rfl <| WS.noU rfl rfl rfl rfl rfl rfl <| WS.noU rfl rfl rfl rfl rfl rfl <| WS.noU rfl rfl rfl rfl rfl rfl <| WS.noU rfl rfl rfl rfl rfl rfl <| WS.noU rfl rfl rfl rfl rfl rfl <| WS.noU rfl rfl rfl rfl rfl rfl ?_
    refine WS.noU rfl rfl rfl rfl rfl rfl <| WS.noU rfl rfl rfl rfl rfl rfl <| WS.noU rfl rfl rfl rfl rfl rfl <| WS.noU rfl rfl rfl rfl rfl rfl <| WS.noU rfl rfl rfl rfl rfl rfl <| smS 2 rfl <| WS.nil <| Tr.condT rfl <| tQ <| tG <| sm 1 rfl <| nL ?_
    refine tRt ?_
    have hu : z7x f.types st x y = true := by (try clear hvx); simp_all [z7x]
    have hsum : z0i f.types set l want = (false, st) := by simp [z0i, hlen, hI1, hd, hdw, z1m, hu]
    rw [hsum]
    exact rOk rfl rfl (fun _ _ h => h)
   refine smS 2 rfl <| syV rfl rfl (iSq rfl rfl rfl uT35 hw tS3 rfl (by rfl)) <| smS 3 rfl ?_
   refine WS.split (t := 55) rfl (fun hb55 => ?_) (fun hb55 => ?_)
   ·refine smS 1 rfl <| syV rfl rfl (nCk rfl rfl rfl) <| smS 5 rfl <| syV rfl rfl (iSq rfl rfl rfl uT35 hi tS3 rfl (by rfl)) <| smS 1 rfl <| syV rfl rfl (iSq rfl rfl rfl uT35 hty tS3 rfl oM0) <| smS 3 rfl <| syV rfl rfl (iSq rfl rfl rfl uT35 hw tS3 rfl (by rfl)) <| smS 4 rfl <| WS.nil ?_
    refine tC rfl (fun hc73 => ?_) fun hc73 => ?_
    ·refine tQ <| tG <| sm 1 rfl <| nL <| tRt ?_
     have hu : z7x f.types st x y = true := by (try clear hvx); simp_all [z7x]
     have hsum : z0i f.types set l want = (false, st) := by simp [z0i, hlen, hI1, hd, hdw, z1m, hu]
     rw [hsum]
     exact rOk rfl rfl (fun _ _ h => h)
    refine tSk <| tDr z1t (fun k => k ∈ ([3] : List Nat)) <| wR 1 [0, 1, 2, 3, 4, 5, 6, 7, 8] kR0 h30 <| smR 1 rfl <| rV rfl rfl (nCk rfl rfl rfl) <| smR 1 rfl <| rV rfl rfl (oLb Tryz.underlying86 rfl rfl rfl dC0) <| smR 2 rfl <| rV rfl rfl (iSq rfl rfl rfl uT35 hi tS3 rfl (by rfl)) <| smR 1 rfl <| rV rfl rfl (iRw rfl rfl rfl rfl rfl Tryz.underlying86 tS4 (by assumption) oM0) <| nR ?_
    refine wO 9 kR0 <| wI rfl rfl (fun k (h : _) => by (simp at h ⊢; omega)) (nOl rfl) (fun _ _ => z1s rfl rfl rfl rfl rfl (Nat.add_zero _).symm (by assumption) sI0 tS4 rfl sI0) <| wDn kR0 <| tG <| sm 1 rfl <| cV rfl (oB rfl rfl (z05 rfl oM0)) <| sm 1 rfl <| nL ?_
    refine ⟨_, _, ?_, Sub.of (fr' := [(7, iInt (k + 1)), (0, .ptr 3 0), (1, .pv (ints l)), (2, .pv (ints want))]) ⟨rfl, rfl, rfl, rfl, trivial⟩, (k + 1), (st.set x.toNat true), ?_, ?_, ?_, rfl, (funext y40), rfl⟩
    ·omega
    ·omega
    ·rw [hI1, hd, hdw]
     have hu : z7x f.types st x y = false := by (try clear hvx); simp_all [z7x]
     simp [z1m, hu]
    simpa using hI2
   refine smS 18 rfl <| WS.nil <| Tr.condF rfl <| tSk <| tDr z1t (fun k => k ∈ ([3] : List Nat)) <| wR 1 [0, 1, 2, 3, 4, 5, 6, 7, 8] kR0 h30 <| smR 1 rfl <| rV rfl rfl (nCk rfl rfl rfl) <| smR 1 rfl <| rV rfl rfl (oLb Tryz.underlying86 rfl rfl rfl dC0) <| smR 2 rfl <| rV rfl rfl (iSq rfl rfl rfl uT35 hi tS3 rfl (by rfl)) ?_
   refine smR 1 rfl <| rV rfl rfl (iRw rfl rfl rfl rfl rfl Tryz.underlying86 tS4 (by assumption) oM0) <| nR <| wO 9 kR0 <| wI rfl rfl (fun k (h : _) => by (simp at h ⊢; omega)) (nOl rfl) (fun _ _ => z1s rfl rfl rfl rfl rfl (Nat.add_zero _).symm (by assumption) sI0 tS4 rfl sI0) <| wDn kR0 <| tG <| sm 1 rfl <| cV rfl (oB rfl rfl (z05 rfl oM0)) <| sm 1 rfl <| nL ?_
   refine ⟨_, _, ?_, Sub.of (fr' := [(7, iInt (k + 1)), (0, .ptr 3 0), (1, .pv (ints l)), (2, .pv (ints want))]) ⟨rfl, rfl, rfl, rfl, trivial⟩, (k + 1), (st.set x.toNat true), ?_, ?_, ?_, rfl, (funext y40), rfl⟩
   ·omega
   ·omega
   ·rw [hI1, hd, hdw]
    have hu : z7x f.types st x y = false := by (try clear hvx); simp_all [z7x]
    simp [z1m, hu]
   simpa using hI2
  refine tEx <| tQ <| tG <| sm 1 rfl <| nL <| tRt ?_
  have hge : l.length <= k := by simpa using hc16
  have hsum : z0i f.types set l want = (true, st) := by simp [z0i, hlen, hI1, List.drop_eq_nil_of_le hge, z1m]
  rw [hsum]
  exact rOk rfl rfl (fun _ _ h => h)
theorem y6f (op : Int) : SC Tryz.prog 116 [iInt op] [] (fun _ => False) (iBool (z2p op)) [] := by
  refine SC.of Tryz.func116 rfl (lb rfl) fun F ρ w => ?_
  refine tQ <| tG <| sm 1 rfl <| nL <| tQ <| tG <| sm 3 rfl ?_
  refine wS 5 rfl (fun hb5 => ?_) fun hb5 => ?_
  ·refine sm 4 rfl <| nL <| tRt <| rOk rfl ?_ nPo
   first | (simp_all [z2p]; done) | (simp_all [z2p]; omega)
  refine sm 4 rfl <| nL <| tRt <| rOk rfl ?_ nPo
  first | (simp_all [z2p]; done) | (simp_all [z2p]; omega)
theorem y6g (op : Int) : SC Tryz.prog 117 [iInt op] [] (fun _ => False) (iBool (z30 op)) [] := by
  refine SC.of Tryz.func117 rfl (lb rfl) fun F ρ w => ?_
  refine tQ <| tG <| sm 1 rfl <| nL <| tQ <| tG <| sm 3 rfl ?_
  refine wS 5 rfl (fun hb5 => ?_) fun hb5 => ?_
  ·refine sm 4 rfl <| nL <| tRt <| rOk rfl ?_ nPo
   first | (simp_all [z30]; done) | (simp_all [z30]; omega)
  refine sm 4 rfl <| nL <| tRt <| rOk rfl ?_ nPo
  first | (simp_all [z30]; done) | (simp_all [z30]; omega)
theorem zg7 (op : Int) : SC Tryz.prog 115 [iInt op] [] (fun _ => False) (.tup [iInt (z0c op).1, iInt (z0c op).2]) [] := by
  refine SC.of Tryz.func115 rfl (lb rfl) fun F ρ w => ?_
  refine tQ <| tG <| sm 2 rfl <| nL <| tQ <| tBk <| tQ <| tG <| sm 3 rfl ?_
  refine wS 7 rfl (fun hb7 => ?_) fun hb7 => ?_
  ·refine sm 8 rfl <| nL <| Tr.condT rfl <| tQ <| tG <| sm 2 rfl <| nL <| tRt <| rOk rfl ?_ nPo
   first | (simp_all [z0c]; done) | (simp_all [z0c]; split <;> first | omega | (simp; done))
  refine sm 4 rfl ?_
  refine wS 11 rfl (fun hb11 => ?_) fun hb11 => ?_
  ·refine sm 4 rfl <| nL <| Tr.condT rfl <| tQ <| tG <| sm 2 rfl <| nL <| tRt <| rOk rfl ?_ nPo
   first | (simp_all [z0c]; done) | (simp_all [z0c]; split <;> first | omega | (simp; done))
  refine sm 4 rfl <| nL ?_
  refine tC rfl (fun hc4 => ?_) fun hc4 => ?_
  ·refine tQ <| tG <| sm 2 rfl <| nL <| tRt <| rOk rfl ?_ nPo
   first | (simp_all [z0c]; done) | (simp_all [z0c]; split <;> first | omega | (simp; done))
  refine tQ <| tG <| sm 3 rfl ?_
  refine wS 18 rfl (fun hb18 => ?_) fun hb18 => ?_
  ·refine sm 4 rfl <| nL <| Tr.condT rfl <| tQ <| tG <| sm 2 rfl <| nL <| tRt <| rOk rfl ?_ nPo
   first | (simp_all [z0c]; done) | (simp_all [z0c]; split <;> first | omega | (simp; done))
  refine sm 4 rfl <| nL ?_
  refine tC rfl (fun hc15 => ?_) fun hc15 => ?_
  ·refine tQ <| tG <| sm 2 rfl <| nL <| tRt <| rOk rfl ?_ nPo
   first | (simp_all [z0c]; done) | (simp_all [z0c]; split <;> first | omega | (simp; done))
  refine tQ <| tG <| sm 3 rfl ?_
  refine wS 25 rfl (fun hb25 => ?_) fun hb25 => ?_
  ·refine sm 4 rfl <| nL ?_
   refine tC rfl (fun hc22 => ?_) fun hc22 => ?_
   ·refine tQ <| tG <| sm 2 rfl <| nL <| tRt <| rOk rfl ?_ nPo
    first | (simp_all [z0c]; done) | (simp_all [z0c]; split <;> first | omega | (simp; done))
   refine tSk <| tQ <| tG <| sm 2 rfl <| nL <| tRt <| rOk rfl ?_ nPo
   first | (simp_all [z0c]; done) | (simp_all [z0c]; split <;> first | omega | (simp; done))
  refine sm 4 rfl <| nL <| Tr.condF rfl <| tSk <| tQ <| tG <| sm 2 rfl <| nL <| tRt <| rOk rfl ?_ nPo
  first | (simp_all [z0c]; done) | (simp_all [z0c]; split <;> first | omega | (simp; done))
theorem z6t (u : Un) (f : Fl) (set : List Bool) (l : List Int) (hb : l.length <= 1073741824) : SC Tryz.prog 101 [.ptr 3 0, .pv (ints l)] (ckHp u f 4 set) (fun k => k < 100) (.pv (ints (r8of f.types l))) (ckHp u f 4 set) := by
  refine SC.of Tryz.func101 rfl (lb rfl) fun F ρ w => ?_
  refine Tr.lenOf (t := 1) rfl (fun hl => ?_)
  simp only [List.length_map] at hl
  rw [y9b]
  refine tQ <| tG <| sm 1 rfl <| nL <| tQ <| tG <| sm 1 rfl <| nL <| tQ <| tQ <| tG <| sm 1 rfl ?_
  refine nL <| tBk <| Tr.grow (t := 5) (k := 105) ⟨3, 1⟩ rfl rfl rfl rfl rfl <| Tr.sub (Sub.of (fr' := [(6, iInt 0), (5, .sl 105 0), (0, .ptr 3 0), (1, .pv (ints l))]) ⟨rfl, rfl, rfl, rfl, trivial⟩) ?_
  refine Tr.loop (fun fr σ m => ∃ (k : Nat) (st : List Int), (k <= l.length) /\ (st.length = k) /\ (z6n f.types [] l = z6n f.types st (l.drop k)) /\ fr = [(6, iInt k), (5, .sl 105 k), (0, .ptr 3 0), (1, .pv (ints l))] /\ σ = look ((105, some (.row ⟨3, 1⟩ (st.map eInt))) :: up (ckHp u f 4 set)) /\ m = l.length - k) (n := l.length - 0) ?_ ?_
  ·exact ⟨0, [], Nat.zero_le _, rfl, rfl, rfl, rfl, rfl⟩
  rintro fr σ m ⟨k, st, hI0, hI1, hI2, rfl, rfl, rfl⟩
  refine tQ <| tQ <| tG <| sm 2 rfl <| cV rfl (oSm uT35 rfl) <| sm 1 rfl <| nL ?_
  refine tC rfl (fun hc10 => ?_) fun hc10 => ?_
  ·have hlt : k < l.length := by simpa using hc10
   have hd := List.drop_eq_getElem_cons hlt
   have hm := List.getElem_mem hlt
   have hi := z0d (f := eInt) (List.getElem?_eq_getElem hlt)
   generalize l[k] = x at hd hm hi
   refine tSk <| tQ <| tBk <| tQ <| tQ <| Tr.still z1t kR0 rfl <| smS 2 rfl <| sV rfl (iSq rfl rfl rfl uT35 hi tS3 rfl (by rfl)) <| smS 3 rfl ?_
   refine WS.split (t := 18) rfl (fun hb18 => ?_) (fun hb18 => ?_)
   ·refine smS 12 rfl <| WS.nil <| Tr.condT rfl <| tQ <| tG <| sm 1 rfl <| nL <| tRt ?_
    have hin : z6y f.types x = false := by simp [z6y] at *; omega
    rw [hI2, hd]
    simp only [z6n, hin]
    exact ⟨⟨_, rfl, fun _ _ _ _ h => zf4 h⟩, (po2 rfl rfl)⟩
   refine smS 2 rfl <| syV rfl rfl (iSq rfl rfl rfl uT35 hi tS3 rfl (by rfl)) <| smS 2 rfl <| syV rfl rfl (nCk rfl rfl rfl) <| smS 3 rfl <| syV rfl rfl (oSm uT35 rfl) <| smS 2 rfl <| WS.nil ?_
   refine tC rfl (fun hc30 => ?_) fun hc30 => ?_
   ·refine tQ <| tG <| sm 1 rfl <| nL <| tRt ?_
    have hin : z6y f.types x = false := by simp [z6y] at *; omega
    rw [hI2, hd]
    simp only [z6n, hin]
    exact ⟨⟨_, rfl, fun _ _ _ _ h => zf4 h⟩, (po2 rfl rfl)⟩
   have hv0 : x.toNat < f.types.length := by simp at *; omega
   have hvx : x = ((x.toNat : Nat) : Int) := by simp at *; omega
   have hin : z6y f.types x = true := by simp [z6y]; omega
   have hty : (f.types.map eInt)[x.toNat]? = some [vInt (f.types.getD x.toNat 0)] := by rw [List.getElem?_map]; simp [eInt, List.getD, hv0]
   refine tSk <| tDr z1t (fun k => k < 100) <| wR 3 [0, 1, 2, 3, 4, 5, 6, 7, 8, 9, 10, 11] kR0 h30 <| smR 2 rfl <| rV rfl rfl (nCk rfl rfl rfl) <| smR 2 rfl <| rV rfl rfl (oLb uT35 rfl rfl rfl dC0) <| smR 2 rfl <| rV rfl rfl (iSq rfl rfl rfl uT35 (by assumption) tS3 rfl (by rfl)) <| smR 1 rfl <| rV rfl rfl (iSq rfl rfl rfl uT35 hty tS3 rfl oM0) <| smR 1 rfl ?_
   refine nR <| wO 12 kR0 <| wI rfl rfl (fun k (h : _) => h) nw (fun _ _ => bSl rfl rfl uT35 tZ3 tS3 rfl rfl rfl rfl (fbk rfl) rfl) <| wO 13 kR0 ?_
   refine wI rfl rfl (fun k (h : _) => h) (nOl rfl) (fun _ _ => aPp rfl rfl rfl rfl (by (simp; omega)) sI0 uT35 tB3 dC0 (by simp [z01]) (by (simp [z01, PV.one]; rfl)) (by simp [maxLen, z01]; omega) (by simp [z01]; omega)) ?_
   refine wR 0 [14] kR0 h30 <| smR 1 rfl <| nR <| wDn kR0 <| tG <| sm 1 rfl <| cV rfl (oB rfl rfl (z05 rfl oM0)) <| sm 1 rfl <| nL ?_
   refine ⟨_, _, ?_, Sub.of (fr' := [(6, iInt (k + 1)), (5, .sl 105 (k + 1)), (0, .ptr 3 0), (1, .pv (ints l))]) ⟨rfl, rfl, rfl, rfl, trivial⟩, (k + 1), (st ++ [f.types.getD x.toNat 0]), ?_, ?_, ?_, rfl, zv8, rfl⟩
   ·omega
   ·omega
   ·simp [hI1]
   rw [hI2, hd]
   simp [z6n, hin]
  refine tEx <| tQ ?_
  refine Tr.freeze (t := 5) (k := 105) rfl rfl (by simpa using hI1) ?_
  refine tG <| sm 2 rfl <| nL <| tRt <| rOk rfl ?_ (po2 rfl rfl)
  have hge : l.length <= k := by simpa using hc10
  rw [hI2, List.drop_eq_nil_of_le hge]
  rfl
theorem y3a (u : Un) (f : Fl) (set : List Bool) (hs : set.length = f.types.length) (hg : ∀ g ∈ u.flows, 0 <= g.params /\ g.params <= g.types.length) (x : Nd) (seen : List Int) (wh : Wh) : SC Tryz.prog 104 [.ptr 3 0, .pv (ndv x), .pv (ints seen), .pv (whv wh)] (ckHp u f 4 set) (fun k => k = 3) (iBool (z00 u f set x seen wh).1) (ckHp u f 4 (z00 u f set x seen wh).2) := by
  refine SC.of Tryz.func104 rfl (lb rfl) fun F ρ w => ?_
  refine tQ <| tG <| cE rfl (z1y rfl rfl) <| cE rfl (z1y rfl rfl) <| sm 1 rfl <| nL <| tQ <| tG <| cE rfl (bSl rfl rfl uT35 tZ3 tS3 rfl rfl rfl rfl (fbk rfl) rfl) <| cE rfl (bSl rfl rfl uT35 tZ3 tS3 rfl rfl rfl rfl (fbk rfl) rfl) <| sm 2 rfl <| nL ?_
  refine tQ <| tQ <| tG <| sm 2 rfl <| nL <| tBk <| tQ <| tG <| sm 2 rfl <| nL ?_
  refine tC rfl (fun hc20 => ?_) fun hc20 => ?_
  ·refine tQ <| tG <| sm 4 rfl <| cE rfl (z2i (z1d u f set x.args seen []) z4v rfl rfl (sSm rfl (sSm rfl (sSm rfl (Subs.cons (fun _ _ _ _ h => zf4 h) Subs.nil)))) (po2 rfl rfl) rfl (fun _ _ => trivial) rfl rfl) <| sm 1 rfl ?_
   refine wS 27 rfl (fun hb27 => ?_) fun hb27 => ?_
   ·refine sm 4 rfl <| WL.yes rfl rfl rfl rfl rfl rfl (z2i (z1e u f set x.outs [1] hs) z46 rfl rfl (sRf _ _) (po2 rfl rfl) rfl (fun k (h : _) => h) rfl rfl) <| sm 2 rfl <| nL <| tRt ?_
    (have h2 : (z00 u f set x seen wh).2 = (z0i f.types set x.outs [1]).2 := (by (try clear hkn hgp); simp_all [z00, andS, z0k]; done)
     rw [h2]
     refine rOk rfl ?_ (po2 rfl rfl)
     clear h2
     try (clear hkn hgp)
     simp_all [z00, andS, z0k]
     done)
   refine sm 7 rfl <| nL <| tRt ?_
   (have h2 : (z00 u f set x seen wh).2 = set := (by (try clear hkn hgp); simp_all [z00, andS, z0k]; done)
    rw [h2]
    refine rOk rfl ?_ (po2 rfl rfl)
    clear h2
    try (clear hkn hgp)
    simp_all [z00, andS, z0k]
    done)
  refine tQ <| tG <| sm 2 rfl <| nL ?_
  refine tC rfl (fun hc34 => ?_) fun hc34 => ?_
  ·refine tQ <| tG <| sm 4 rfl ?_
   refine wS 39 rfl (fun hb39 => ?_) fun hb39 => ?_
   ·refine sm 9 rfl <| WL.yes rfl rfl rfl rfl rfl rfl (z2i (z1d u f set x.args seen []) z4v rfl rfl (sSm rfl (sSm rfl (sSm rfl (Subs.cons (fun _ _ _ _ h => zf4 h) Subs.nil)))) (po2 rfl rfl) rfl (fun _ _ => trivial) rfl rfl) <| sm 2 rfl ?_
    refine wS 51 rfl (fun hb51 => ?_) fun hb51 => ?_
    ·refine sm 4 rfl <| WL.yes rfl rfl rfl rfl rfl rfl (z2i (z1e u f set x.outs [2] hs) z46 rfl rfl (sRf _ _) (po2 rfl rfl) rfl (fun k (h : _) => h) rfl rfl) <| sm 2 rfl <| nL <| tRt ?_
     (have h2 : (z00 u f set x seen wh).2 = (z0i f.types set x.outs [2]).2 := (by (try clear hkn hgp); simp_all [z00, andS, z0k]; done)
      rw [h2]
      refine rOk rfl ?_ (po2 rfl rfl)
      clear h2
      try (clear hkn hgp)
      simp_all [z00, andS, z0k]
      done)
    refine sm 7 rfl <| nL <| tRt ?_
    (have h2 : (z00 u f set x seen wh).2 = set := (by (try clear hkn hgp); simp_all [z00, andS, z0k]; done)
     rw [h2]
     refine rOk rfl ?_ (po2 rfl rfl)
     clear h2
     try (clear hkn hgp)
     simp_all [z00, andS, z0k]
     done)
   refine sm 5 rfl ?_
   refine wS 44 rfl (fun hb44 => ?_) fun hb44 => ?_
   ·refine sm 4 rfl <| WL.yes rfl rfl rfl rfl rfl rfl (z2i (z1d u f set x.args seen []) z4v rfl rfl (sSm rfl (sSm rfl (sSm rfl (Subs.cons (fun _ _ _ _ h => zf4 h) Subs.nil)))) (po2 rfl rfl) rfl (fun _ _ => trivial) rfl rfl) <| sm 2 rfl ?_
    refine wS 51 rfl (fun hb51 => ?_) fun hb51 => ?_
    ·refine sm 4 rfl <| WL.yes rfl rfl rfl rfl rfl rfl (z2i (z1e u f set x.outs [2] hs) z46 rfl rfl (sRf _ _) (po2 rfl rfl) rfl (fun k (h : _) => h) rfl rfl) <| sm 2 rfl <| nL <| tRt ?_
     (have h2 : (z00 u f set x seen wh).2 = (z0i f.types set x.outs [2]).2 := (by (try clear hkn hgp); simp_all [z00, andS, z0k]; done)
      rw [h2]
      refine rOk rfl ?_ (po2 rfl rfl)
      clear h2
      try (clear hkn hgp)
      simp_all [z00, andS, z0k]
      done)
    refine sm 7 rfl <| nL <| tRt ?_
    (have h2 : (z00 u f set x seen wh).2 = set := (by (try clear hkn hgp); simp_all [z00, andS, z0k]; done)
     rw [h2]
     refine rOk rfl ?_ (po2 rfl rfl)
     clear h2
     try (clear hkn hgp)
     simp_all [z00, andS, z0k]
     done)
   refine sm 14 rfl <| nL <| tRt ?_
   (have h2 : (z00 u f set x seen wh).2 = set := (by (try clear hkn hgp); simp_all [z00, andS, z0k]; done)
    rw [h2]
    refine rOk rfl ?_ (po2 rfl rfl)
    clear h2
    try (clear hkn hgp)
    simp_all [z00, andS, z0k]
    done)
  refine tQ <| tG <| sm 2 rfl <| nL ?_
  refine tC rfl (fun hc58 => ?_) fun hc58 => ?_
  ·refine tQ <| tG <| sm 2 rfl <| cE rfl (ocq (zg7 _) ent115 rfl rfl) <| sm 1 rfl <| cV rfl (z1w rfl rfl rfl) <| cV rfl (z1w rfl rfl rfl) <| sm 2 rfl <| nL <| tQ <| tG <| sm 2 rfl ?_
   refine cE rfl (ocq (y6f _) ent116 rfl rfl) <| sm 1 rfl ?_
   refine wS 69 rfl (fun hb69 => ?_) fun hb69 => ?_
   ·refine sm 5 rfl <| WL.yes rfl rfl rfl rfl rfl rfl (bSl rfl rfl uT35 tZ3 tS3 rfl rfl rfl rfl (fbk rfl) rfl) <| WL.yes rfl rfl rfl rfl rfl rfl (z2i (z1d u f set x.args seen [(z0c x.op).1]) z4v rfl rfl (sRf _ _) (po2 rfl rfl) rfl (fun _ _ => trivial) rfl rfl) <| sm 2 rfl ?_
    refine wS 78 rfl (fun hb78 => ?_) fun hb78 => ?_
    ·refine sm 4 rfl <| WL.yes rfl rfl rfl rfl rfl rfl (bSl rfl rfl uT35 tZ3 tS3 rfl rfl rfl rfl (fbk rfl) rfl) <| WL.yes rfl rfl rfl rfl rfl rfl (z2i (z1e u f set x.outs [(z0c x.op).2] hs) z46 rfl rfl (sRf _ _) (po2 rfl rfl) rfl (fun k (h : _) => h) rfl rfl) <| sm 2 rfl <| nL <| tRt ?_
     (have h2 : (z00 u f set x seen wh).2 = (z0i f.types set x.outs [(z0c x.op).2]).2 := (by (try clear hkn hgp); simp_all [z00, andS, z0k]; done)
      rw [h2]
      refine rOk rfl ?_ (po2 rfl rfl)
      clear h2
      try (clear hkn hgp)
      simp_all [z00, andS, z0k]
      done)
    refine sm 8 rfl <| nL <| tRt ?_
    (have h2 : (z00 u f set x seen wh).2 = set := (by (try clear hkn hgp); simp_all [z00, andS, z0k]; done)
     rw [h2]
     refine rOk rfl ?_ (po2 rfl rfl)
     clear h2
     try (clear hkn hgp)
     simp_all [z00, andS, z0k]
     done)
   refine sm 17 rfl <| nL <| tRt ?_
   (have h2 : (z00 u f set x seen wh).2 = set := (by (try clear hkn hgp); simp_all [z00, andS, z0k]; done)
    rw [h2]
    refine rOk rfl ?_ (po2 rfl rfl)
    clear h2
    try (clear hkn hgp)
    simp_all [z00, andS, z0k]
    done)
  refine tQ <| tG <| sm 2 rfl <| nL ?_
  refine tC rfl (fun hc86 => ?_) fun hc86 => ?_
  ·refine tQ <| tG <| sm 2 rfl <| cE rfl (ocq (zg7 _) ent115 rfl rfl) <| sm 1 rfl <| cV rfl (z1w rfl rfl rfl) <| cV rfl (z1w rfl rfl rfl) <| sm 2 rfl <| nL <| tQ <| tDr z1t (fun k => k ∈ ([3] : List Nat)) <| wR 45 [0, 1] kR0 h30 ?_
   refine smR 2 rfl <| nR <| wO 2 kR0 <| wI rfl rfl (fun k (h : _) => by (simp at h ⊢; omega)) nw (fun _ _ => ocq (y6g _) ent117 rfl rfl) <| wR 37 [3, 4, 5, 6, 7, 8, 9] kR0 h30 <| smR 1 rfl ?_
   refine WR.split (t := 97) rfl (fun hb97 => ?_) (fun hb97 => ?_)
   ·refine smR 6 rfl <| nR <| wO 10 kR0 <| wY rfl rfl rfl (fun k (h : _) => by (simp at h ⊢; omega)) nw (fun _ _ => bSl rfl rfl uT35 tZ3 tS3 rfl rfl rfl rfl (fbk rfl) rfl) <| wO 11 kR0 <| wY rfl rfl rfl (fun k (h : _) => by (simp at h ⊢; omega)) (nAp rfl) (fun _ _ => z2i (z1d u f set x.args seen [(z0c x.op).1, (z0c x.op).1]) z4v rfl rfl (sRf _ _) (po2 rfl rfl) rfl (fun _ _ => trivial) rfl rfl) <| wR 4 [12, 13, 14, 15, 16, 17, 18, 19, 20, 21, 22, 23, 24, 25, 26, 27, 28, 29, 30, 31, 32, 33, 34, 35, 36, 37, 38, 39, 40, 41, 42] kR0 h30 <| smR 2 rfl ?_
    refine WR.split (t := 107) rfl (fun hb107 => ?_) (fun hb107 => ?_)
    ·obtain ⟨a, b, hab, ha0, hal, hb0, hbl⟩ := y30 (by simpa using hb107)
     have hi0 : (x.args.map eInt)[0]? = some [vInt a] := by rw [hab]; rfl
     have hi1 : (x.args.map eInt)[1]? = some [vInt b] := by rw [hab]; rfl
     have hta : (f.types.map eInt)[a.toNat]? = some [vInt (f.types.getD a.toNat 0)] := by rw [List.getElem?_map]; simp [eInt, List.getD, hal]
     have htb : (f.types.map eInt)[b.toNat]? = some [vInt (f.types.getD b.toNat 0)] := by rw [List.getElem?_map]; simp [eInt, List.getD, hbl]
     refine smR 1 rfl <| ryV rfl rfl rfl (nCk rfl rfl rfl) <| smR 2 rfl <| ryV rfl rfl rfl (oLb uT35 rfl rfl rfl dC0) <| smR 2 rfl <| ryV rfl rfl rfl (iSq rfl rfl rfl uT35 hi0 tS3 rfl (by rfl)) <| smR 1 rfl <| ryV rfl rfl rfl (iSq rfl rfl rfl uT35 hta tS3 rfl oM0) <| smR 2 rfl <| ryV rfl rfl rfl (nCk rfl rfl rfl) <| smR 2 rfl <| ryV rfl rfl rfl (oLb uT35 rfl rfl rfl dC0) ?_
     refine smR 2 rfl <| ryV rfl rfl rfl (iSq rfl rfl rfl uT35 hi1 tS3 rfl (by rfl)) <| smR 1 rfl <| ryV rfl rfl rfl (iSq rfl rfl rfl uT35 htb tS3 rfl oM0) <| smR 4 rfl ?_
     refine WR.split (t := 132) rfl (fun hb132 => ?_) (fun hb132 => ?_)
     ·refine smR 4 rfl <| nR <| wO 43 kR0 <| wY rfl rfl rfl (fun k (h : _) => by (simp at h ⊢; omega)) nw (fun _ _ => bSl rfl rfl uT35 tZ3 tS3 rfl rfl rfl rfl (fbk rfl) rfl) <| wO 44 kR0 <| wY rfl rfl rfl (fun k (h : _) => by (simp at h ⊢; omega)) (nAp rfl) (fun _ _ => z2i (z1e u f set x.outs [(z0c x.op).2] hs) z46 rfl rfl (sRf _ _) (po2 rfl rfl) rfl (fun k (h : _) => by (simpa using h)) rfl rfl) <| wR 0 [45, 46] kR0 h30 <| smR 2 rfl <| nR <| wDn kR0 <| tRt ?_
      (have h2 : (z00 u f set x seen wh).2 = (z0i f.types set x.outs [(z0c x.op).2]).2 := (by (try clear hkn hgp); simp_all [z00, andS, z0k]; done)
       rw [h2]
       refine rOk rfl ?_ (po2 rfl rfl)
       clear h2
       try (clear hkn hgp)
       simp_all [z00, andS, z0k]
       done)
     refine smR 4 rfl <| nR <| wN 43 kR0 h30 rfl rfl rfl <| wN 44 kR0 h30 rfl rfl rfl <| wR 0 [45, 46] kR0 h30 <| smR 2 rfl <| nR <| wDn kR0 <| tRt ?_
     (have h2 : (z00 u f set x seen wh).2 = set := (by (try clear hkn hgp); simp_all [z00, andS, z0k]; done)
      rw [h2]
      refine rOk rfl ?_ (po2 rfl rfl)
      clear h2
      try (clear hkn hgp)
      simp_all [z00, andS, z0k]
      done)
    refine smR 29 rfl <| nR <| wN 43 kR0 h30 rfl rfl rfl <| wN 44 kR0 h30 rfl rfl rfl <| wR 0 [45, 46] kR0 h30 <| smR 2 rfl <| nR <| wDn kR0 <| tRt ?_
    (have h2 : (z00 u f set x seen wh).2 = set := (by (try clear hkn hgp); simp_all [z00, andS, z0k]; done)
     rw [h2]
     refine rOk rfl ?_ (po2 rfl rfl)
     clear h2
     try (clear hkn hgp)
     simp_all [z00, andS, z0k]
     done)
   refine smR 6 rfl <| nR <| wN 10 kR0 h30 rfl rfl rfl <| wN 11 kR0 h30 rfl rfl rfl <| wR 4 [12, 13, 14, 15, 16, 17, 18, 19, 20, 21, 22, 23, 24, 25, 26, 27, 28, 29, 30, 31, 32, 33, 34, 35, 36, 37, 38, 39, 40, 41, 42] kR0 h30 <| smR 31 rfl <| nR <| wN 43 kR0 h30 rfl rfl rfl <| wN 44 kR0 h30 rfl rfl rfl <| wR 0 [45, 46] kR0 h30 <| smR 2 rfl <| nR ?_
   refine wDn kR0 <| tRt ?_
   (have h2 : (z00 u f set x seen wh).2 = set := (by (try clear hkn hgp); simp_all [z00, andS, z0k]; done)
    rw [h2]
    refine rOk rfl ?_ (po2 rfl rfl)
    clear h2
    try (clear hkn hgp)
    simp_all [z00, andS, z0k]
    done)
  refine tQ <| tG <| sm 2 rfl <| nL ?_
  refine tC rfl (fun hc140 => ?_) fun hc140 => ?_
  ·refine tQ <| tDr z1t (fun k => k ∈ ([3] : List Nat)) <| wR 18 [0, 1, 2, 3, 4, 5] kR0 h30 <| smR 1 rfl <| rV rfl rfl (nCk rfl rfl rfl) <| smR 1 rfl <| rV rfl rfl (lBP rfl rfl rfl uT25 rfl tS25 (lb rfl) rfl dC0) <| smR 2 rfl <| nR <| wO 6 kR0 <| wI rfl rfl (fun k (h : _) => by (simp at h ⊢; omega)) nw (fun _ _ => ocq (z91 _ _) ent51 rfl rfl) <| wR 10 [7, 8, 9, 10, 11, 12, 13] kR0 h30 ?_
   refine smR 2 rfl ?_
   refine WR.split (t := 150) rfl (fun hb150 => ?_) (fun hb150 => ?_)
   ·refine smR 5 rfl <| nR <| wO 14 kR0 <| wY rfl rfl rfl (fun k (h : _) => by (simp at h ⊢; omega)) (nAp rfl) (fun _ _ => z2i (z1d u f set x.args seen [1]) z4v rfl rfl (sRf _ _) (po2 rfl rfl) rfl (fun _ _ => trivial) rfl rfl) <| wR 3 [15, 16, 17, 18, 19, 20] kR0 h30 <| smR 2 rfl ?_
    refine WR.split (t := 158) rfl (fun hb158 => ?_) (fun hb158 => ?_)
    ·refine smR 4 rfl <| nR <| wO 21 kR0 <| wY rfl rfl rfl (fun k (h : _) => by (simp at h ⊢; omega)) (nAp rfl) (fun _ _ => z2i (z1e u f set x.outs [1] hs) z46 rfl rfl (sRf _ _) (po2 rfl rfl) rfl (fun k (h : _) => by (simpa using h)) rfl rfl) <| wR 0 [22, 23] kR0 h30 <| smR 2 rfl <| nR <| wDn kR0 <| tRt ?_
     (have h2 : (z00 u f set x seen wh).2 = (z0i f.types set x.outs [1]).2 := (by (try clear hkn hgp); simp_all [z00, andS, z0k]; done)
      rw [h2]
      refine rOk rfl ?_ (po2 rfl rfl)
      clear h2
      try (clear hkn hgp)
      simp_all [z00, andS, z0k]
      done)
    refine smR 4 rfl <| nR <| wN 21 kR0 h30 rfl rfl rfl <| wR 0 [22, 23] kR0 h30 <| smR 2 rfl <| nR <| wDn kR0 <| tRt ?_
    (have h2 : (z00 u f set x seen wh).2 = set := (by (try clear hkn hgp); simp_all [z00, andS, z0k]; done)
     rw [h2]
     refine rOk rfl ?_ (po2 rfl rfl)
     clear h2
     try (clear hkn hgp)
     simp_all [z00, andS, z0k]
     done)
   refine smR 5 rfl <| nR <| wN 14 kR0 h30 rfl rfl rfl <| wR 3 [15, 16, 17, 18, 19, 20] kR0 h30 <| smR 6 rfl <| nR <| wN 21 kR0 h30 rfl rfl rfl <| wR 0 [22, 23] kR0 h30 <| smR 2 rfl <| nR <| wDn kR0 <| tRt ?_
   (have h2 : z00 u f set x seen wh = (false, set) := (by unfold z00 z0k andS; simp only [*]; simp)
    rw [h2]
    exact rOk rfl rfl (po2 rfl rfl))
  refine tQ <| tG <| sm 2 rfl <| nL ?_
  refine tC rfl (fun hc165 => ?_) fun hc165 => ?_
  ·refine tQ <| tDr z1t (fun k => k ∈ ([3] : List Nat)) <| wR 17 [0, 1, 2, 3, 4, 5] kR0 h30 <| smR 1 rfl <| rV rfl rfl (nCk rfl rfl rfl) <| smR 1 rfl <| rV rfl rfl (lBP rfl rfl rfl uT25 rfl tS25 (lb rfl) rfl dC0) <| smR 2 rfl <| nR <| wO 6 kR0 <| wI rfl rfl (fun k (h : _) => by (simp at h ⊢; omega)) nw (fun _ _ => ocq (z91 _ _) ent51 rfl rfl) <| wR 10 [7, 8, 9, 10, 11, 12] kR0 h30 ?_
   refine smR 2 rfl ?_
   refine WR.split (t := 175) rfl (fun hb175 => ?_) (fun hb175 => ?_)
   ·refine smR 4 rfl <| nR <| wO 13 kR0 <| wY rfl rfl rfl (fun k (h : _) => by (simp at h ⊢; omega)) nw (fun _ _ => bSl rfl rfl uT35 tZ3 tS3 rfl rfl rfl rfl (fbk rfl) rfl) <| wO 14 kR0 <| wY rfl rfl rfl (fun k (h : _) => by (simp at h ⊢; omega)) (nAp rfl) (fun _ _ => z2i (z1d u f set x.args seen [1, 1]) z4v rfl rfl (sRf _ _) (po2 rfl rfl) rfl (fun _ _ => trivial) rfl rfl) <| wR 0 [15, 16, 17, 18, 19, 20, 21, 22] kR0 h30 <| smR 2 rfl ?_
    refine WR.split (t := 183) rfl (fun hb183 => ?_) (fun hb183 => ?_)
    ·refine smR 2 rfl <| ryV rfl rfl rfl (oSm uT35 rfl) <| smR 3 rfl <| nR <| wDn kR0 <| tRt ?_
     (have h2 : (z00 u f set x seen wh).2 = set := (by (try clear hkn hgp); simp_all [z00, andS, z0k]; done)
      rw [h2]
      refine rOk rfl ?_ (po2 rfl rfl)
      clear h2
      try (clear hkn hgp)
      simp_all [z00, andS, z0k]
      done)
    refine smR 6 rfl <| nR <| wDn kR0 <| tRt ?_
    (have h2 : (z00 u f set x seen wh).2 = set := (by (try clear hkn hgp); simp_all [z00, andS, z0k]; done)
     rw [h2]
     refine rOk rfl ?_ (po2 rfl rfl)
     clear h2
     try (clear hkn hgp)
     simp_all [z00, andS, z0k]
     done)
   refine smR 4 rfl <| nR <| wN 13 kR0 h30 rfl rfl rfl <| wN 14 kR0 h30 rfl rfl rfl <| wR 0 [15, 16, 17, 18, 19, 20, 21, 22] kR0 h30 <| smR 8 rfl <| nR <| wDn kR0 <| tRt ?_
   (have h2 : z00 u f set x seen wh = (false, set) := (by unfold z00 z0k andS; simp only [*]; simp)
    rw [h2]
    exact rOk rfl rfl (po2 rfl rfl))
  refine tQ <| tG <| sm 2 rfl <| nL ?_
  refine tC rfl (fun hc189 => ?_) fun hc189 => ?_
  ·refine tQ <| tDr z1t (fun k => k ∈ ([3] : List Nat)) <| wR 2 [0, 1, 2, 3, 4, 5] kR0 h30 <| smR 1 rfl <| rV rfl rfl (nCk rfl rfl rfl) <| smR 1 rfl <| rV rfl rfl (lBP rfl rfl rfl uT25 rfl tS25 (lb rfl) rfl dC0) <| smR 2 rfl <| nR <| wO 6 kR0 <| wI rfl rfl (fun k (h : _) => by (simp at h ⊢; omega)) nw (fun _ _ => ocq (z5v _ _) y59 rfl rfl) <| wR 0 [7] kR0 h30 ?_
   refine smR 1 rfl <| nR <| wDn kR0 <| tQ <| tDr z1t (fun k => k ∈ ([3] : List Nat)) <| wR 19 [0, 1, 2, 3, 4, 5, 6, 7, 8, 9, 10, 11, 12, 13, 14, 15, 16, 17, 18, 19, 20, 21, 22, 23, 24, 25] kR0 h30 <| smR 3 rfl ?_
   refine WR.split (t := 200) rfl (fun hb200 => ?_) (fun hb200 => ?_)
   ·have hk0 : z08 x.name u.flows 0 ≥ 0 := by simpa using hb200
    obtain ⟨g, hgk, _⟩ := z8z hk0
    obtain ⟨hgp0, hgpl⟩ := hg g (List.mem_of_getElem? hgk)
    have hgp : g.params = (g.params.toNat : Int) := by omega
    have hgi : (u.flows.map Fl.enc)[(z08 x.name u.flows 0).toNat]? = some (Fl.enc g) := by rw [List.getElem?_map, hgk]; rfl
    have hkn : z08 x.name u.flows 0 = ((z08 x.name u.flows 0).toNat : Int) := by omega
    refine smR 5 rfl <| ryV rfl rfl rfl (nCk rfl rfl rfl) <| smR 2 rfl <| ryV rfl rfl rfl (oLb uT23 rfl rfl rfl dC0) <| smR 1 rfl <| ryV rfl rfl rfl (iSq rfl rfl rfl uT23 hgi tS51 rfl oM0) <| smR 3 rfl <| ryV rfl rfl rfl (nCk rfl rfl rfl) <| smR 2 rfl <| ryV rfl rfl rfl (oLb uT23 rfl rfl rfl dC0) <| smR 1 rfl <| ryV rfl rfl rfl (iSq rfl rfl rfl uT23 hgi tS51 rfl oM0) ?_
    refine smR 2 rfl ?_
    refine ryV rfl rfl rfl (z8f (j := g.params.toNat) rfl rfl uT35 tS3 (.inl ⟨rfl, rfl⟩) (.inr ⟨_, _, rfl, congrArg (fun z => some (IV.pv (.val (.int .i64 z)))) hgp⟩) (Nat.zero_le _) (by simp; omega) (by simp [eInt])) ?_
    refine nR <| wO 26 kR0 ?_
    refine wY rfl rfl rfl (fun k (h : _) => by (simp at h ⊢; omega)) (nAp rfl) (fun _ _ => z2i (z1d u f set x.args seen (g.types.take g.params.toNat)) z4v rfl rfl (sSm rfl (sSm rfl (sSm rfl (sSm (by simp [ints, List.map_take]) Subs.nil)))) (po2 rfl rfl) rfl (fun _ _ => trivial) rfl rfl) ?_
    refine wR 4 [27, 28, 29, 30, 31, 32, 33, 34, 35, 36, 37, 38, 39, 40] kR0 h30 <| smR 2 rfl ?_
    refine WR.split (t := 226) rfl (fun hb226 => ?_) (fun hb226 => ?_)
    ·refine smR 4 rfl <| ryV rfl rfl rfl (nCk rfl rfl rfl) <| smR 2 rfl <| ryV rfl rfl rfl (oLb uT23 rfl rfl rfl dC0) <| smR 1 rfl <| ryV rfl rfl rfl (iSq rfl rfl rfl uT23 hgi tS51 rfl oM0) <| smR 2 rfl <| nR <| wO 41 kR0 <| wY rfl rfl rfl (fun k (h : _) => by (simp at h ⊢; omega)) nw (fun _ _ => bSl rfl rfl uT35 tZ3 tS3 rfl rfl rfl rfl (fbk rfl) rfl) <| wO 42 kR0 <| wY rfl rfl rfl (fun k (h : _) => by (simp at h ⊢; omega)) (nAp rfl) (fun _ _ => z2i (z1e u f set x.outs [g.ty] hs) z46 rfl rfl (sRf _ _) (po2 rfl rfl) rfl (fun k (h : _) => by (simpa using h)) rfl rfl) ?_
     refine wR 0 [43, 44] kR0 h30 <| smR 2 rfl <| nR <| wDn kR0 <| tRt ?_
     (have h2 : (z00 u f set x seen wh).2 = (z0i f.types set x.outs [g.ty]).2 := (by (try clear hkn hgp); simp_all [z00, andS, z0k]; done)
      rw [h2]
      refine rOk rfl ?_ (po2 rfl rfl)
      clear h2
      try (clear hkn hgp)
      simp_all [z00, andS, z0k]
      done)
    refine smR 12 rfl <| nR <| wN 41 kR0 h30 rfl rfl rfl <| wN 42 kR0 h30 rfl rfl rfl <| wR 0 [43, 44] kR0 h30 <| smR 2 rfl <| nR <| wDn kR0 <| tRt ?_
    (have h2 : (z00 u f set x seen wh).2 = set := (by (try clear hkn hgp); simp_all [z00, andS, z0k]; done)
     rw [h2]
     refine rOk rfl ?_ (po2 rfl rfl)
     clear h2
     try (clear hkn hgp)
     simp_all [z00, andS, z0k]
     done)
   refine smR 23 rfl <| nR <| wN 26 kR0 h30 rfl rfl rfl <| wR 4 [27, 28, 29, 30, 31, 32, 33, 34, 35, 36, 37, 38, 39, 40] kR0 h30 <| smR 14 rfl <| nR <| wN 41 kR0 h30 rfl rfl rfl <| wN 42 kR0 h30 rfl rfl rfl <| wR 0 [43, 44] kR0 h30 <| smR 2 rfl <| nR <| wDn kR0 ?_
   refine tRt ?_
   (have h2 : z00 u f set x seen wh = (false, set) := (by unfold z00 z0k andS; simp only [*]; simp)
    rw [h2]
    exact rOk rfl rfl (po2 rfl rfl))
  refine tQ <| tG <| sm 2 rfl <| nL ?_
  refine tC rfl (fun hc242 => ?_) fun hc242 => ?_
  ·refine tQ <| tG <| sm 2 rfl <| cV rfl (oSm uT35 rfl) <| sm 2 rfl ?_
   refine wS 248 rfl (fun hb248 => ?_) fun hb248 => ?_
   ·refine sm 4 rfl <| WL.yes rfl rfl rfl rfl rfl rfl (z2i (z1e u f set x.outs [1] hs) z46 rfl rfl (sRf _ _) (po2 rfl rfl) rfl (fun k (h : _) => h) rfl rfl) <| sm 2 rfl <| nL <| tRt ?_
    (have h2 : (z00 u f set x seen wh).2 = (z0i f.types set x.outs [1]).2 := (by (try clear hkn hgp); simp_all [z00, andS, z0k]; done)
     rw [h2]
     refine rOk rfl ?_ (po2 rfl rfl)
     clear h2
     try (clear hkn hgp)
     simp_all [z00, andS, z0k]
     done)
   refine sm 7 rfl <| nL <| tRt ?_
   (have h2 : (z00 u f set x seen wh).2 = set := (by (try clear hkn hgp); simp_all [z00, andS, z0k]; done)
    rw [h2]
    refine rOk rfl ?_ (po2 rfl rfl)
    clear h2
    try (clear hkn hgp)
    simp_all [z00, andS, z0k]
    done)
  refine tQ <| tG <| sm 2 rfl <| nL ?_
  refine tC rfl (fun hc255 => ?_) fun hc255 => ?_
  ·refine tQ <| tG <| sm 5 rfl <| cE rfl (z2i (z1d u f set x.args seen [1]) z4v rfl rfl (sRf _ _) (po2 rfl rfl) rfl (fun _ _ => trivial) rfl rfl) <| sm 1 rfl ?_
   refine wS 263 rfl (fun hb263 => ?_) fun hb263 => ?_
   ·refine sm 2 rfl <| yV rfl rfl (oSm uT35 rfl) <| sm 3 rfl <| nL <| tRt ?_
    (have h2 : (z00 u f set x seen wh).2 = set := (by (try clear hkn hgp); simp_all [z00, andS, z0k]; done)
     rw [h2]
     refine rOk rfl ?_ (po2 rfl rfl)
     clear h2
     try (clear hkn hgp)
     simp_all [z00, andS, z0k]
     done)
   refine sm 6 rfl <| nL <| tRt ?_
   (have h2 : (z00 u f set x seen wh).2 = set := (by (try clear hkn hgp); simp_all [z00, andS, z0k]; done)
    rw [h2]
    refine rOk rfl ?_ (po2 rfl rfl)
    clear h2
    try (clear hkn hgp)
    simp_all [z00, andS, z0k]
    done)
  refine tQ <| tG <| sm 2 rfl <| nL ?_
  refine tC rfl (fun hc269 => ?_) fun hc269 => ?_
  ·refine tQ <| tG <| sm 3 rfl ?_
   refine wS 273 rfl (fun hb273 => ?_) fun hb273 => ?_
   ·refine sm 6 rfl <| WL.yes rfl rfl rfl rfl rfl rfl (z2i (z1d u f set x.args seen wh.Yield) z4v rfl rfl (sRf _ _) (po2 rfl rfl) rfl (fun _ _ => trivial) rfl rfl) <| sm 2 rfl ?_
    refine wS 282 rfl (fun hb282 => ?_) fun hb282 => ?_
    ·refine sm 2 rfl <| yV rfl rfl (oSm uT35 rfl) <| sm 3 rfl <| nL <| tRt ?_
     (have h2 : (z00 u f set x seen wh).2 = set := (by (try clear hkn hgp); simp_all [z00, andS, z0k]; done)
      rw [h2]
      refine rOk rfl ?_ (po2 rfl rfl)
      clear h2
      try (clear hkn hgp)
      simp_all [z00, andS, z0k]
      done)
    refine sm 6 rfl <| nL <| tRt ?_
    (have h2 : (z00 u f set x seen wh).2 = set := (by (try clear hkn hgp); simp_all [z00, andS, z0k]; done)
     rw [h2]
     refine rOk rfl ?_ (po2 rfl rfl)
     clear h2
     try (clear hkn hgp)
     simp_all [z00, andS, z0k]
     done)
   refine sm 15 rfl <| nL <| tRt ?_
   (have h2 : (z00 u f set x seen wh).2 = set := (by (try clear hkn hgp); simp_all [z00, andS, z0k]; done)
    rw [h2]
    refine rOk rfl ?_ (po2 rfl rfl)
    clear h2
    try (clear hkn hgp)
    simp_all [z00, andS, z0k]
    done)
  refine tQ <| tG <| sm 2 rfl <| nL ?_
  refine tC rfl (fun hc288 => ?_) fun hc288 => ?_
  ·refine tQ <| tG <| sm 3 rfl ?_
   refine wS 292 rfl (fun hb292 => ?_) fun hb292 => ?_
   ·refine sm 6 rfl <| WL.yes rfl rfl rfl rfl rfl rfl (z2i (z1d u f set x.args seen wh.Next) z4v rfl rfl (sRf _ _) (po2 rfl rfl) rfl (fun _ _ => trivial) rfl rfl) <| sm 2 rfl ?_
    refine wS 301 rfl (fun hb301 => ?_) fun hb301 => ?_
    ·refine sm 2 rfl <| yV rfl rfl (oSm uT35 rfl) <| sm 3 rfl <| nL <| tRt ?_
     (have h2 : (z00 u f set x seen wh).2 = set := (by (try clear hkn hgp); simp_all [z00, andS, z0k]; done)
      rw [h2]
      refine rOk rfl ?_ (po2 rfl rfl)
      clear h2
      try (clear hkn hgp)
      simp_all [z00, andS, z0k]
      done)
    refine sm 6 rfl <| nL <| tRt ?_
    (have h2 : (z00 u f set x seen wh).2 = set := (by (try clear hkn hgp); simp_all [z00, andS, z0k]; done)
     rw [h2]
     refine rOk rfl ?_ (po2 rfl rfl)
     clear h2
     try (clear hkn hgp)
     simp_all [z00, andS, z0k]
     done)
   refine sm 15 rfl <| nL <| tRt ?_
   (have h2 : (z00 u f set x seen wh).2 = set := (by (try clear hkn hgp); simp_all [z00, andS, z0k]; done)
    rw [h2]
    refine rOk rfl ?_ (po2 rfl rfl)
    clear h2
    try (clear hkn hgp)
    simp_all [z00, andS, z0k]
    done)
  refine tQ <| tG <| sm 2 rfl <| nL ?_
  refine tC rfl (fun hc307 => ?_) fun hc307 => ?_
  ·refine tQ <| tG <| sm 3 rfl ?_
   refine wS 311 rfl (fun hb311 => ?_) fun hb311 => ?_
   ·refine sm 6 rfl <| WL.yes rfl rfl rfl rfl rfl rfl (z2i (z1d u f set x.args seen wh.Left) z4v rfl rfl (sRf _ _) (po2 rfl rfl) rfl (fun _ _ => trivial) rfl rfl) <| sm 2 rfl ?_
    refine wS 320 rfl (fun hb320 => ?_) fun hb320 => ?_
    ·refine sm 2 rfl <| yV rfl rfl (oSm uT35 rfl) <| sm 3 rfl <| nL <| tRt ?_
     (have h2 : (z00 u f set x seen wh).2 = set := (by (try clear hkn hgp); simp_all [z00, andS, z0k]; done)
      rw [h2]
      refine rOk rfl ?_ (po2 rfl rfl)
      clear h2
      try (clear hkn hgp)
      simp_all [z00, andS, z0k]
      done)
    refine sm 6 rfl <| nL <| tRt ?_
    (have h2 : (z00 u f set x seen wh).2 = set := (by (try clear hkn hgp); simp_all [z00, andS, z0k]; done)
     rw [h2]
     refine rOk rfl ?_ (po2 rfl rfl)
     clear h2
     try (clear hkn hgp)
     simp_all [z00, andS, z0k]
     done)
   refine sm 15 rfl <| nL <| tRt ?_
   (have h2 : (z00 u f set x seen wh).2 = set := (by (try clear hkn hgp); simp_all [z00, andS, z0k]; done)
    rw [h2]
    refine rOk rfl ?_ (po2 rfl rfl)
    clear h2
    try (clear hkn hgp)
    simp_all [z00, andS, z0k]
    done)
  refine tQ <| tG <| sm 2 rfl <| nL ?_
  refine tC rfl (fun hc326 => ?_) fun hc326 => ?_
  ·refine tQ <| tDr z1t (fun k => k ∈ ([3] : List Nat)) <| wR 9 [0, 1, 2, 3, 4, 5, 6, 7, 8] kR0 h30 <| smR 5 rfl <| rV rfl rfl (nCk rfl rfl rfl) <| smR 2 rfl <| rV rfl rfl (oLb uT3 rfl rfl rfl dC0) <| nR <| wO 9 kR0 <| wI rfl rfl (fun k (h : _) => by (simp at h ⊢; omega)) nw (fun _ _ => bSl rfl rfl uT35 tZ3 tS3 rfl rfl rfl rfl (fbk rfl) rfl) <| wO 10 kR0 <| wI rfl rfl (fun k (h : _) => by (simp at h ⊢; omega)) (nAp rfl) (fun _ _ => z2i (z1d u f set x.args seen [f.ty]) z4v rfl rfl (sRf _ _) (po2 rfl rfl) rfl (fun _ _ => trivial) rfl rfl) ?_
   refine wR 0 [11, 12, 13, 14, 15, 16, 17] kR0 h30 <| smR 1 rfl ?_
   refine WR.split (t := 339) rfl (fun hb339 => ?_) (fun hb339 => ?_)
   ·refine smR 2 rfl <| ryV rfl rfl rfl (oSm uT35 rfl) <| smR 3 rfl <| nR <| wDn kR0 <| tRt ?_
    (have h2 : (z00 u f set x seen wh).2 = set := (by (try clear hkn hgp); simp_all [z00, andS, z0k]; done)
     rw [h2]
     refine rOk rfl ?_ (po2 rfl rfl)
     clear h2
     try (clear hkn hgp)
     simp_all [z00, andS, z0k]
     done)
   refine smR 6 rfl <| nR <| wDn kR0 <| tRt ?_
   (have h2 : (z00 u f set x seen wh).2 = set := (by (try clear hkn hgp); simp_all [z00, andS, z0k]; done)
    rw [h2]
    refine rOk rfl ?_ (po2 rfl rfl)
    clear h2
    try (clear hkn hgp)
    simp_all [z00, andS, z0k]
    done)
  refine tSk <| tQ <| tG <| sm 1 rfl <| nL <| tRt ?_
  (have h2 : (z00 u f set x seen wh).2 = set := (by (try clear hkn hgp); simp_all [z00, andS, z0k]; done)
   rw [h2]
   refine rOk rfl ?_ (po2 rfl rfl)
   clear h2
   try (clear hkn hgp)
   simp_all [z00, andS, z0k]
   done)
end Go.Proofs.YtekdhljpmflboaaGreat
