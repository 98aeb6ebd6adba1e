/- Units by numbers: whether trim refuses one is what the document says; else what comes out may be, has its arrays and flows' heads, its loops have rounds, and its ifs a choice. No conditions. -/
import Derived.Test.YtekdhljpmflboaaGreatTg5
set_option maxRecDepth 8000
set_option maxHeartbeats 2000000
set_option linter.unusedSimpArgs false
set_option linter.unusedVariables false
set_option linter.unusedSectionVars false
namespace Go.Proofs.YtekdhljpmflboaaGreat
open Go
theorem zn5 (n : Int) : SC Tryz.prog 84 [.pv (.val (.int .i32 n))] [] (fun _ => False) (iBool (z1y n)) [] := by
  refine SC.of Tryz.func84 rfl (lb rfl) fun F ρ w => ?_
  refine tQ <| tG <| sm 1 rfl <| nL <| tQ <| tG <| sm 3 rfl ?_
  refine wS 5 rfl (fun hb5 => ?_) fun hb5 => ?_
  ·refine sm 4 rfl ?_
   refine wS 9 rfl (fun hb9 => ?_) fun hb9 => ?_
   ·refine sm 3 rfl <| nUu rfl rfl rfl rfl rfl rfl <| nUu rfl rfl rfl rfl rfl rfl <| sm 7 rfl <| nL <| tRt <| rOk rfl ?_ nPo
    unfold z1y
    first | (simp_all; done) | (simp_all <;> omega)
   refine sm 3 rfl ?_
   refine wS 12 rfl (fun hb12 => ?_) fun hb12 => ?_
   ·refine sm 5 rfl ?_
    refine wS 17 rfl (fun hb17 => ?_) fun hb17 => ?_
    ·refine sm 4 rfl <| nL <| tRt <| rOk rfl ?_ nPo
     unfold z1y
     first | (simp_all; done) | (simp_all <;> omega)
    refine sm 4 rfl <| nL <| tRt <| rOk rfl ?_ nPo
    unfold z1y
    first | (simp_all; done) | (simp_all <;> omega)
   refine sm 9 rfl <| nL <| tRt <| rOk rfl ?_ nPo
   unfold z1y
   first | (simp_all; done) | (simp_all <;> omega)
  refine sm 7 rfl ?_
  refine wS 12 rfl (fun hb12 => ?_) fun hb12 => ?_
  ·refine sm 5 rfl ?_
   refine wS 17 rfl (fun hb17 => ?_) fun hb17 => ?_
   ·refine sm 4 rfl <| nL <| tRt <| rOk rfl ?_ nPo
    unfold z1y
    first | (simp_all; done) | (simp_all <;> omega)
   refine sm 4 rfl <| nL <| tRt <| rOk rfl ?_ nPo
   unfold z1y
   first | (simp_all; done) | (simp_all <;> omega)
  refine sm 9 rfl <| nL <| tRt <| rOk rfl ?_ nPo
  unfold z1y
  first | (simp_all; done) | (simp_all <;> omega)
theorem y5h (n : Int) : SC Tryz.prog 105 [.pv (.val (.int .i32 n))] [] (fun _ => False) (iBool (z75 n)) [] := by
  refine SC.of Tryz.func105 rfl (lb rfl) fun F ρ w => ?_
  refine tQ <| tG <| sm 1 rfl <| nL <| tQ <| tG <| sm 3 rfl ?_
  refine wS 5 rfl (fun hb5 => ?_) fun hb5 => ?_
  ·refine sm 4 rfl <| nL <| tRt <| rOk rfl ?_ nPo
   unfold z75
   first | (simp_all; done) | (simp_all <;> omega)
  refine sm 4 rfl <| nL <| tRt <| rOk rfl ?_ nPo
  unfold z75
  first | (simp_all; done) | (simp_all <;> omega)
theorem y8v (s : ByteArray) : SC Tryz.prog 86 [iStr s] [] (fun _ => False) (iBool (z0n s)) [] := by
  refine SC.of Tryz.func86 rfl (lb rfl) fun F ρ w => ?_
  refine tQ <| tG <| sm 1 rfl <| nL <| tQ <| tQ <| tG <| sm 1 rfl <| nL <| tBk <| tQ <| tQ ?_
  refine tG <| cV rfl (bSt rfl rfl rfl rfl) <| sm 1 rfl <| nL ?_
  refine tC rfl (fun hc4 => ?_) fun hc4 => ?_
  ·refine tSk ?_
   refine tC rfl (fun hc4 => ?_) fun hc4 => ?_
   ·refine tQ <| tG <| sm 1 rfl <| nL <| tRt <| rOk rfl ?_ nPo
    refine congrArg (fun b => iBool b) ?_
    simp_all [z0n]
   refine tSk <| tQ <| tG <| sm 1 rfl <| nL <| tRt <| rOk rfl ?_ nPo
   refine congrArg (fun b => iBool b) ?_
   simp_all [z0n]
  refine tQ <| tG <| cV rfl (bSt rfl rfl rfl rfl) <| sm 1 rfl <| nL ?_
  refine tC rfl (fun hc4 => ?_) fun hc4 => ?_
  ·refine tSk ?_
   refine tC rfl (fun hc4 => ?_) fun hc4 => ?_
   ·refine tQ <| tG <| sm 1 rfl <| nL <| tRt <| rOk rfl ?_ nPo
    refine congrArg (fun b => iBool b) ?_
    simp_all [z0n]
   refine tSk <| tQ <| tG <| sm 1 rfl <| nL <| tRt <| rOk rfl ?_ nPo
   refine congrArg (fun b => iBool b) ?_
   simp_all [z0n]
  refine tQ <| tG <| cV rfl (bSt rfl rfl rfl rfl) <| sm 1 rfl <| nL ?_
  refine tC rfl (fun hc4 => ?_) fun hc4 => ?_
  ·refine tSk ?_
   refine tC rfl (fun hc4 => ?_) fun hc4 => ?_
   ·refine tQ <| tG <| sm 1 rfl <| nL <| tRt <| rOk rfl ?_ nPo
    refine congrArg (fun b => iBool b) ?_
    simp_all [z0n]
   refine tSk <| tQ <| tG <| sm 1 rfl <| nL <| tRt <| rOk rfl ?_ nPo
   refine congrArg (fun b => iBool b) ?_
   simp_all [z0n]
  refine tQ <| tG <| cV rfl (bSt rfl rfl rfl rfl) <| sm 1 rfl <| nL ?_
  refine tC rfl (fun hc4 => ?_) fun hc4 => ?_
  ·refine tSk ?_
   refine tC rfl (fun hc4 => ?_) fun hc4 => ?_
   ·refine tQ <| tG <| sm 1 rfl <| nL <| tRt <| rOk rfl ?_ nPo
    refine congrArg (fun b => iBool b) ?_
    simp_all [z0n]
   refine tSk <| tQ <| tG <| sm 1 rfl <| nL <| tRt <| rOk rfl ?_ nPo
   refine congrArg (fun b => iBool b) ?_
   simp_all [z0n]
  refine tQ <| tG <| cV rfl (bSt rfl rfl rfl rfl) <| sm 1 rfl <| nL ?_
  refine tC rfl (fun hc4 => ?_) fun hc4 => ?_
  ·refine tSk ?_
   refine tC rfl (fun hc4 => ?_) fun hc4 => ?_
   ·refine tQ <| tG <| sm 1 rfl <| nL <| tRt <| rOk rfl ?_ nPo
    refine congrArg (fun b => iBool b) ?_
    simp_all [z0n]
   refine tSk <| tQ <| tG <| sm 1 rfl <| nL <| tRt <| rOk rfl ?_ nPo
   refine congrArg (fun b => iBool b) ?_
   simp_all [z0n]
  refine tQ <| tG <| cV rfl (bSt rfl rfl rfl rfl) <| sm 1 rfl <| nL ?_
  refine tC rfl (fun hc4 => ?_) fun hc4 => ?_
  ·refine tSk ?_
   refine tC rfl (fun hc4 => ?_) fun hc4 => ?_
   ·refine tQ <| tG <| sm 1 rfl <| nL <| tRt <| rOk rfl ?_ nPo
    refine congrArg (fun b => iBool b) ?_
    simp_all [z0n]
   refine tSk <| tQ <| tG <| sm 1 rfl <| nL <| tRt <| rOk rfl ?_ nPo
   refine congrArg (fun b => iBool b) ?_
   simp_all [z0n]
  refine tQ <| tG <| cV rfl (bSt rfl rfl rfl rfl) <| sm 1 rfl <| nL ?_
  refine tC rfl (fun hc4 => ?_) fun hc4 => ?_
  ·refine tSk ?_
   refine tC rfl (fun hc4 => ?_) fun hc4 => ?_
   ·refine tQ <| tG <| sm 1 rfl <| nL <| tRt <| rOk rfl ?_ nPo
    refine congrArg (fun b => iBool b) ?_
    simp_all [z0n]
   refine tSk <| tQ <| tG <| sm 1 rfl <| nL <| tRt <| rOk rfl ?_ nPo
   refine congrArg (fun b => iBool b) ?_
   simp_all [z0n]
  refine tQ <| tG <| cV rfl (bSt rfl rfl rfl rfl) <| sm 1 rfl <| nL ?_
  refine tC rfl (fun hc4 => ?_) fun hc4 => ?_
  ·refine tSk ?_
   refine tC rfl (fun hc4 => ?_) fun hc4 => ?_
   ·refine tQ <| tG <| sm 1 rfl <| nL <| tRt <| rOk rfl ?_ nPo
    refine congrArg (fun b => iBool b) ?_
    simp_all [z0n]
   refine tSk <| tQ <| tG <| sm 1 rfl <| nL <| tRt <| rOk rfl ?_ nPo
   refine congrArg (fun b => iBool b) ?_
   simp_all [z0n]
  refine tQ <| tG <| cV rfl (bSt rfl rfl rfl rfl) <| sm 1 rfl <| nL ?_
  refine tC rfl (fun hc4 => ?_) fun hc4 => ?_
  ·refine tSk ?_
   refine tC rfl (fun hc4 => ?_) fun hc4 => ?_
   ·refine tQ <| tG <| sm 1 rfl <| nL <| tRt <| rOk rfl ?_ nPo
    refine congrArg (fun b => iBool b) ?_
    simp_all [z0n]
   refine tSk <| tQ <| tG <| sm 1 rfl <| nL <| tRt <| rOk rfl ?_ nPo
   refine congrArg (fun b => iBool b) ?_
   simp_all [z0n]
  refine tQ <| tG <| cV rfl (bSt rfl rfl rfl rfl) <| sm 1 rfl <| nL ?_
  refine tC rfl (fun hc4 => ?_) fun hc4 => ?_
  ·refine tSk ?_
   refine tC rfl (fun hc4 => ?_) fun hc4 => ?_
   ·refine tQ <| tG <| sm 1 rfl <| nL <| tRt <| rOk rfl ?_ nPo
    refine congrArg (fun b => iBool b) ?_
    simp_all [z0n]
   refine tSk <| tQ <| tG <| sm 1 rfl <| nL <| tRt <| rOk rfl ?_ nPo
   refine congrArg (fun b => iBool b) ?_
   simp_all [z0n]
  refine tQ <| tG <| cV rfl (bSt rfl rfl rfl rfl) <| sm 1 rfl <| nL ?_
  refine tC rfl (fun hc4 => ?_) fun hc4 => ?_
  ·refine tSk ?_
   refine tC rfl (fun hc4 => ?_) fun hc4 => ?_
   ·refine tQ <| tG <| sm 1 rfl <| nL <| tRt <| rOk rfl ?_ nPo
    refine congrArg (fun b => iBool b) ?_
    simp_all [z0n]
   refine tSk <| tQ <| tG <| sm 1 rfl <| nL <| tRt <| rOk rfl ?_ nPo
   refine congrArg (fun b => iBool b) ?_
   simp_all [z0n]
  refine tQ <| tG <| cV rfl (bSt rfl rfl rfl rfl) <| sm 1 rfl <| nL ?_
  refine tC rfl (fun hc4 => ?_) fun hc4 => ?_
  ·refine tSk ?_
   refine tC rfl (fun hc4 => ?_) fun hc4 => ?_
   ·refine tQ <| tG <| sm 1 rfl <| nL <| tRt <| rOk rfl ?_ nPo
    refine congrArg (fun b => iBool b) ?_
    simp_all [z0n]
   refine tSk <| tQ <| tG <| sm 1 rfl <| nL <| tRt <| rOk rfl ?_ nPo
   refine congrArg (fun b => iBool b) ?_
   simp_all [z0n]
  refine tQ <| tG <| cV rfl (bSt rfl rfl rfl rfl) <| sm 1 rfl <| nL ?_
  refine tC rfl (fun hc4 => ?_) fun hc4 => ?_
  ·refine tSk ?_
   refine tC rfl (fun hc4 => ?_) fun hc4 => ?_
   ·refine tQ <| tG <| sm 1 rfl <| nL <| tRt <| rOk rfl ?_ nPo
    refine congrArg (fun b => iBool b) ?_
    simp_all [z0n]
   refine tSk <| tQ <| tG <| sm 1 rfl <| nL <| tRt <| rOk rfl ?_ nPo
   refine congrArg (fun b => iBool b) ?_
   simp_all [z0n]
  refine tQ <| tG <| cV rfl (bSt rfl rfl rfl rfl) <| sm 1 rfl <| nL ?_
  refine tC rfl (fun hc4 => ?_) fun hc4 => ?_
  ·refine tSk ?_
   refine tC rfl (fun hc4 => ?_) fun hc4 => ?_
   ·refine tQ <| tG <| sm 1 rfl <| nL <| tRt <| rOk rfl ?_ nPo
    refine congrArg (fun b => iBool b) ?_
    simp_all [z0n]
   refine tSk <| tQ <| tG <| sm 1 rfl <| nL <| tRt <| rOk rfl ?_ nPo
   refine congrArg (fun b => iBool b) ?_
   simp_all [z0n]
  refine tQ <| tG <| cV rfl (bSt rfl rfl rfl rfl) <| sm 1 rfl <| nL ?_
  refine tC rfl (fun hc4 => ?_) fun hc4 => ?_
  ·refine tSk ?_
   refine tC rfl (fun hc4 => ?_) fun hc4 => ?_
   ·refine tQ <| tG <| sm 1 rfl <| nL <| tRt <| rOk rfl ?_ nPo
    refine congrArg (fun b => iBool b) ?_
    simp_all [z0n]
   refine tSk <| tQ <| tG <| sm 1 rfl <| nL <| tRt <| rOk rfl ?_ nPo
   refine congrArg (fun b => iBool b) ?_
   simp_all [z0n]
  refine tQ <| tG <| cV rfl (bSt rfl rfl rfl rfl) <| sm 1 rfl <| nL ?_
  refine tC rfl (fun hc4 => ?_) fun hc4 => ?_
  ·refine tSk ?_
   refine tC rfl (fun hc4 => ?_) fun hc4 => ?_
   ·refine tQ <| tG <| sm 1 rfl <| nL <| tRt <| rOk rfl ?_ nPo
    refine congrArg (fun b => iBool b) ?_
    simp_all [z0n]
   refine tSk <| tQ <| tG <| sm 1 rfl <| nL <| tRt <| rOk rfl ?_ nPo
   refine congrArg (fun b => iBool b) ?_
   simp_all [z0n]
  refine tQ <| tG <| cV rfl (bSt rfl rfl rfl rfl) <| sm 1 rfl <| nL ?_
  refine tC rfl (fun hc4 => ?_) fun hc4 => ?_
  ·refine tSk ?_
   refine tC rfl (fun hc4 => ?_) fun hc4 => ?_
   ·refine tQ <| tG <| sm 1 rfl <| nL <| tRt <| rOk rfl ?_ nPo
    refine congrArg (fun b => iBool b) ?_
    simp_all [z0n]
   refine tSk <| tQ <| tG <| sm 1 rfl <| nL <| tRt <| rOk rfl ?_ nPo
   refine congrArg (fun b => iBool b) ?_
   simp_all [z0n]
  refine tG <| cV rfl (bSt rfl rfl rfl rfl) <| sm 1 rfl <| nL ?_
  refine tC rfl (fun hc4 => ?_) fun hc4 => ?_
  ·refine tQ <| tG <| sm 1 rfl <| nL <| tRt <| rOk rfl ?_ nPo
   refine congrArg (fun b => iBool b) ?_
   simp_all [z0n]
  refine tSk <| tQ <| tG <| sm 1 rfl <| nL <| tRt <| rOk rfl ?_ nPo
  refine congrArg (fun b => iBool b) ?_
  simp_all [z0n]
theorem sc_tkRun (s : ByteArray) : SC Tryz.prog 85 [iStr s] [] (fun _ => False) (iStr (y52 s)) [] := by
  refine SC.of Tryz.func85 rfl (lb rfl) fun F ρ w => ?_
  refine tQ <| tG <| sm 1 rfl <| nL <| tQ ?_
  refine Tr.strRange rfl rfl rfl rfl rfl rfl rfl rfl uT9 rfl rfl rfl rfl rfl rfl rfl rfl rfl rfl rfl (fun _ h => h) (fun k fr => (k <= s.toList.length /\ (s.toList.take k).all isLD = true) /\ fr = [(0, iStr s)]) ⟨[(0, iStr s)], Sub.of ⟨rfl, trivial⟩, ⟨Nat.zero_le _, rfl⟩, rfl⟩ ?_ ?_
  ·rintro b0 k _ hk ⟨hI, rfl⟩
   refine tQ <| tG <| sm 2 rfl <| nL <| tRt <| rOk rfl ?_ nPo
   have hall : s.toList.all isLD = true := by
     have := hI.2
     rwa [List.take_of_length_le (by rw [z96]; exact hk)] at this
   simp [y52, hall]
  rintro ρ2 w2 b0 k _ hk ⟨hI, rfl⟩
  have hlt : k < s.toList.length := by rw [z96]; exact hk
  refine tBk <| tQ <| tG <| cV rfl (z1v rfl rfl rfl) <| cV rfl (z1v rfl rfl rfl) <| sm 2 rfl <| nL <| tQ <| tG <| sm 1 rfl <| cE rfl (ocq (zn5 _) ent84 rfl rfl) <| sm 2 rfl ?_
  refine wS 14 rfl (fun hb14 => ?_) fun hb14 => ?_
  ·refine sm 1 rfl <| WL.yes rfl rfl rfl rfl rfl rfl (z1n (y5h _) ent105 rfl rfl (sRf _ _) rfl) <| sm 2 rfl <| nL ?_
   refine tC rfl (fun hc18 => ?_) fun hc18 => ?_
   ·refine tQ <| tG <| sm 2 rfl <| cV rfl (zf3 rfl rfl uT9 (.inl ⟨rfl, rfl⟩) (.inr ⟨_, _, rfl, rfl⟩) oM0 (Nat.le_of_lt (by assumption))) <| sm 1 rfl <| nL <| tRt <| rOk rfl ?_ nPo
    have hld : zp4 (Utf8.decode s k).1 = false := by
      simp only [zp4]
      simp_all
    rw [runOf_at hI.2 (List.getElem?_eq_getElem hlt) ((zi8 hlt).2 hld)]
   refine tSk ?_
   refine ⟨rfl, [(0, iStr s)], Sub.of ⟨rfl, rfl, trivial⟩, ?_, rfl⟩
   have hld : zp4 (Utf8.decode s k).1 = true := by
     simp only [zp4]
     simp_all
   obtain ⟨hw1, hb1⟩ := (zi8 hlt).1 hld
   rw [hw1]
   exact ⟨by omega, by rw [List.take_succ_eq_append_getElem hlt, List.all_append, hI.2]; simp [hb1]⟩
  refine sm 4 rfl <| nL <| Tr.condF rfl <| tSk ?_
  refine ⟨rfl, [(0, iStr s)], Sub.of ⟨rfl, rfl, trivial⟩, ?_, rfl⟩
  have hld : zp4 (Utf8.decode s k).1 = true := by
    simp only [zp4]
    simp_all
  obtain ⟨hw1, hb1⟩ := (zi8 hlt).1 hld
  rw [hw1]
  exact ⟨by omega, by rw [List.take_succ_eq_append_getElem hlt, List.all_append, hI.2]; simp [hb1]⟩
theorem y0x (s : ByteArray) : SC Tryz.prog 59 [iStr s] [] (fun _ => False) (iBool (z4z s)) [] := by
  refine SC.of Tryz.func59 rfl (lb rfl) fun F ρ w => ?_
  refine tQ <| tG <| sm 1 rfl <| nL <| tQ <| tG <| sm 1 rfl <| cV rfl (bSt rfl rfl rfl rfl) <| sm 1 rfl ?_
  refine wS 5 rfl (fun hb5 => ?_) fun hb5 => ?_
  ·have hne : s.toList ≠ [] := by simpa using hb5
   obtain ⟨b0, r0, hs0⟩ := List.exists_cons_of_ne_nil hne
   have hi0 : s[0]? = some b0 := by rw [y31 (i := 0) (by rw [hs0]; simp)]; simp [hs0]
   have hw0 : IntKind.i32.wrap (b0.toNat : Int) = b0.toNat := by
     have : b0.toNat < 256 := b0.toNat_lt
     simp [IntKind.wrap, IntKind.bits, IntKind.signed]
     omega
   have hre := runOf_eq s
   refine sm 1 rfl <| yV rfl rfl (z52 rfl rfl rfl uT9 (by assumption) (by rfl)) <| yV rfl rfl (z47 rfl rfl ⟨_, Tryz.underlying5⟩ Tryz.underlying21) <| WL.yes rfl rfl rfl rfl rfl rfl (z1n (zn5 _) ent84 rfl rfl (sRf _ _) rfl) <| sm 2 rfl ?_
   refine wS 11 rfl (fun hb11 => ?_) fun hb11 => ?_
   ·refine sm 1 rfl <| WL.yes rfl rfl rfl rfl rfl rfl (z1n (sc_tkRun s) ent85 rfl rfl (sRf _ _) rfl) <| sm 1 rfl <| yV rfl rfl (bSt rfl rfl rfl rfl) <| sm 2 rfl ?_
    refine wS 17 rfl (fun hb17 => ?_) fun hb17 => ?_
    ·refine sm 1 rfl <| yV rfl rfl (z8t rfl rfl uT9) <| sm 3 rfl ?_
     refine wS 22 rfl (fun hb22 => ?_) fun hb22 => ?_
     ·refine sm 1 rfl <| WL.yes rfl rfl rfl rfl rfl rfl (z1n (y8v s) ent86 rfl rfl (sRf _ _) rfl) <| sm 3 rfl <| nL <| tRt <| rOk rfl ?_ nPo
      refine congrArg (fun b => iBool b) ?_
      simp_all [z4z]
     refine sm 5 rfl <| nL <| tRt <| rOk rfl ?_ nPo
     refine congrArg (fun b => iBool b) ?_
     (simp_all [z4z] <;> omega)
    refine sm 10 rfl <| nL <| tRt <| rOk rfl ?_ nPo
    refine congrArg (fun b => iBool b) ?_
    simp_all [z4z]
   refine sm 16 rfl <| nL <| tRt <| rOk rfl ?_ nPo
   refine congrArg (fun b => iBool b) ?_
   simp_all [z4z]
  refine sm 22 rfl <| nL <| tRt <| rOk rfl ?_ nPo
  refine congrArg (fun b => iBool b) ?_
  simp_all [z4z]
theorem y8p (u : Un) (hW : z1g u <= 536870912) : SC Tryz.prog 37 [.pv u.enc] [] (fun _ => False) (iBool (z42 u)) [] := by
  refine SC.of Tryz.func37 rfl (lb rfl) fun F ρ w => ?_
  have hW2 : z1g u = u.arrays.length + u.flows.length + wtA u.arrays + wtF u.flows := rfl
  have hW3 : (u.arrays.length : Int) + u.flows.length <= 536870912 := by omega
  refine tQ <| tG <| cE rfl (z1p rfl rfl) <| sm 1 rfl <| nL <| tQ <| tG <| cE rfl (zr7 (k := 109) rfl rfl rfl rfl rfl) <| sm 1 rfl <| nL <| tQ <| tQ ?_
  refine tG <| sm 2 rfl ?_
  refine WL.lenOf (t := 11) rfl (fun hl1 => ?_)
  simp only [List.length_map] at hl1
  refine cV rfl (oSm uT22 rfl) <| sm 1 rfl <| nL <| tBk <| Tr.sub (Sub.of (fr' := [(13, iInt 0), (12, iInt u.arrays.length), (11, .pv (arrs u.arrays)), (3, .mp 109), (1, .pv (.ept [arrs u.arrays, flws u.flows] 0))]) ⟨rfl, rfl, rfl, rfl, rfl, trivial⟩) ?_
  refine Tr.loop (fun fr σ m => ∃ (k : Nat) (es : List (Value × PV)), (k <= u.arrays.length) /\ (u.arrays.all z7u = (u.arrays.drop k).all z7u) /\ (ze5 [] u.arrays = ze5 es (u.arrays.drop k)) /\ (Cnt es) /\ fr = [(13, iInt k), (12, iInt u.arrays.length), (11, .pv (arrs u.arrays)), (3, .mp 109), (1, .pv (.ept [arrs u.arrays, flws u.flows] 0))] /\ σ = look [(109, some (.map es))] /\ m = u.arrays.length - k) (n := u.arrays.length - 0) ?_ ?_
  ·exact ⟨0, [], Nat.zero_le _, rfl, rfl, Cnt.nil, rfl, rfl, rfl⟩
  rintro fr σ m ⟨k, es, hI0, hI1, hI2, hI3, rfl, rfl, rfl⟩
  refine tQ <| tG <| sm 1 rfl <| nL <| tQ ?_
  refine tC rfl (fun hc14 => ?_) fun hc14 => ?_
  ·have hlt : k < u.arrays.length := by simpa using hc14
   have hd := List.drop_eq_getElem_cons hlt
   have hm := List.getElem_mem hlt
   have hi := z08 (f := Ar.enc) (List.getElem?_eq_getElem hlt)
   generalize u.arrays[k] = x at hd hm hi
   refine tSk <| tQ <| tBk <| tQ <| tG <| cV rfl (iSq rfl rfl rfl uT22 hi tS49 rfl (by rfl)) <| cV rfl (lEA rfl rfl Tryz.underlying49 rfl tS49 (lb rfl)) <| cE rfl (aLc (k := 105) rfl tZ49 rfl rfl rfl rfl) <| c0 (sBA rfl rfl rfl rfl rfl ((fun h => h)) tS49 (flk rfl) (lb rfl)) <| nL <| tQ <| Tr.freezeBox (t := 5) (k := 105) rfl rfl rfl ?_
   refine Tr.heap (σ' := look [(109, some (.map es))]) (fun k => by
     simp only [look]
     by_cases h : 105 = k
     · subst h; rfl
     · simp [z0x h]) ?_
   obtain ⟨n, hn⟩ := hI3.find (.string x.name)
   have hbump := zt2 hn
   have hes := hI3.1
   refine tG <| sm 3 rfl <| cV rfl (zl0 rfl rfl rfl rfl Tryz.underlying95 uT9 rfl (by assumption) tZ3 trivial) <| WL.sub (Sub.of (fr' := [(20, iInt n), (19, iStr x.name), (17, .mp 109), (5, .pv (.ept [vStr x.name, vInt x.size] 0)), (13, iInt k), (12, iInt u.arrays.length), (11, .pv (arrs u.arrays)), (3, .mp 109), (1, .pv (.ept [arrs u.arrays, flws u.flows] 0))]) ⟨congrArg (fun p => some (IV.pv p)) hn, rfl, rfl, rfl, rfl, rfl, rfl, rfl, rfl, trivial⟩) <| sm 1 rfl <| c0 (z89 rfl rfl rfl rfl rfl ((fun h => h)) Tryz.underlying95 uT9 rfl (by assumption)) <| nL <| tQ <| tG <| sm 2 rfl <| cE rfl (ocq (y0x _) ent59 rfl rfl) <| sm 2 rfl ?_
   refine wS 26 rfl (fun hb26 => ?_) fun hb26 => ?_
   ·refine sm 9 rfl <| nL <| Tr.condT rfl <| tQ <| tG <| sm 1 rfl <| nL <| tRt <| rOk rfl ?_ nPo
    have hx : z7u x = false := by
      clear hd hm hi hI1 hI2 hn
      simp_all [z7u]
    have hA : u.arrays.all z7u = false := by rw [hI1, hd]; simp only [List.all_cons, hx, Bool.false_and]
    simp only [z42, hA, Bool.false_and]
   refine sm 5 rfl ?_
   refine wS 31 rfl (fun hb31 => ?_) fun hb31 => ?_
   ·refine sm 4 rfl <| nL <| Tr.condT rfl <| tQ <| tG <| sm 1 rfl <| nL <| tRt <| rOk rfl ?_ nPo
    have hx : z7u x = false := by
      clear hd hm hi hI1 hI2 hn
      simp_all [z7u]
    have hA : u.arrays.all z7u = false := by rw [hI1, hd]; simp only [List.all_cons, hx, Bool.false_and]
    simp only [z42, hA, Bool.false_and]
   refine sm 4 rfl <| nL ?_
   refine tC rfl (fun hc35 => ?_) fun hc35 => ?_
   ·refine tQ <| tG <| sm 1 rfl <| nL <| tRt <| rOk rfl ?_ nPo
    have hx : z7u x = false := by
      clear hd hm hi hI1 hI2 hn
      simp_all [z7u]
    have hA : u.arrays.all z7u = false := by rw [hI1, hd]; simp only [List.all_cons, hx, Bool.false_and]
    simp only [z42, hA, Bool.false_and]
   refine tSk <| tG <| cV rfl (oB rfl rfl (z03 rfl oM0)) <| sm 1 rfl <| nL ?_
   refine ⟨_, _, ?_, Sub.of (fr' := [(13, iInt (k + 1)), (12, iInt u.arrays.length), (11, .pv (arrs u.arrays)), (3, .mp 109), (1, .pv (.ept [arrs u.arrays, flws u.flows] 0))]) ⟨rfl, rfl, rfl, rfl, rfl, trivial⟩, (k + 1), (bump x.name es), ?_, ?_, ?_, ?_, rfl, (funext fun j => by
   simp only [look, <- hbump]
   by_cases h : 109 = j
   · subst h; rfl
   · simp [z0x h]), rfl⟩
   ·omega
   ·omega
   ·rw [hI1, hd]
    have hx : z7u x = true := by
      clear hd hm hi hI1 hI2 hn
      simp_all [z7u]
    simp only [List.all_cons, hx, Bool.true_and]
   ·rw [hI2, hd]; rfl
   exact hI3.bump _
  refine tEx <| tQ <| tQ ?_
  have hA : u.arrays.all z7u = true := by
    rw [hI1, List.drop_eq_nil_of_le (by simpa using hc14)]; rfl
  have hcA : ze5 [] u.arrays = es := by
    rw [hI2, List.drop_eq_nil_of_le (by simpa using hc14)]; rfl
  generalize es = es0 at hcA hI3 ⊢
  refine tG <| sm 2 rfl ?_
  refine WL.lenOf (t := 38) rfl (fun hl2 => ?_)
  simp only [List.length_map] at hl2
  refine cV rfl (oSm uT23 rfl) <| sm 1 rfl <| nL <| tBk <| Tr.sub (Sub.of (fr' := [(40, iInt 0), (39, iInt u.flows.length), (38, .pv (flws u.flows)), (3, .mp 109), (1, .pv (.ept [arrs u.arrays, flws u.flows] 0))]) ⟨rfl, rfl, rfl, rfl, rfl, trivial⟩) ?_
  refine Tr.loop (fun fr σ m => ∃ (k : Nat) (es : List (Value × PV)), (k <= u.flows.length) /\ (u.flows.all z6f = (u.flows.drop k).all z6f) /\ (zi6 es0 u.flows = zi6 es (u.flows.drop k)) /\ (Cnt es) /\ fr = [(40, iInt k), (39, iInt u.flows.length), (38, .pv (flws u.flows)), (3, .mp 109), (1, .pv (.ept [arrs u.arrays, flws u.flows] 0))] /\ σ = look [(109, some (.map es))] /\ m = u.flows.length - k) (n := u.flows.length - 0) ?_ ?_
  ·exact ⟨0, es0, Nat.zero_le _, rfl, rfl, hI3, rfl, rfl, rfl⟩
  ·rintro fr σ m ⟨k, es, hJ0, hJ1, hJ2, hJ3, rfl, rfl, rfl⟩
   refine tQ <| tG <| sm 1 rfl <| nL <| tQ ?_
   refine tC rfl (fun hc41 => ?_) fun hc41 => ?_
   ·have hlt : k < u.flows.length := by simpa using hc41
    have hd := List.drop_eq_getElem_cons hlt
    have hm := List.getElem_mem hlt
    have hi := z08 (f := Fl.enc) (List.getElem?_eq_getElem hlt)
    generalize u.flows[k] = x at hd hm hi
    refine tSk <| tQ <| tBk <| tQ <| tG <| cV rfl (iSq rfl rfl rfl uT23 hi tS51 rfl (by rfl)) <| cV rfl (lEA rfl rfl Tryz.underlying51 rfl tS51 (lb rfl)) <| cE rfl (aLc (k := 107) rfl tZ51 rfl rfl rfl rfl) <| c0 (sBA rfl rfl rfl rfl rfl ((fun h => h)) tS51 (flk rfl) (lb rfl)) <| nL <| tQ <| Tr.freezeBox (t := 7) (k := 107) rfl rfl rfl ?_
    refine Tr.heap (σ' := look [(109, some (.map es))]) (fun k => by
      simp only [look]
      by_cases h : 107 = k
      · subst h; rfl
      · simp [z0x h]) ?_
    obtain ⟨n, hn⟩ := hJ3.find (.string x.name)
    have hbump := zt2 hn
    have hes := hJ3.1
    refine tG <| sm 3 rfl <| cV rfl (zl0 rfl rfl rfl rfl Tryz.underlying95 uT9 rfl (by assumption) tZ3 trivial) <| WL.sub (Sub.of (fr' := [(47, iInt n), (46, iStr x.name), (44, .mp 109), (7, .pv (.ept [vStr x.name, vInt x.ty, vInt x.params, ints x.types, z0b x.body] 0)), (40, iInt k), (39, iInt u.flows.length), (38, .pv (flws u.flows)), (3, .mp 109), (1, .pv (.ept [arrs u.arrays, flws u.flows] 0))]) ⟨congrArg (fun p => some (IV.pv p)) hn, rfl, rfl, rfl, rfl, rfl, rfl, rfl, rfl, trivial⟩) <| sm 1 rfl <| c0 (z89 rfl rfl rfl rfl rfl ((fun h => h)) Tryz.underlying95 uT9 rfl (by assumption)) <| nL <| tQ <| tG <| sm 2 rfl <| cE rfl (ocq (y0x _) ent59 rfl rfl) <| sm 2 rfl ?_
    refine wS 53 rfl (fun hb53 => ?_) fun hb53 => ?_
    ·refine sm 18 rfl <| nL <| Tr.condT rfl <| tQ <| tG <| sm 1 rfl <| nL <| tRt <| rOk rfl ?_ nPo
     have hx : z6f x = false := by
       clear hd hm hi hJ1 hJ2 hn
       simp_all [z6f]
     have hF : u.flows.all z6f = false := by rw [hJ1, hd]; simp only [List.all_cons, hx, Bool.false_and]
     simp only [z42, hF, Bool.false_and, Bool.and_false]
    refine sm 2 rfl <| WL.yes rfl rfl rfl rfl rfl rfl (z1n (y8f _) ent60 rfl rfl (sRf _ _) rfl) <| sm 3 rfl ?_
    refine wS 59 rfl (fun hb59 => ?_) fun hb59 => ?_
    ·refine sm 12 rfl <| nL <| Tr.condT rfl <| tQ <| tG <| sm 1 rfl <| nL <| tRt <| rOk rfl ?_ nPo
     have hx : z6f x = false := by
       clear hd hm hi hJ1 hJ2 hn
       simp_all [z6f]
     have hF : u.flows.all z6f = false := by rw [hJ1, hd]; simp only [List.all_cons, hx, Bool.false_and]
     simp only [z42, hF, Bool.false_and, Bool.and_false]
    refine sm 5 rfl ?_
    refine wS 64 rfl (fun hb64 => ?_) fun hb64 => ?_
    ·refine sm 7 rfl <| nL <| Tr.condT rfl <| tQ <| tG <| sm 1 rfl <| nL <| tRt <| rOk rfl ?_ nPo
     have hx : z6f x = false := by
       clear hd hm hi hJ1 hJ2 hn
       simp_all [z6f]
     have hF : u.flows.all z6f = false := by rw [hJ1, hd]; simp only [List.all_cons, hx, Bool.false_and]
     simp only [z42, hF, Bool.false_and, Bool.and_false]
    refine sm 4 rfl <| yV rfl rfl (oSm uT35 rfl) <| sm 2 rfl <| nL ?_
    refine tC rfl (fun hc71 => ?_) fun hc71 => ?_
    ·refine tQ <| tG <| sm 1 rfl <| nL <| tRt <| rOk rfl ?_ nPo
     have hx : z6f x = false := by
       clear hd hm hi hJ1 hJ2 hn
       simp_all [z6f]
     have hF : u.flows.all z6f = false := by rw [hJ1, hd]; simp only [List.all_cons, hx, Bool.false_and]
     simp only [z42, hF, Bool.false_and, Bool.and_false]
    refine tSk <| tG <| cV rfl (oB rfl rfl (z03 rfl oM0)) <| sm 1 rfl <| nL ?_
    refine ⟨_, _, ?_, Sub.of (fr' := [(40, iInt (k + 1)), (39, iInt u.flows.length), (38, .pv (flws u.flows)), (3, .mp 109), (1, .pv (.ept [arrs u.arrays, flws u.flows] 0))]) ⟨rfl, rfl, rfl, rfl, rfl, trivial⟩, (k + 1), (bump x.name es), ?_, ?_, ?_, ?_, rfl, (funext fun j => by
  simp only [look, <- hbump]
  by_cases h : 109 = j
  · subst h; rfl
  · simp [z0x h]), rfl⟩
    ·omega
    ·omega
    ·rw [hJ1, hd]
     have hx : z6f x = true := by
       clear hd hm hi hJ1 hJ2 hn
       simp_all [z6f]
     simp only [List.all_cons, hx, Bool.true_and]
    ·rw [hJ2, hd]; rfl
    exact hJ3.bump _
   refine tEx <| tQ ?_
   have hF : u.flows.all z6f = true := by
     rw [hJ1, List.drop_eq_nil_of_le (by simpa using hc41)]; rfl
   have hcF : zi6 (ze5 [] u.arrays) u.flows = es := by
     rw [hcA, hJ2, List.drop_eq_nil_of_le (by simpa using hc41)]; rfl
   clear hJ1 hJ2 hI1 hI2
   refine tG <| cV rfl (lEA rfl rfl uT25 rfl tS25 (lb rfl)) <| cE rfl (ocq (zs1 u z0i) ent61 rfl rfl) <| sm 1 rfl <| nL <| tQ <| tG <| sm 1 rfl <| cV rfl (zr6 rfl rfl rfl Tryz.underlying95 trivial) <| sm 2 rfl <| cV rfl (oSm uT22 rfl) ?_
   refine WL.lenOf (t := 78) rfl (fun hl1 => ?_)
   simp only [List.length_map] at hl1
   refine sm 2 rfl <| cV rfl (oSm uT23 rfl) ?_
   refine WL.lenOf (t := 81) rfl (fun hl2 => ?_)
   simp only [List.length_map] at hl2
   refine cV rfl (oB rfl rfl (z03 rfl oM0)) <| sm 2 rfl ?_
   refine wS 85 rfl (fun hb85 => ?_) fun hb85 => ?_
   ·refine sm 4 rfl ?_
    refine wS 89 rfl (fun hb89 => ?_) fun hb89 => ?_
    ·have hk0 : z0c z0i u.flows 0 ≥ 0 := by simp_all
     obtain ⟨g, hgk, _⟩ := z8v hk0
     have hgi : (u.flows.map Fl.enc)[(z0c z0i u.flows 0).toNat]? = some g.enc := z08 hgk
     have hgd : u.flows.getD (z0c z0i u.flows 0).toNat zy9 = g := by simp [List.getD, hgk]
     refine sm 3 rfl <| yV rfl rfl (iSq rfl rfl rfl uT23 hgi tS51 rfl oM0) <| sm 5 rfl ?_
     refine wS 98 rfl (fun hb98 => ?_) fun hb98 => ?_
     ·refine sm 3 rfl <| yV rfl rfl (iSq rfl rfl rfl uT23 hgi tS51 rfl oM0) <| sm 5 rfl <| nL <| tRt <| rOk rfl ?_ nPo
      refine congrArg (fun b => iBool b) ?_
      simp only [z42, hA, hF, hcF, z9c, Bool.true_and]
      simp_all
     refine sm 9 rfl <| nL <| tRt <| rOk rfl ?_ nPo
     refine congrArg (fun b => iBool b) ?_
     simp only [z42, hA, hF, hcF, z9c, Bool.true_and]
     simp_all
    refine sm 18 rfl <| nL <| tRt <| rOk rfl ?_ nPo
    refine congrArg (fun b => iBool b) ?_
    simp only [z42, hA, hF, hcF, z9c, Bool.true_and]
    (simp_all <;> omega)
   refine sm 22 rfl <| nL <| tRt <| rOk rfl ?_ nPo
   refine congrArg (fun b => iBool b) ?_
   simp only [z42, hA, hF, hcF, z9c, Bool.true_and]
   simp_all
theorem y5g (u : Un) (hW : z1g u <= 536870912) : SC Tryz.prog 22 [.pv u.enc] [] (fun _ => False) (.tup [iInt (z49 u).1, iInt (z49 u).2]) [] := by
  refine SC.of Tryz.func22 rfl (lb rfl) fun F ρ w => ?_
  refine tQ <| tG <| cE rfl (z1p rfl rfl) <| sm 2 rfl <| nL <| tQ <| tQ <| tG <| cV rfl (lEA rfl rfl uT25 rfl tS25 (lb rfl)) <| cE rfl (ocq (y8p u hW) ent37 rfl rfl) <| sm 1 rfl <| nL ?_
  refine tC rfl (fun hc8 => ?_) fun hc8 => ?_
  ·refine tQ <| tG <| sm 2 rfl <| nL <| tRt <| rOk rfl ?_ nPo
   have hg : z42 u = false := by simpa using hc8
   simp [z49, hg]
  have hg : z42 u = true := by simpa using hc8
  refine tSk <| tQ <| tQ <| tG <| sm 2 rfl ?_
  refine WL.lenOf (t := 10) rfl (fun hl1 => ?_)
  simp only [List.length_map] at hl1
  refine cV rfl (oSm uT23 rfl) <| sm 1 rfl <| nL <| tBk <| Tr.sub (Sub.of (fr' := [(12, iInt 0), (11, iInt u.flows.length), (10, .pv (flws u.flows)), (1, .pv (.ept [arrs u.arrays, flws u.flows] 0))]) ⟨rfl, rfl, rfl, rfl, trivial⟩) ?_
  refine Tr.loop (fun fr σ m => ∃ (k : Nat), (k <= u.flows.length) /\ (z7g u u.flows 0 = z7g u (u.flows.drop k) k) /\ fr = [(12, iInt k), (11, iInt u.flows.length), (10, .pv (flws u.flows)), (1, .pv (.ept [arrs u.arrays, flws u.flows] 0))] /\ σ = look [] /\ m = u.flows.length - k) (n := u.flows.length - 0) ?_ ?_
  ·exact ⟨0, Nat.zero_le _, rfl, rfl, rfl, rfl⟩
  rintro fr σ m ⟨k, hI0, hI1, rfl, rfl, rfl⟩
  refine tQ <| tG <| sm 1 rfl <| nL <| tQ ?_
  refine tC rfl (fun hc13 => ?_) fun hc13 => ?_
  ·have hlt : k < u.flows.length := by simpa using hc13
   have hd := List.drop_eq_getElem_cons hlt
   have hm := List.getElem_mem hlt
   have hi := z08 (f := Fl.enc) (List.getElem?_eq_getElem hlt)
   generalize u.flows[k] = x at hd hm hi
   refine tSk <| tQ <| tBk <| tQ <| tG <| sm 1 rfl <| cV rfl (iSq rfl rfl rfl uT23 hi tS51 rfl (by rfl)) <| cV rfl (lEA rfl rfl Tryz.underlying51 rfl tS51 (lb rfl)) <| cE rfl (aLc (k := 105) rfl tZ51 rfl rfl rfl rfl) <| sm 1 rfl <| c0 (sBA rfl rfl rfl rfl rfl ((fun h => h)) tS51 (flk rfl) (lb rfl)) <| nL ?_
   refine tQ <| Tr.freezeBox (t := 5) (k := 105) rfl rfl rfl <| Tr.heap (σ' := look []) (fun k => by simp only [look]; cases Nat.beq 105 k <;> rfl) <| tG <| cV rfl (lEA rfl rfl uT25 rfl tS25 (lb rfl)) <| cV rfl (lEA rfl rfl Tryz.underlying51 rfl tS51 (lb rfl)) <| cE rfl (ocq (y8n u x (z7c hg) (z7c hg x hm) (y1t hW hm)) ent38 rfl rfl) <| sm 1 rfl <| nL ?_
   refine tC rfl (fun hc20 => ?_) fun hc20 => ?_
   ·refine tQ <| tG <| sm 3 rfl <| nL <| tRt <| rOk rfl ?_ nPo
    have hx : z9d u x = false := by simpa using hc20
    simp only [z49, hg, if_true, hI1, hd, z7g, hx, Bool.false_eq_true, if_false]
   refine tSk <| tG <| cV rfl (oB rfl rfl (z03 rfl oM0)) <| sm 1 rfl <| nL ?_
   refine ⟨_, _, ?_, Sub.of (fr' := [(12, iInt (k + 1)), (11, iInt u.flows.length), (10, .pv (flws u.flows)), (1, .pv (.ept [arrs u.arrays, flws u.flows] 0))]) ⟨rfl, rfl, rfl, rfl, trivial⟩, (k + 1), ?_, ?_, rfl, rfl, rfl⟩
   ·omega
   ·omega
   rw [hI1, hd]
   have hx : z9d u x = true := by simpa using hc20
   simp only [z7g, hx, if_true]
   rfl
  refine tEx <| tQ <| tG <| sm 2 rfl <| nL <| tRt <| rOk rfl ?_ nPo
  have hge : u.flows.length <= k := by simpa using hc13
  simp only [z49, hg, if_true, hI1, List.drop_eq_nil_of_le hge, z7g]
set_option maxRecDepth 20000
theorem y8y (l : List Int) (to : TT) (hb : l.length <= 1073741824) : SC Tryz.prog 39 [wV, .pv (ints l)] (tM to) (fun k => k ∈ [3001]) (.pv (ints (l.map (z1r to)))) (tM to) := by
  refine SC.vc tb { gh := [(1, [.grow 4 104 3 1]), (9, [.fz 4 104])] } [3001] Tryz.func39 rfl rfl ?_
  refine ⟨Nat × List Int, fun (k, acc) => [(11, iInt k), (4, .sl 104 (acc.map eInt).length)], fun (_, acc) => [(104, .row ⟨3, 1⟩ (acc.map eInt))], fun (k, _) => l.length - k, fun (k, acc) => k <= l.length /\ acc = (l.take k).map (z1r to), [], (0, []), ⟨Nat.zero_le _, rfl⟩, ⟨rfl, rfl, trivial⟩, ⟨rfl, trivial⟩, ?_⟩
  rintro ⟨k, acc⟩ ⟨hk, rfl⟩
  refine z0l (fun hc => ?_) fun hc => ?_
  · have hlt := za5 (f := eInt) rfl hc
    obtain ⟨x, hx, ht, _, _⟩ := z7z hlt
    refine ⟨z08 (f := eInt) hx, rfl, rfl, zz6 _, y7c x to, z0l (fun h2 => ?_) fun h2 => ?_⟩
    · exact ⟨rfl, zz0 rfl, by simp; omega, z03 rfl oM0, (k + 1, (l.take (k + 1)).map (z1r to)), z2w hlt, ⟨hlt, rfl⟩, ⟨rfl, slq (by simp; omega), trivial⟩, ⟨rwq (by rw [y5n h2]; simp [ht, eInt]), trivial⟩, rfl, rfl, rfl, rfl⟩
    · exact ⟨rfl, zz0 rfl, by simp; omega, z03 rfl oM0, (k + 1, (l.take (k + 1)).map (z1r to)), z2w hlt, ⟨hlt, rfl⟩, ⟨rfl, slq (by simp; omega), trivial⟩, ⟨rwq (by simp [ht, eInt, y5m h2]), trivial⟩, rfl, rfl, rfl, rfl⟩
  · exact ⟨rfl, sE (by rw [List.take_of_length_le (za1 (f := eInt) rfl hc)]; rfl), rfl, trivial⟩
theorem zv9 (l m : List Int) (to : TT) (h : l.length <= m.length) (hb : l.length <= 1073741824) : SC Tryz.prog 66 [wV, .pv (ints l), .pv (ints m)] (tM to) (fun k => k ∈ []) (.tup []) (tM (z0q l m to)) := by
  refine SC.vc tb {} [] Tryz.func66 rfl rfl ?_
  refine ⟨Nat × TT, fun (k, _) => [(10, iInt k)], fun (_, t) => [(3001, .map (inEs t))], fun (k, _) => l.length - k, fun (k, t) => k <= l.length /\ z0q (l.drop k) (m.drop k) t = z0q l m to, [], (0, to), ⟨Nat.zero_le _, rfl⟩, ⟨rfl, trivial⟩, ⟨rfl, trivial⟩, ?_⟩
  rintro ⟨k, t⟩ ⟨hk, hs⟩
  refine z0l (fun hc => ?_) fun hc => ?_
  · have hlt := za5 (f := eInt) rfl hc
    obtain ⟨x, hx, _, hd, _⟩ := z7z hlt
    obtain ⟨y, hy, _, hd2, _⟩ := z7z (show k < m.length by omega)
    rw [hd, hd2] at hs
    exact ⟨z08 (f := eInt) hx, rfl, z08 (f := eInt) hy, rfl, rfl, zz6 _, z03 rfl oM0, (k + 1, aPut x y t), z2w hlt, ⟨hlt, hs⟩, ⟨rfl, trivial⟩, ⟨mpq (y3c _ _ _), trivial⟩, rfl, rfl, rfl, rfl⟩
  · rw [List.drop_eq_nil_of_le (za1 (f := eInt) rfl hc), z0q] at hs
    · exact ⟨sI, by rw [<- hs]; exact ⟨rfl, trivial⟩⟩
    · simp
theorem y9i {x : Nd} (h : zw8 x = true) (hk : x.kind = 10) : ∃ a b, x.kids = [a, b] := by
  rw [z91] at h
  simp only [Bool.and_eq_true, hk] at h
  have h1 : x.kids.length = 2 := by simpa using h.1.1
  match x.kids, h1 with
  | [a, b], _ => exact ⟨a, b, rfl⟩
theorem y3f {x : Nd} {a b : List Nd} (h : x.kids = [a, b]) : (x.kids.map eKid)[0]? = some [z0b a] /\ (x.kids.map eKid)[1]? = some [z0b b] /\ a ∈ x.kids /\ b ∈ x.kids := by rw [h]; exact ⟨rfl, rfl, .head _, .tail _ (.head _)⟩
theorem zh2 (k : Int) : ∀ (N : Nat) (l : List Nd), SizeOf.sizeOf l < N -> zg2 l = true -> l.length + wtL l <= 1073741824 -> SC Tryz.prog 92 [.pv (z0b l), iInt k] [] (fun k => k ∈ []) (iInt (cnL k l)) []
  | 0, _, h, _, _ => absurd h (Nat.not_lt_zero _)
  | N + 1, l, hN, hok, hb => by
    refine SC.vc tb {} [] Tryz.func92 rfl rfl ?_
    refine ⟨Nat, fun i => [(9, iInt i), (4, iInt (cnL k (l.take i)))], fun _ => [], fun i => l.length - i, fun i => i <= l.length, [], 0, Nat.zero_le _, ⟨rfl, rfl, trivial⟩, trivial, ?_⟩
    intro i hi
    have hle : cnL k l <= 1073741824 := Nat.le_trans (y34 k l) hb
    refine z0l (fun hc => ?_) fun hc => ?_
    · have hlt := za5 (f := Nd.enc) rfl hc
      obtain ⟨x, hx, ht, hd, hm⟩ := z7z hlt
      have happ : cnL k l = cnL k (l.take i) + (cnN k x + cnL k (l.drop (i + 1))) := by
        conv => lhs; rw [<- List.take_append_drop i l, hd]
        rw [z73]; rfl
      have hone : cnL k (l.take (i + 1)) = cnL k (l.take i) + cnN k x := by rw [ht, z73]; rfl
      rw [z9y] at happ hone
      have hxok := zo2 hok hm
      have hw := zs8 hm
      have hwa := (z8n x).2.2
      have hif : x.kind = 10 -> ∃ a b, x.kids = [a, b] /\ (x.kids.map eKid)[0]? = some [z0b a] /\ (x.kids.map eKid)[1]? = some [z0b b] /\ cnK k x.kids = cnL k a + cnL k b /\
          SC Tryz.prog 92 [.pv (z0b a), iInt k] [] (fun k => k ∈ []) (iInt (cnL k a)) [] /\ SC Tryz.prog 92 [.pv (z0b b), iInt k] [] (fun k => k ∈ []) (iInt (cnL k b)) [] := fun hk => by
        obtain ⟨a, b, hks⟩ := y9i hxok hk
        obtain ⟨h0, h1, ha, hb'⟩ := y3f hks
        have hoa := (z8m (by rw [z91] at hxok; simp only [Bool.and_eq_true] at hxok; exact hxok.2) ha).2
        have hob := (z8m (by rw [z91] at hxok; simp only [Bool.and_eq_true] at hxok; exact hxok.2) hb').2
        have hwa' := zp0 ha
        have hwb' := zp0 hb'
        exact ⟨a, b, hks, h0, h1, by rw [hks]; simp [cnK], zh2 k N a (Nat.lt_of_lt_of_le (z5w hm rfl ha) (Nat.le_of_lt_succ hN)) hoa oM0, zh2 k N b (Nat.lt_of_lt_of_le (z5w hm rfl hb') (Nat.le_of_lt_succ hN)) hob oM0⟩
      refine ⟨z0t hx, rfl, z0l (fun h1 => ?_) fun h1 => ?_⟩
      · rw [if_pos (show (x.kind == k) = true from h1)] at happ hone
        refine ⟨z03 rfl oM0, z0l (fun h2 => ?_) fun h2 => ?_⟩
        · rw [if_pos (show (x.kind == 10) = true from h2)] at happ hone
          obtain ⟨a, b, hks, h0, h1', hc2, sa, sb⟩ := hif (by simpa using h2)
          rw [hc2] at happ hone
          exact ⟨h0, rfl, [], sa, sR, trivial, rfl, h1', rfl, [], sb, sR, trivial, rfl, z03 rfl oM0, z03 rfl oM0, z03 rfl oM0, i + 1, z2w hlt, hlt, ⟨rfl, ivq (by rw [hone]; omega), trivial⟩, trivial, rfl, rfl, rfl, rfl⟩
        · rw [if_neg (show ¬ (x.kind == 10) = true by simpa using h2)] at happ hone
          exact ⟨z03 rfl oM0, i + 1, z2w hlt, hlt, ⟨rfl, ivq (by rw [hone]; omega), trivial⟩, trivial, rfl, rfl, rfl, rfl⟩
      · rw [if_neg (show ¬ (x.kind == k) = true by simpa using h1)] at happ hone
        refine z0l (fun h2 => ?_) fun h2 => ?_
        · rw [if_pos (show (x.kind == 10) = true from h2)] at happ hone
          obtain ⟨a, b, hks, h0, h1', hc2, sa, sb⟩ := hif (by simpa using h2)
          rw [hc2] at happ hone
          exact ⟨h0, rfl, [], sa, sR, trivial, rfl, h1', rfl, [], sb, sR, trivial, rfl, z03 rfl oM0, z03 rfl oM0, z03 rfl oM0, i + 1, z2w hlt, hlt, ⟨rfl, ivq (by rw [hone]; omega), trivial⟩, trivial, rfl, rfl, rfl, rfl⟩
        · rw [if_neg (show ¬ (x.kind == 10) = true by simpa using h2)] at happ hone
          exact ⟨z03 rfl oM0, i + 1, z2w hlt, hlt, ⟨rfl, ivq (by rw [hone]; omega), trivial⟩, trivial, rfl, rfl, rfl, rfl⟩
    · exact ⟨sE (by rw [List.take_of_length_le (za1 (f := Nd.enc) rfl hc)]), trivial⟩
theorem sc_once (x : Nd) (a : List Nd) (r : List (List Nd)) (hk : x.kids = a :: r) (hok : zg2 a = true) (hb : a.length + wtL a <= 1073741824) : SC Tryz.prog 65 [.pv (ndv x)] [] (fun k => k ∈ []) (iBool (z2m a)) [] := by
  refine SC.vc tb {} [] Tryz.func65 rfl rfl ?_
  have h0 : (x.kids.map eKid)[0]? = some [z0b a] := by rw [hk]; rfl
  refine ⟨h0, rfl, [], zh2 14 _ a (Nat.lt_succ_self _) hok hb, sR, trivial, rfl, [], zh2 13 _ a (Nat.lt_succ_self _) hok hb, sR, trivial, rfl, z0l (fun h1 => ?_) fun h1 => ?_⟩
  · have h13 : cnL 13 a = 0 := by have := of_decide_eq_true h1; omega
    refine z0l (fun h2 => ?_) fun h2 => ?_
    · have h14 : cnL 14 a = 0 := by have := of_decide_eq_true h2; omega
      exact ⟨sE (by simp [z2m, h13, h14]), trivial⟩
    · have h14 : cnL 14 a ≠ 0 := by have := of_decide_eq_false h2; omega
      refine z0l (fun h3 => ?_) fun h3 => ?_
      · have h15 : cnL 14 a = 1 := by have := of_decide_eq_true h3; omega
        obtain ⟨A, e, he, _, hl, _⟩ := zc8 (l := a) (by intro h; rw [h] at h14; simp [cnL] at h14)
        have hlen : a.length = A.length + 1 := by rw [he]; simp
        have hlen2 : (a.map Nd.enc).length = A.length + 1 := by simp [hlen]
        exact ⟨z2j (z := (A.length : Int)) oM0 oM0, z0t (i := A.length) (x := e) (by rw [he]; simp), rfl, sE (by simp [z2m, h13, h15, hl]), trivial⟩
      · have h15 : cnL 14 a ≠ 1 := by have := of_decide_eq_false h3; omega
        exact ⟨sE (by simp [z2m, h13, h14, h15]), trivial⟩
  · have h13 : cnL 13 a ≠ 0 := by have := of_decide_eq_false h1; omega
    exact ⟨sE (by simp [z2m, h13]), trivial⟩
theorem y8b (l m : List Int) : SC Tryz.prog 93 [.pv (ints l), .pv (ints m)] [] (fun k => k ∈ []) (iBool (l == m)) [] := by
  refine SC.vc tb { gh := [(0, [.len 0])] } [] Tryz.func93 rfl rfl ?_
  intro hl
  simp only [List.length_map] at hl
  refine z0l (fun h1 => ?_) fun h1 => ?_
  · have hne : ¬ (l.length : Int) = m.length := by simpa using h1
    exact ⟨sE (by rw [y65 hne]), trivial⟩
  · have hlm : l.length = m.length := Int.ofNat.inj (by simpa using h1)
    refine ⟨Nat, fun k => [(13, iInt k)], fun _ => [], fun k => l.length - k, fun k => k <= l.length /\ l.take k = m.take k, [], 0, ⟨Nat.zero_le _, rfl⟩, ⟨rfl, trivial⟩, trivial, ?_⟩
    rintro k ⟨hk, he⟩
    refine z0l (fun hc => ?_) fun hc => ?_
    · have hlt := za5 (f := eInt) rfl hc
      obtain ⟨x, hx, ht, hd, _⟩ := z7z hlt
      obtain ⟨y, hy, ht2, hd2, _⟩ := z7z (show k < m.length by omega)
      refine ⟨z08 (f := eInt) hx, rfl, z08 (f := eInt) hy, rfl, z0l (fun h2 => ?_) fun h2 => ?_⟩
      · have hxy : x ≠ y := by simpa using h2
        exact ⟨sE (by
          have : l ≠ m := fun e => by subst e; rw [hx] at hy; exact hxy (Option.some.inj hy)
          simp [this]), trivial⟩
      · have hxy : x = y := by simpa using h2
        exact ⟨z03 rfl oM0, k + 1, z2w hlt, ⟨hlt, by rw [ht, ht2, he, hxy]⟩, ⟨rfl, trivial⟩, trivial, rfl, rfl, rfl, rfl⟩
    · have hge := za1 (f := eInt) rfl hc
      rw [List.take_of_length_le hge, List.take_of_length_le oM0] at he
      exact ⟨sE (by simp [he]), trivial⟩
theorem y8w (x : Nd) (a b : List Nd) (hk : x.kids = [a, b]) : SC Tryz.prog 67 [.pv (ndv x)] [] (fun k => k ∈ []) (iBool (z31 a b)) [] := by
  refine SC.vc tb {} [] Tryz.func67 rfl rfl ?_
  obtain ⟨h0, h1, _, _⟩ := y3f hk
  have hno : (a.length ≠ 1 ∨ b.length ≠ 1) -> z31 a b = false := fun h => by
    match a, b, h with
    | [], _, _ => rfl
    | [_], [], _ => rfl
    | [_], [_], h => simp at h
    | [_], _ :: _ :: _, _ => rfl
    | _ :: _ :: _, _, _ => rfl
  refine ⟨h0, rfl, h1, rfl, z0l (fun ha => ?_) fun ha => ?_⟩
  · refine z0l (fun hb => ?_) fun hb => ?_
    · obtain ⟨y, rfl⟩ : ∃ y, a = [y] := List.length_eq_one_iff.1 (Int.ofNat.inj (by simpa using ha))
      obtain ⟨z, rfl⟩ : ∃ z, b = [z] := List.length_eq_one_iff.1 (Int.ofNat.inj (by simpa using hb))
      refine ⟨z0t (i := 0) (x := y) rfl, rfl, z0l (fun h2 => ?_) fun h2 => ?_⟩
      · have h2' : (y.kind == 12) = true := h2
        refine ⟨z0t (i := 0) (x := z) rfl, rfl, z0l (fun h3 => ?_) fun h3 => ?_⟩
        · have h3' : (z.kind == 12) = true := h3
          exact ⟨z0t (i := 0) (x := y) rfl, rfl, z0t (i := 0) (x := z) rfl, rfl, [], y8b y.args z.args, sR, trivial, rfl, sE (by simp only [z31, h2', h3', Bool.true_and]), trivial⟩
        · have h3' : (z.kind == 12) = false := h3
          exact ⟨sE (by simp [z31, h2', h3']), trivial⟩
      · have h2' : (y.kind == 12) = false := h2
        exact ⟨sE (by simp [z31, h2']), trivial⟩
    · exact ⟨sE (by rw [hno (.inr (by intro h; rw [List.length_map, h] at hb; cases hb))]), trivial⟩
  · exact ⟨sE (by rw [hno (.inl (by intro h; rw [List.length_map, h] at ha; cases ha))]), trivial⟩
set_option maxRecDepth 20000
theorem z9x (x : Nd) : z02 (z7m x) = z02 x := by
  unfold z7m
  split
  · cases x; rfl
  · rfl
theorem zz9 {ks : List (List Nd)} {i : Nat} {q : List Nd} (h : ks.take (i + 1) = ks.take i ++ [q]) : tdK (ks.take (i + 1)) = tdK (ks.take i) ++ [tdL q] := by
  rw [h]
  have : ∀ a b : List (List Nd), tdK (a ++ b) = tdK a ++ tdK b := by
    intro a b
    induction a with
    | nil => rfl
    | cons x r ih => simp only [List.cons_append, tdK, ih]
  rw [this]; rfl
theorem y9c : ∀ ks : List (List Nd), (tdK ks).length = ks.length
  | [] => rfl
  | l :: r => by simp only [tdK, List.length_cons, y9c r]
theorem zx5 : ∀ ks : List (List Nd), ks.length <= wtK ks
  | [] => Nat.zero_le _
  | l :: r => by have := zx5 r; simp only [wtK, List.length_cons]; omega
theorem y2c : ∀ (N : Nat) (l : List Nd), SizeOf.sizeOf l < N -> l.length + wtL l <= 1073741824 -> SC Tryz.prog 43 [.pv (z0b l)] [] (fun k => k ∈ []) (.pv (z0b (tdL l))) []
  | 0, _, h, _ => absurd h (Nat.not_lt_zero _)
  | N + 1, l, hN, hb => by
    refine SC.vc tb { gh := [(1, [.grow 2 102 42 8]), (5, [.grow 5 105 43 1]), (10, [.fz 5 105]), (14, [.niC 104 5]), (16, [.fz 2 102]), (18, [.fz 2 102])] } [] Tryz.func43 rfl rfl ?_
    refine ⟨Nat × List Nd, fun (i, out) => [(11, iInt i), (2, .sl 102 (out.map Nd.enc).length)], fun (_, out) => [(102, .row ⟨42, 8⟩ (out.map Nd.enc))], fun (i, _) => l.length - i, fun (i, out) => i <= l.length /\ out.length = i /\ out ++ tdL (l.drop i) = tdL l, [], (0, []), ⟨Nat.zero_le _, rfl, rfl⟩, ⟨rfl, rfl, trivial⟩, ⟨rfl, trivial⟩, ?_⟩
    rintro ⟨i, out⟩ ⟨hi, hol, hout⟩
    refine z0l (fun hc => ?_) fun hc => ?_
    · have hlt := za5 (f := Nd.enc) rfl hc
      obtain ⟨x, hx, ht, hd, hm⟩ := z7z hlt
      have hw := zs8 hm
      have hwa := (z8n x).2.2
      have hkl := zx5 x.kids
      rw [hd] at hout
      refine ⟨z0t hx, rfl, Nat × List (List Nd), fun (j, acc) => [(18, iInt j), (5, .sl 105 (acc.map eKid).length)], fun (_, acc) => [(105, .row ⟨43, 1⟩ (acc.map eKid))], fun (j, _) => x.kids.length - j, fun (j, acc) => j <= x.kids.length /\ acc = tdK (x.kids.take j), [], (0, []), ⟨Nat.zero_le _, rfl⟩, ⟨rfl, rfl, trivial⟩, ⟨rfl, trivial⟩, ?_⟩
      rintro ⟨j, acc⟩ ⟨hj, rfl⟩
      refine z0l (fun hc2 => ?_) fun hc2 => ?_
      · have hlt2 := za5 (f := eKid) rfl hc2
        obtain ⟨q, hq, ht2, _, hm2⟩ := z7z hlt2
        have hwq := zp0 hm2
        have hl2 : (tdK (x.kids.take j)).length = j := by rw [y9c]; simp; omega
        exact ⟨z08 (f := eKid) hq, rfl, [], y2c N q (Nat.lt_of_lt_of_le (z5w hm rfl hm2) (Nat.le_of_lt_succ hN)) oM0, sR, trivial, rfl, rfl, zz0 rfl, by simp; omega, z03 rfl oM0, (j + 1, _), z2w hlt2, ⟨hlt2, rfl⟩, ⟨rfl, slq (by rw [zz9 ht2]; simp), trivial⟩, ⟨rwq (by rw [zz9 ht2]; simp [eKid]), trivial⟩, rfl, rfl, rfl, rfl⟩
      · rw [List.take_of_length_le (za1 (f := eKid) rfl hc2)]
        have hT : tdN x = z7m (.mk x.kind x.op x.n x.name x.args x.outs x.params (tdK x.kids)) := tdN_eq x
        refine ⟨rfl, [], z63 (.mk x.kind x.op x.n x.name x.args x.outs x.params (tdK x.kids)), sR, trivial, rfl, z0l (fun h1 => ?_) fun h1 => ?_⟩
        · have hN : tdN x = .mk x.kind x.op x.n x.name x.args [] x.params (tdK x.kids) := by rw [hT, z7m, if_pos h1]; rfl
          have hC : z02 (tdN x) = true := by rw [hT, z9x]; exact h1
          rw [tdL, if_pos hC, hN] at hout
          exact ⟨rfl, zz0 rfl, by simp; omega, z0l (fun _ => ⟨by simp, sE (by rw [<- hout]; simp only [z0b, zt5]; rfl), trivial⟩) fun h => by rw [show z02 _ = true from h1] at h; cases h⟩
        · have hN : tdN x = .mk x.kind x.op x.n x.name x.args x.outs x.params (tdK x.kids) := by rw [hT, z7m, if_neg (by simpa using h1)]
          have hC : z02 (tdN x) = false := by rw [hT, z9x]; exact h1
          rw [tdL, if_neg (by simp [hC]), hN] at hout
          exact ⟨rfl, zz0 rfl, by simp; omega, z0l (fun h => by rw [show z02 _ = false from h1] at h; cases h) fun _ => ⟨z03 rfl oM0, (i + 1, out ++ [.mk x.kind x.op x.n x.name x.args x.outs x.params (tdK x.kids)]), z2w hlt, ⟨hlt, by simp; omega, by rw [List.append_assoc]; exact hout⟩, ⟨rfl, slq sI0, trivial⟩, ⟨rwq (by rw [zt5]; rfl), trivial⟩, rfl, rfl, rfl, rfl⟩⟩
    · rw [List.drop_eq_nil_of_le (za1 (f := Nd.enc) rfl hc), tdL, List.append_nil] at hout
      exact ⟨rfl, sE (by rw [hout]; rfl), trivial⟩
set_option maxRecDepth 20000
def TrL (q : List Nd) : Prop := ∀ to : TT, gdR [] to q = true -> SC Tryz.prog 23 [wV, .pv (z0b q)] (tM to) (fun k => k ∈ []) (.pv (z0b (trL to q).1)) (tM (trL to q).2)
theorem y3e (a : List Nd) (r : List (List Nd)) : kid0 (a :: r) = a := rfl
theorem kid1_c (a b : List Nd) (r : List (List Nd)) : kid1 (a :: b :: r) = b := rfl
theorem trL_wt (to : TT) (l : List Nd) : (trL to l).1.length + wtL (trL to l).1 <= l.length + wtL l := by
  have h1 := y1h (trR [] to l).1
  have h2 := y45 l [] to
  simp only [trL, List.length_nil, wtL] at *
  omega
theorem y8x (x : Nd) (a : List Nd) (to : TT) (hk : x.kids = [a]) (hok : zg2 a = true) (hg : y39 to x = true) (hb : wtN x <= 1073741824) (ih : TrL a) : SC Tryz.prog 40 [wV, .pv (ndv x)] (tM to) (fun k => k ∈ []) (.pv (z0b (z9f to x).1)) (tM (z9f to x).2) := by
  refine SC.vc tb {} [] Tryz.func40 rfl rfl ?_
  obtain ⟨h1, h2, h3⟩ := z8n x
  rw [hk] at h3
  have ha : a.length + wtL a <= 1073741824 := by simp only [wtK] at h3; omega
  have h0 : (x.kids.map eKid)[0]? = some [z0b a] := by rw [hk]; rfl
  unfold y39 at hg
  simp only [hk, zw7, y3e, Bool.and_eq_true, decide_eq_true_eq] at hg
  obtain ⟨⟨_, hpa⟩, hg⟩ := hg
  refine ⟨[], sc_once x a [] hk hok ha, sR, trivial, rfl, z0l (fun hc => ?_) fun hc => ?_⟩
  · have ho : z2m a = false := by simpa using hc
    rw [ho] at hg
    simp only [Bool.false_eq_true, if_false, gdKs, Bool.and_true] at hg
    have hT : z9f to x = ([.mk x.kind x.op x.n x.name x.args x.outs x.params [(trL to a).1]], (trL to a).2) := by
      unfold z9f; simp only [hk, y3e, ho, zw7, Bool.false_eq_true, if_false]
    rw [hT]
    exact ⟨h0, rfl, [], ih to hg, sR, ⟨rfl, trivial⟩, rfl, sE (congrArg IV.pv (by simp only [z0b, List.map_cons, List.map_nil, Nd.enc_eq, Nd.cells_eta]; rfl)), rfl, trivial⟩
  · have ho : z2m a = true := by simpa using hc
    rw [ho] at hg
    simp only [if_true, gdKs, Bool.and_true, Bool.and_eq_true, Bool.not_eq_true'] at hg
    obtain ⟨⟨hg1, hne⟩, hg2⟩ := hg
    have hwt := trL_wt (z0q x.params x.args to) a
    refine ⟨[], zv9 x.params x.args to hpa oM0, sR, ⟨rfl, trivial⟩, rfl, h0, rfl, [], ih _ hg1, sR, ⟨rfl, trivial⟩, rfl, ?_⟩
    have hT0 : z9f to x = if z0r (trL (z0q x.params x.args to) a).1 == 14 then ((trL (z0q x.params x.args to) a).1.dropLast, z0q x.outs (z4v (trL (z0q x.params x.args to) a).1) (trL (z0q x.params x.args to) a).2) else ((trL (z0q x.params x.args to) a).1, (trL (z0q x.params x.args to) a).2) := by
      unfold z9f; simp only [hk, y3e, ho, zw7, if_true]
    rw [hT0]
    generalize trL (z0q x.params x.args to) a = r at hne hg2 hwt
    obtain ⟨l, to2⟩ := r
    obtain ⟨A, e, rfl, hdl, hlk, hla⟩ := zc8 (l := l) (by intro h; rw [h] at hne; cases hne)
    have hlen : ((A ++ [e]).map Nd.enc).length = A.length + 1 := by simp
    rw [hlk, hla] at hg2
    simp only [hlk, hla, hdl]
    simp only [List.length_append, List.length_cons, List.length_nil] at hwt
    refine ⟨z2j (z := (A.length : Int)) (by rw [hlen]; omega) oM0, z0t (i := A.length) (x := e) sI0, rfl, z0l (fun h14 => ?_) fun h14 => ?_⟩
    · have h14' : (e.kind == 14) = true := h14
      simp only [h14', if_true]
      simp only [eq_of_beq h14', bne_self_eq_false, Bool.false_or, decide_eq_true_eq] at hg2
      exact ⟨[], zv9 x.outs e.args to2 hg2 oM0, sR, ⟨rfl, trivial⟩, rfl, z2j (z := (A.length : Int)) (by rw [hlen]; omega) oM0, A.length, rfl, Nat.zero_le _, by simp, y7b, sE (congrArg IV.pv (by simp [z0b])), rfl, trivial⟩
    · have h14' : (e.kind == 14) = false := h14
      simp only [h14', Bool.false_eq_true, if_false]
      exact ⟨sI, rfl, trivial⟩
theorem y2m (x : Nd) (a b : List Nd) (to : TT) (hk : x.kids = [a, b]) (hg : zt7 to x = true) (hb : wtN x <= 1073741824) (iha : TrL a) (ihb : TrL b) : SC Tryz.prog 41 [wV, .pv (ndv x)] (tM to) (fun k => k ∈ []) (.pv (z0b (z7j to x).1)) (tM (z7j to x).2) := by
  refine SC.vc tb {} [] Tryz.func41 rfl rfl ?_
  obtain ⟨h1, h2, h3⟩ := z8n x
  obtain ⟨h0, h1', _, _⟩ := y3f hk
  unfold zt7 at hg
  unfold z7j
  simp only [hk, trKs_two, y3e, kid1_c, gdKs, Bool.and_eq_true, Bool.and_true, decide_eq_true_eq] at hg ⊢
  obtain ⟨⟨_, hga, hgb⟩, hg⟩ := hg
  refine ⟨h0, rfl, [], iha to hga, sR, ⟨rfl, trivial⟩, rfl, h1', rfl, [], ihb (trL to a).2 hgb, sR, ⟨rfl, trivial⟩, rfl, ?_⟩
  generalize (trL (trL to a).2 b).2 = to2 at hg ⊢
  generalize (trL (trL to a).2 b).1 = B at hg ⊢
  generalize (trL to a).1 = A at hg ⊢
  refine ⟨[], y8w (.mk x.kind x.op x.n x.name x.args x.outs x.params [A, B]) A B rfl, sR, trivial, rfl, z0l (fun hi => ?_) fun hi => ?_⟩
  · have hi' : z31 A B = true := hi
    simp only [hi', Bool.not_true, Bool.false_or, decide_eq_true_eq, if_true] at hg ⊢
    obtain ⟨y, rfl⟩ : ∃ y, A = [y] := by
      match A, B, hi' with
      | [y], [_], _ => exact ⟨y, rfl⟩
    exact ⟨at0, rfl, z0t (i := 0) (x := y) rfl, rfl, [], zv9 x.outs y.args to2 hg oM0, sR, ⟨rfl, trivial⟩, rfl, sN, rfl, trivial⟩
  · have hi' : z31 A B = false := hi
    simp only [hi', Bool.false_eq_true, if_false]
    exact ⟨sE (congrArg IV.pv (by simp only [z0b, List.map_cons, List.map_nil, Nd.enc_eq, Nd.cells_eta]; rfl)), rfl, trivial⟩
theorem trA_wt (to : TT) (x : Nd) : wtN (trA to x) = wtN x := by rw [y43, y43 x]; simp [trA, Nd.name, Nd.args, Nd.outs, Nd.params, Nd.kids]
theorem y0y : ∀ (N : Nat) (l : List Nd), SizeOf.sizeOf l < N -> zg2 l = true -> l.length + wtL l <= 1073741824 -> TrL l
  | 0, _, h, _, _ => absurd h (Nat.not_lt_zero _)
  | N + 1, l, hN, hok, hb => fun to hg => by
    refine SC.vc tb { gh := [(1, [.grow 4 104 42 8]), (13, [.fz 4 104])], jn := [11] } [] Tryz.func23 rfl rfl ?_
    refine ⟨Nat × List Nd × TT, fun (i, out, _) => [(9, iInt i), (4, .sl 104 (out.map Nd.enc).length)], fun (_, out, t) => [(104, .row ⟨42, 8⟩ (out.map Nd.enc)), (3001, .map (inEs t))], fun (i, _, _) => l.length - i, fun (i, out, t) => i <= l.length /\ out.length + wtL out + ((l.drop i).length + wtL (l.drop i)) <= 1073741824 /\ gdR out t (l.drop i) = true /\ trR out t (l.drop i) = trR [] to l, [], (0, [], to), ⟨Nat.zero_le _, by simpa [wtL] using hb, hg, rfl⟩, ⟨rfl, rfl, trivial⟩, ⟨rfl, rfl, trivial⟩, ?_⟩
    rintro ⟨i, out, t⟩ ⟨hi, hw, hgd, hR⟩
    have fin : ∀ o t', trR [] to l = (o, t') -> SubI (.pv (z0b (tdL o))) (.pv (z0b (trL to l).1)) /\ subH ((3001, some (.map (inEs t'))) :: []) (tM (trL to l).2) := fun o t' h => by
      unfold trL; rw [h]; exact ⟨sI, rfl, trivial⟩
    refine z0l (fun hc => ?_) fun hc => ?_
    · have hlt := za5 (f := Nd.enc) rfl hc
      obtain ⟨x, hx, ht, hd, hm⟩ := z7z hlt
      have hwx := zs8 hm
      obtain ⟨hwa, _, _⟩ := z8n x
      have hxok := zo2 hok hm
      rw [hd] at hw hgd hR
      have hwt := wt_trN x t
      simp only [wtL, List.length_cons] at hw
      simp only [gdR, Bool.and_eq_true] at hgd
      obtain ⟨hgx, hgr⟩ := hgd
      have hb2 : (out.map Nd.enc).length + (trN t x).1.length <= 1073741824 := by simp; omega
      have kid : ∀ q ∈ x.kids, TrL q := fun q hq => by
        have h1 := zp0 hq
        have h2 := (z8n x).2.2
        exact y0y N q (Nat.lt_of_lt_of_le (z5w hm rfl hq) (Nat.le_of_lt_succ hN)) (z8m (by rw [z91] at hxok; simp only [Bool.and_eq_true] at hxok; exact hxok.2) hq).2 oM0
      refine ⟨z0t hx, rfl, [3001], y8y x.args t oM0, sR, ⟨rfl, rfl, trivial⟩, rfl, List Nd × TT, fun (o, _) => [(4, .sl 104 (o.map Nd.enc).length)], fun (o, t) => [(104, .row ⟨42, 8⟩ (o.map Nd.enc)), (3001, .map (inEs t))], fun (o, t') => o = out ++ (trN t x).1 /\ t' = (trN t x).2, [104, 106, 3001], ?_, ?_⟩
      · refine z0l (fun h11 => ?_) fun h11 => ?_
        · have hk : x.kind = 11 := by simpa using h11
          obtain ⟨a, hks⟩ : ∃ a, x.kids = [a] := by
            rw [z91] at hxok
            simp only [hk, Bool.and_eq_true] at hxok
            have h2 := hxok.1.2
            simp only [bne_self_eq_false, Bool.false_or, Bool.and_eq_true, beq_iff_eq] at h2
            exact List.length_eq_one_iff.1 h2.1
          have hN2 := trN_loop (to := t) hk
          refine ⟨[], y8x (trA t x) a t hks (z8m (by rw [z91] at hxok; simp only [Bool.and_eq_true] at hxok; exact hxok.2) (by rw [hks]; exact .head _)).2 (by rw [<- gdN_loop hk]; exact hgx) (by rw [trA_wt]; omega) (kid a (by rw [hks]; exact .head _)), sR, ⟨rfl, trivial⟩, rfl, rfl, flatM (fun y _ => ⟨y.enc_len, y.enc_one⟩), ?_, (_, _), ⟨rfl, rfl⟩, ⟨slq (by rw [hN2]; simp), trivial⟩, ⟨rwq (by rw [hN2]; simp), by rw [hN2]; rfl, trivial⟩, rfl, rfl, rfl, rfl⟩
          rw [<- hN2]; simpa using (by omega : (out.map Nd.enc).length + (trN t x).1.length <= 68719476736)
        · refine z0l (fun h10 => ?_) fun h10 => ?_
          · have hk : x.kind = 10 := by simpa using h10
            obtain ⟨a, b, hks⟩ := y9i hxok hk
            have hN2 := y5o (to := t) hk
            refine ⟨[], y2m (trA t x) a b t hks (by rw [<- y4f hk]; exact hgx) (by rw [trA_wt]; omega) (kid a (by rw [hks]; exact .head _)) (kid b (by rw [hks]; exact .tail _ (.head _))), sR, ⟨rfl, trivial⟩, rfl, rfl, flatM (fun y _ => ⟨y.enc_len, y.enc_one⟩), ?_, (_, _), ⟨rfl, rfl⟩, ⟨slq (by rw [hN2]; simp), trivial⟩, ⟨rwq (by rw [hN2]; simp), by rw [hN2]; rfl, trivial⟩, rfl, rfl, rfl, rfl⟩
            rw [<- hN2]; simpa using (by omega : (out.map Nd.enc).length + (trN t x).1.length <= 68719476736)
          · have hN2 := y9g (to := t) (x := x) h10 h11
            exact ⟨rfl, zz0 rfl, by simp; omega, (_, _), ⟨rfl, rfl⟩, ⟨slq (by rw [hN2]; simp), trivial⟩, ⟨rwq (by rw [hN2, zt5]; rfl), by rw [hN2]; rfl, trivial⟩, rfl, rfl, rfl, rfl⟩
      · rintro ⟨o, t'⟩ ⟨rfl, rfl⟩
        simp only [trR] at hR
        generalize hO : out ++ (trN t x).1 = o at hgr hR ⊢
        generalize (trN t x).2 = t' at hgr hR ⊢
        have hol : o.length + wtL o <= out.length + wtL out + ((trN t x).1.length + wtL (trN t x).1) := by rw [<- hO, z7k]; simp; omega
        have next : z1j o = false -> gdR o t' (l.drop (i + 1)) = true /\ trR o t' (l.drop (i + 1)) = trR [] to l := fun h => by
          rw [h] at hgr hR
          exact ⟨by simpa using hgr, by simpa using hR⟩
        refine ⟨rfl, z0l (fun hp => ?_) fun hp => ?_⟩
        · have hpos : 0 < o.length := by simpa using hp
          obtain ⟨A, e, rfl, _⟩ := zc8 (l := o) (by intro h; rw [h] at hpos; cases hpos)
          have hlen : ((A ++ [e]).map Nd.enc).length = A.length + 1 := by simp
          have hlc : z1j (A ++ [e]) = z02 e := by simp [z1j]
          refine ⟨rfl, z2j (z := (A.length : Int)) (by rw [hlen]; omega) (by simp at hol; omega), rfl, (by rw [hlen]; omega : A.length < _), rfl, rfl, rfl, z0t (i := A.length) (x := e) sI0, [], z63 e, sR, trivial, rfl, z0l (fun h1 => ?_) fun h1 => ?_⟩
          · have h1' : z1j (A ++ [e]) = true := hlc.trans h1
            rw [h1', if_pos rfl] at hR
            exact ⟨rfl, [], y2c _ (A ++ [e]) (Nat.lt_succ_self _) oM0, sR, trivial, rfl, (fin _ _ hR.symm).1, (fin _ _ hR.symm).2⟩
          · obtain ⟨n1, n2⟩ := next (hlc.trans h1)
            exact ⟨z03 rfl oM0, (i + 1, A ++ [e], t'), z2w hlt, ⟨hlt, by omega, n1, n2⟩, ⟨rfl, rfl, trivial⟩, ⟨rfl, rfl, trivial⟩, rfl, rfl, rfl, rfl⟩
        · have hz : o = [] := by
            have : ¬ 0 < o.length := by simpa using hp
            exact List.length_eq_zero_iff.1 oM0
          obtain ⟨n1, n2⟩ := next (by rw [hz]; rfl)
          exact ⟨z03 rfl oM0, (i + 1, o, t'), z2w hlt, ⟨hlt, by omega, n1, n2⟩, ⟨rfl, rfl, trivial⟩, ⟨rfl, rfl, trivial⟩, rfl, rfl, rfl, rfl⟩
    · rw [List.drop_eq_nil_of_le (za1 (f := Nd.enc) rfl hc)] at hR hw
      simp only [trR] at hR
      exact ⟨rfl, [], y2c _ out (Nat.lt_succ_self _) (by simp only [List.length_nil, wtL] at hw; omega), sR, trivial, rfl, (fin _ _ hR.symm).1, (fin _ _ hR.symm).2⟩
set_option maxRecDepth 20000
theorem sEmp : SubI (.pv (.agg [.val (.slice none 0 0), .val (.slice none 0 0)])) (.pv (Un.enc ⟨[], []⟩)) := fun _ _ _ _ _ h => y4a h
theorem y6d {u : Un} (h : z1g u <= 536870912) {f : Fl} (hf : f ∈ u.flows) : f.body.length + wtL f.body <= 536870912 := by
  have h1 := y2z hf
  unfold z1g z3i at *
  omega
theorem zv4 (u : Un) (hW : z1g u <= 536870912) : SC Tryz.prog 11 [.pv u.enc] [] (fun k => k ∈ []) (.tup [.pv (z5e trB u).1.enc, iInt (z5e trB u).2]) [] := by
  refine SC.vc tb { gh := [(5, [.growC 106 1 199 51 5]), (11, [.fzC 106 1 199])], ids := [(27, 3001)] } [] Tryz.func11 rfl rfl ?_
  have hW2 : z1g u = u.arrays.length + u.flows.length + wtA u.arrays + wtF u.flows := rfl
  refine ⟨[], y5g u hW, sR, trivial, rfl, z0l (fun hc => ?_) fun hc => ?_⟩
  · have hz : ((z49 u).1 == 0) = false := by simpa using hc
    have hH : z5e trB u = (⟨[], []⟩, 1) := by simp [z5e, hz]
    rw [hH]
    exact ⟨sT2 sEmp, trivial⟩
  · have hz : (z49 u).1 = 0 := by simpa using hc
    have hH : z5e trB u = (z3f trB u, 0) := by simp [z5e, hz]
    rw [hH]
    refine ⟨Nat × List Fl, fun (k, _) => [(23, iInt k)], fun (_, out) => [(106, .box [.pv (arrs u.arrays), .sl 199 (out.map Fl.enc).length]), (199, .row ⟨51, 5⟩ (out.map Fl.enc))], fun (k, _) => u.flows.length - k, fun (k, out) => k <= u.flows.length /\ out = (u.flows.take k).map (z46 trB), [], (0, []), ⟨Nat.zero_le _, rfl⟩, ⟨rfl, trivial⟩, ⟨rfl, rfl, trivial⟩, ?_⟩
    rintro ⟨k, out⟩ ⟨hk, rfl⟩
    refine z0l (fun hc => ?_) fun hc => ?_
    · have hlt := za5 (f := Fl.enc) rfl hc
      obtain ⟨x, hx, ht, _, hm⟩ := z7z hlt
      obtain ⟨ho, hg⟩ := y5q hz x hm
      have hb := y6d hW hm
      have hl : ((u.flows.take k).map (z46 trB)).length = k := by simp; omega
      have henc : ((u.flows.take (k + 1)).map (z46 trB)).map Fl.enc = ((u.flows.take k).map (z46 trB)).map Fl.enc ++ [[vStr x.name, vInt x.ty, vInt x.params, ints x.types, z0b (trB x.body)]] := by
        rw [ht, List.map_append]; exact y6n trB _ x
      exact ⟨z08 (f := Fl.enc) hx, rfl, [], y0y _ x.body (Nat.lt_succ_self _) ho oM0 [] hg, sR, ⟨rfl, trivial⟩, rfl, rfl, zz0 rfl, by simp; omega, by simp, z03 rfl oM0, (k + 1, (u.flows.take (k + 1)).map (z46 trB)), z2w hlt, ⟨hlt, rfl⟩, ⟨rfl, trivial⟩, ⟨by rw [henc]; simp; rfl, by rw [henc]; rfl, trivial⟩, rfl, rfl, rfl, rfl⟩
    · rw [List.take_of_length_le (za1 (f := Fl.enc) rfl hc)]
      exact ⟨rfl, sI, trivial⟩
theorem y0t (u v : Un) : SC Tryz.prog 20 [.pv u.enc, .pv v.enc] [] (fun _ => False) (iBool (z2v u v)) [] := by
  refine SC.of Tryz.func20 rfl (lb rfl) fun F ρ w => ?_
  refine tQ <| tG <| cE rfl (z1p rfl rfl) <| cE rfl (z1p rfl rfl) <| sm 1 rfl <| nL <| tQ <| tQ <| tG <| sm 2 rfl <| cV rfl (oSm uT22 rfl) <| sm 2 rfl ?_
  refine cV rfl (oSm uT22 rfl) <| sm 2 rfl ?_
  refine wS 17 rfl (fun hb17 => ?_) fun hb17 => ?_
  ·refine sm 8 rfl <| nL <| Tr.condT rfl <| tQ <| tG <| sm 1 rfl <| nL <| tRt <| rOk rfl ?_ nPo
   refine congrArg (fun b => iBool b) ?_
   have hne : ¬ (u.arrays.length = v.arrays.length /\ u.flows.length = v.flows.length) := by
     rintro ⟨h1, h2⟩
     simp_all
   unfold z2v
   by_cases h1 : u.arrays.length = v.arrays.length
   ·have h2 : ¬ u.flows.length = v.flows.length := fun h2 => hne ⟨h1, h2⟩
    simp [h2]
   simp [h1]
  refine sm 2 rfl <| yV rfl rfl (oSm uT23 rfl) <| sm 2 rfl <| yV rfl rfl (oSm uT23 rfl) <| sm 2 rfl <| nL ?_
  refine tC rfl (fun hc25 => ?_) fun hc25 => ?_
  ·refine tQ <| tG <| sm 1 rfl <| nL <| tRt <| rOk rfl ?_ nPo
   refine congrArg (fun b => iBool b) ?_
   have hne : ¬ (u.arrays.length = v.arrays.length /\ u.flows.length = v.flows.length) := by
     rintro ⟨h1, h2⟩
     simp_all
   unfold z2v
   by_cases h1 : u.arrays.length = v.arrays.length
   ·have h2 : ¬ u.flows.length = v.flows.length := fun h2 => hne ⟨h1, h2⟩
    simp [h2]
   simp [h1]
  have hlen : u.arrays.length = v.arrays.length /\ u.flows.length = v.flows.length := by
    (simp_all <;> omega)
  refine tSk <| tQ <| tQ <| tG <| sm 1 rfl <| nL <| tBk <| Tr.sub (Sub.of (fr' := [(5, iInt 0), (2, .pv (.ept [arrs u.arrays, flws u.flows] 0)), (3, .pv (.ept [arrs v.arrays, flws v.flows] 0))]) ⟨rfl, rfl, rfl, trivial⟩) ?_
  refine Tr.loop (fun fr σ m => ∃ (k : Nat), (k <= u.arrays.length) /\ (z56 u.arrays v.arrays = z56 (u.arrays.drop k) (v.arrays.drop k)) /\ fr = [(5, iInt k), (2, .pv (.ept [arrs u.arrays, flws u.flows] 0)), (3, .pv (.ept [arrs v.arrays, flws v.flows] 0))] /\ σ = look [] /\ m = u.arrays.length - k) (n := u.arrays.length - 0) ?_ ?_
  ·exact ⟨0, Nat.zero_le _, rfl, rfl, rfl, rfl⟩
  rintro fr σ m ⟨k, hI0, hI1, rfl, rfl, rfl⟩
  refine tQ <| tQ <| tG <| sm 3 rfl ?_
  refine WL.lenOf (t := 28) rfl (fun hl1 => ?_)
  simp only [List.length_map] at hl1
  refine cV rfl (oSm uT22 rfl) <| sm 1 rfl <| nL ?_
  refine tC rfl (fun hc30 => ?_) fun hc30 => ?_
  ·have hlt : k < u.arrays.length := by simpa using hc30
   have hd := List.drop_eq_getElem_cons hlt
   have hm := List.getElem_mem hlt
   have hi := z08 (f := Ar.enc) (List.getElem?_eq_getElem hlt)
   generalize u.arrays[k] = x at hd hm hi
   have hltw : k < v.arrays.length := by omega
   have hdw := List.drop_eq_getElem_cons hltw
   have hw := z08 (f := Ar.enc) (List.getElem?_eq_getElem hltw)
   generalize v.arrays[k] = y at hdw hw
   refine tSk <| tQ <| tBk <| tQ <| Tr.still z1q kR0 rfl <| smS 3 rfl <| sV rfl (iSq rfl rfl rfl uT22 hi tS49 rfl (by rfl)) <| sV rfl (lEA rfl rfl Tryz.underlying49 rfl tS49 (lb rfl)) <| smS 3 rfl <| sV rfl (iSq rfl rfl rfl uT22 hw tS49 rfl (by rfl)) <| sV rfl (lEA rfl rfl Tryz.underlying49 rfl tS49 (lb rfl)) <| sV rfl (zb2 rfl rfl rfl Tryz.underlying49 uT9 uT3 rfl rfl dC0 dC0 kR0 kR0) ?_
   refine WS.nil ?_
   refine tC rfl (fun hc43 => ?_) fun hc43 => ?_
   ·refine tQ <| tG <| sm 1 rfl <| nL <| tRt <| rOk rfl ?_ nPo
    have hxy : zm5 x y = false := by
      clear hd hdw hm hi hw hI1
      cases hb1 : (x.name.toList == y.name.toList) <;> cases hb2 : (x.size == y.size) <;> simp_all [zm5]
    have hA : z56 u.arrays v.arrays = false := by rw [hI1, hd, hdw]; simp [z56, hxy]
    simp [z2v, hA]
   refine tSk <| tG <| sm 1 rfl <| cV rfl (oB rfl rfl (z03 rfl oM0)) <| sm 1 rfl <| nL ?_
   refine ⟨_, _, ?_, Sub.of (fr' := [(5, iInt (k + 1)), (2, .pv (.ept [arrs u.arrays, flws u.flows] 0)), (3, .pv (.ept [arrs v.arrays, flws v.flows] 0))]) ⟨rfl, rfl, rfl, trivial⟩, (k + 1), ?_, ?_, rfl, rfl, rfl⟩
   ·omega
   ·omega
   rw [hI1, hd, hdw]
   have hxy : zm5 x y = true := by
     clear hd hdw hm hi hw
     simp_all [zm5]
   simp [z56, hxy]
  refine tEx <| tQ <| tQ ?_
  have hAs : z56 u.arrays v.arrays = true := by
    have hge : u.arrays.length <= k := by simpa using hc30
    rw [hI1, List.drop_eq_nil_of_le hge, List.drop_eq_nil_of_le oM0]
    rfl
  refine tG <| sm 1 rfl <| nL <| tBk <| Tr.sub (Sub.of (fr' := [(6, iInt 0), (2, .pv (.ept [arrs u.arrays, flws u.flows] 0)), (3, .pv (.ept [arrs v.arrays, flws v.flows] 0))]) ⟨rfl, rfl, rfl, trivial⟩) ?_
  refine Tr.loop (fun fr σ m => ∃ (k : Nat), (k <= u.flows.length) /\ (z4b u.flows v.flows = z4b (u.flows.drop k) (v.flows.drop k)) /\ fr = [(6, iInt k), (2, .pv (.ept [arrs u.arrays, flws u.flows] 0)), (3, .pv (.ept [arrs v.arrays, flws v.flows] 0))] /\ σ = look [] /\ m = u.flows.length - k) (n := u.flows.length - 0) ?_ ?_
  ·exact ⟨0, Nat.zero_le _, rfl, rfl, rfl, rfl⟩
  rintro fr σ m ⟨k, hI0, hI1, rfl, rfl, rfl⟩
  refine tQ <| tQ <| tG <| sm 3 rfl ?_
  refine WL.lenOf (t := 46) rfl (fun hl1 => ?_)
  simp only [List.length_map] at hl1
  refine cV rfl (oSm uT23 rfl) <| sm 1 rfl <| nL ?_
  refine tC rfl (fun hc48 => ?_) fun hc48 => ?_
  ·have hlt : k < u.flows.length := by simpa using hc48
   have hd := List.drop_eq_getElem_cons hlt
   have hm := List.getElem_mem hlt
   have hi := z08 (f := Fl.enc) (List.getElem?_eq_getElem hlt)
   generalize u.flows[k] = x at hd hm hi
   have hltw : k < v.flows.length := by omega
   have hdw := List.drop_eq_getElem_cons hltw
   have hw := z08 (f := Fl.enc) (List.getElem?_eq_getElem hltw)
   generalize v.flows[k] = y at hdw hw
   refine tSk <| tQ <| tBk <| tQ ?_
   refine Tr.cut (fr' := [(8, .ptr 108 0), (7, .ptr 107 0), (6, iInt k), (2, .pv (.ept [arrs u.arrays, flws u.flows] 0)), (3, .pv (.ept [arrs v.arrays, flws v.flows] 0))]) (σ' := look [(107, some (.box [iStr x.name, iInt x.ty, iInt x.params, .pv (ints x.types), .pv (z0b x.body)])), (108, some (.box [iStr y.name, iInt y.ty, iInt y.params, .pv (ints y.types), .pv (z0b y.body)]))]) ?_ ?_
   ·refine tDr z1q (fun k => k ∈ ([] : List Nat)) <| wR 4 [0, 1, 2, 3, 4, 5, 6, 7, 8, 9] kR0 (fun _ _ _ h => pn h.1) <| smR 3 rfl <| rV rfl rfl (iSq rfl rfl rfl uT23 hi tS51 rfl (by rfl)) <| rV rfl rfl (lEA rfl rfl Tryz.underlying51 rfl tS51 (lb rfl)) <| smR 3 rfl <| rV rfl rfl (iSq rfl rfl rfl uT23 hw tS51 rfl (by rfl)) <| rV rfl rfl (lEA rfl rfl Tryz.underlying51 rfl tS51 (lb rfl)) <| nR <| WA.all (rs := [10, 11]) kR0 sI0 ?_
    refine fmc ⟨?_, fmc ⟨?_, by simp⟩⟩
    ·refine wI rfl rfl nf (z1a rfl) (fun _ _ => aLc (k := 107) rfl tZ51 rfl rfl rfl rfl) <| wO 11 kR0 <| wI rfl rfl nf (z1a rfl) (fun _ _ => aLc (k := 108) rfl tZ51 rfl rfl rfl rfl) <| wO 12 kR0 <| wI rfl rfl nf (nOl rfl) (fun _ _ => sBA rfl rfl rfl rfl rfl sI0 tS51 (flk rfl) (lb rfl)) <| wO 13 kR0 <| wI rfl rfl nf (nOl rfl) (fun _ _ => sBA rfl rfl rfl rfl rfl sI0 tS51 (flk rfl) (lb rfl)) <| wDn kR0 ?_
     refine ⟨rfl, Sub.of ⟨rfl, rfl, rfl, rfl, rfl, trivial⟩, ?_⟩
     exact z8q rfl rfl (fun k h1 h2 => by simp [look, z0x (Ne.symm h1), z0x (Ne.symm h2)]) dC0
    refine wI rfl rfl nf (z1a rfl) (fun _ _ => aLc (k := 108) rfl tZ51 rfl rfl rfl rfl) <| wO 10 kR0 <| wI rfl rfl nf (z1a rfl) (fun _ _ => aLc (k := 107) rfl tZ51 rfl rfl rfl rfl) <| wO 12 kR0 <| wI rfl rfl nf (nOl rfl) (fun _ _ => sBA rfl rfl rfl rfl rfl sI0 tS51 (flk rfl) (lb rfl)) <| wO 13 kR0 <| wI rfl rfl nf (nOl rfl) (fun _ _ => sBA rfl rfl rfl rfl rfl sI0 tS51 (flk rfl) (lb rfl)) <| wDn kR0 ?_
    refine ⟨rfl, Sub.of ⟨rfl, rfl, rfl, rfl, rfl, trivial⟩, ?_⟩
    exact z8q rfl rfl (fun k h1 h2 => by simp [look, z0x (Ne.symm h1), z0x (Ne.symm h2)]) dC0
   refine Tr.freezeBox (t := 7) (k := 107) rfl rfl rfl <| Tr.freezeBox (t := 8) (k := 108) rfl rfl rfl <| Tr.heap (σ' := look []) (fun k => by simp only [look]; cases Nat.beq 107 k <;> cases Nat.beq 108 k <;> rfl) <| tQ <| tQ <| tG <| sm 4 rfl <| cV rfl (bSt rfl rfl rfl rfl) <| sm 1 rfl ?_
   refine wS 66 rfl (fun hb66 => ?_) fun hb66 => ?_
   ·refine sm 13 rfl <| nL <| Tr.condT rfl <| tQ <| tG <| sm 1 rfl <| nL <| tRt <| rOk rfl ?_ nPo
    have hxy : z83 x y = false := by
      clear hd hdw hm hi hw hI1
      simp_all [z83]
    have hF : z4b u.flows v.flows = false := by rw [hI1, hd, hdw]; simp [z4b, hxy]
    simp [z2v, hF]
   refine sm 7 rfl ?_
   refine wS 73 rfl (fun hb73 => ?_) fun hb73 => ?_
   ·refine sm 6 rfl <| nL <| Tr.condT rfl <| tQ <| tG <| sm 1 rfl <| nL <| tRt <| rOk rfl ?_ nPo
    have hxy : z83 x y = false := by
      clear hd hdw hm hi hw hI1
      simp_all [z83]
    have hF : z4b u.flows v.flows = false := by rw [hI1, hd, hdw]; simp [z4b, hxy]
    simp [z2v, hF]
   refine sm 6 rfl <| nL ?_
   refine tC rfl (fun hc79 => ?_) fun hc79 => ?_
   ·refine tQ <| tG <| sm 1 rfl <| nL <| tRt <| rOk rfl ?_ nPo
    have hxy : z83 x y = false := by
      clear hd hdw hm hi hw hI1
      simp_all [z83]
    have hF : z4b u.flows v.flows = false := by rw [hI1, hd, hdw]; simp [z4b, hxy]
    simp [z2v, hF]
   have hh1 : (x.name.toList == y.name.toList) = true := by clear hd hdw hi hw hm; simp_all
   have hh2 : (x.ty == y.ty) = true := by clear hd hdw hi hw hm; simp_all
   have hh3 : (x.params == y.params) = true := by clear hd hdw hi hw hm; simp_all
   refine tSk <| tQ <| tG <| sm 1 rfl <| nL <| tBk <| Tr.sub (Sub.of (fr' := [(9, iInt 0), (8, .pv (.ept [vStr y.name, vInt y.ty, vInt y.params, ints y.types, z0b y.body] 0)), (7, .pv (.ept [vStr x.name, vInt x.ty, vInt x.params, ints x.types, z0b x.body] 0)), (6, iInt k), (2, .pv (.ept [arrs u.arrays, flws u.flows] 0)), (3, .pv (.ept [arrs v.arrays, flws v.flows] 0))]) ⟨rfl, rfl, rfl, rfl, rfl, rfl, trivial⟩) ?_
   refine Tr.loop (fun fr σ m => ∃ (i : Nat), (i <= x.types.length) /\ (∀ j, j < i -> z3o x.types y.types j = true) /\ fr = [(9, iInt i), (8, .pv (.ept [vStr y.name, vInt y.ty, vInt y.params, ints y.types, z0b y.body] 0)), (7, .pv (.ept [vStr x.name, vInt x.ty, vInt x.params, ints x.types, z0b x.body] 0)), (6, iInt k), (2, .pv (.ept [arrs u.arrays, flws u.flows] 0)), (3, .pv (.ept [arrs v.arrays, flws v.flows] 0))] /\ σ = look [] /\ m = x.types.length - i) (n := x.types.length - 0) ?_ ?_
   ·exact ⟨0, Nat.zero_le _, (fun j hj => absurd hj (Nat.not_lt_zero j)), rfl, rfl, rfl⟩
   rintro fr σ m ⟨i, hJ0, hJ1, rfl, rfl, rfl⟩
   refine tQ <| tQ <| tG <| sm 4 rfl <| nL ?_
   refine tC rfl (fun hc83 => ?_) fun hc83 => ?_
   ·refine tSk <| tQ <| tBk <| tQ <| Tr.still z1q kR0 rfl <| smS 3 rfl ?_
    refine WS.lenOf (t := 88) rfl (fun hl4 => ?_)
    simp only [List.length_map] at hl4
    refine sV rfl (oSm uT35 rfl) <| smS 2 rfl ?_
    refine WS.split (t := 91) rfl (fun hb91 => ?_) (fun hb91 => ?_)
    ·refine smS 19 rfl <| WS.nil <| Tr.condT rfl <| tQ <| tG <| sm 1 rfl <| nL <| tRt <| rOk rfl ?_ nPo
     have hat : z3o x.types y.types i = false := by
       clear hd hdw hi hw hm
       unfold z3o
       (simp_all <;> omega)
     have hty : z98 x.types y.types x.params = false := zj9 (k := i) (by simpa using hc83) hat
     have hxy : z83 x y = false := by unfold z83; rw [hty]; simp
     have hF : z4b u.flows v.flows = false := by rw [hI1, hd, hdw]; simp [z4b, hxy]
     simp [z2v, hF]
    refine smS 3 rfl <| syV rfl rfl (oSm uT35 rfl) <| smS 3 rfl ?_
    refine WS.split (t := 98) rfl (fun hb98 => ?_) (fun hb98 => ?_)
    ·refine smS 12 rfl <| WS.nil <| Tr.condT rfl <| tQ <| tG <| sm 1 rfl <| nL <| tRt <| rOk rfl ?_ nPo
     have hat : z3o x.types y.types i = false := by
       clear hd hdw hi hw hm
       unfold z3o
       (simp_all <;> omega)
     have hty : z98 x.types y.types x.params = false := zj9 (k := i) (by simpa using hc83) hat
     have hxy : z83 x y = false := by unfold z83; rw [hty]; simp
     have hF : z4b u.flows v.flows = false := by rw [hI1, hd, hdw]; simp [z4b, hxy]
     simp [z2v, hF]
    have hit : i < x.types.length /\ i < y.types.length := by simp at hb91 hb98; omega
    have hta : (x.types.map eInt)[i]? = some [vInt (x.types.getD i 0)] := by rw [List.getElem?_map]; simp [eInt, List.getD, hit.1]
    have htb : (y.types.map eInt)[i]? = some [vInt (y.types.getD i 0)] := by rw [List.getElem?_map]; simp [eInt, List.getD, hit.2]
    refine smS 3 rfl <| syV rfl rfl (iSq rfl rfl rfl uT35 hta tS3 rfl (by rfl)) <| smS 4 rfl <| syV rfl rfl (iSq rfl rfl rfl uT35 htb tS3 rfl (by rfl)) <| smS 3 rfl <| WS.nil ?_
    refine tC rfl (fun hc110 => ?_) fun hc110 => ?_
    ·refine tQ <| tG <| sm 1 rfl <| nL <| tRt <| rOk rfl ?_ nPo
     have hat : z3o x.types y.types i = false := by
       clear hd hdw hi hw hm
       unfold z3o
       simp_all
     have hty : z98 x.types y.types x.params = false := zj9 (k := i) (by simpa using hc83) hat
     have hxy : z83 x y = false := by unfold z83; rw [hty]; simp
     have hF : z4b u.flows v.flows = false := by rw [hI1, hd, hdw]; simp [z4b, hxy]
     simp [z2v, hF]
    have hlt1 : i < x.types.length /\ i < y.types.length := by simp at hb91 hb98; omega
    have hat : z3o x.types y.types i = true := by
      have he : x.types.getD i 0 = y.types.getD i 0 := by simpa using hc110
      unfold z3o
      rw [he]
      simp [hlt1.1, hlt1.2]
    refine tSk <| tG <| sm 1 rfl <| cV rfl (oB rfl rfl (z03 rfl oM0)) <| sm 1 rfl <| nL ?_
    refine ⟨_, _, ?_, Sub.of (fr' := [(9, iInt (i + 1)), (8, .pv (.ept [vStr y.name, vInt y.ty, vInt y.params, ints y.types, z0b y.body] 0)), (7, .pv (.ept [vStr x.name, vInt x.ty, vInt x.params, ints x.types, z0b x.body] 0)), (6, iInt k), (2, .pv (.ept [arrs u.arrays, flws u.flows] 0)), (3, .pv (.ept [arrs v.arrays, flws v.flows] 0))]) ⟨rfl, rfl, rfl, rfl, rfl, rfl, trivial⟩, (i + 1), ?_, ?_, rfl, rfl, rfl⟩
    ·omega
    ·omega
    intro j hj
    by_cases e : j = i
    ·subst e; exact hat
    exact hJ1 j oM0
   refine tEx <| tG <| sm 1 rfl <| cV rfl (oB rfl rfl (z03 rfl oM0)) <| sm 1 rfl <| nL ?_
   refine ⟨_, _, ?_, Sub.of (fr' := [(6, iInt (k + 1)), (2, .pv (.ept [arrs u.arrays, flws u.flows] 0)), (3, .pv (.ept [arrs v.arrays, flws v.flows] 0))]) ⟨rfl, rfl, rfl, trivial⟩, (k + 1), ?_, ?_, rfl, rfl, rfl⟩
   ·omega
   ·omega
   rw [hI1, hd, hdw]
   have hty : z98 x.types y.types x.params = true := zr1 (k := i) (by simp at hc83; omega) hJ1
   have hxy : z83 x y = true := by
     unfold z83
     rw [hty, hh1, hh2, hh3]
     rfl
   simp [z4b, hxy]
  refine tEx <| tQ <| tG <| sm 1 rfl <| nL <| tRt <| rOk rfl ?_ nPo
  have hge : u.flows.length <= k := by simpa using hc48
  have hF : z4b u.flows v.flows = true := by rw [hI1, List.drop_eq_nil_of_le hge, List.drop_eq_nil_of_le oM0]; rfl
  simp [z2v, hAs, hF, hlen.1, hlen.2]
set_option maxRecDepth 20000
theorem zt4 (k : Int) : ∀ a b : List (List Nd), cnK k (a ++ b) = cnK k a + cnK k b
  | [], b => by simp [cnK]
  | x :: r, b => by simp only [List.cons_append, cnK, zt4 k r b]; omega
theorem zm8 (k : Int) : ∀ (N : Nat) (l : List Nd), SizeOf.sizeOf l < N -> l.length + wtL l <= 1073741824 -> SC Tryz.prog 45 [.pv (z0b l), iInt k] [] (fun k => k ∈ []) (iInt (cnL k l)) []
  | 0, _, h, _ => absurd h (Nat.not_lt_zero _)
  | N + 1, l, hN, hb => by
    refine SC.vc tb { jn := [7] } [] Tryz.func45 rfl rfl ?_
    have hle : cnL k l <= 1073741824 := Nat.le_trans (y34 k l) hb
    refine ⟨Nat, fun i => [(6, iInt i), (5, iInt (cnL k (l.take i)))], fun _ => [], fun i => l.length - i, fun i => i <= l.length, [], 0, Nat.zero_le _, ⟨rfl, rfl, trivial⟩, trivial, ?_⟩
    intro i hi
    refine z0l (fun hc => ?_) fun hc => ?_
    · have hlt := za5 (f := Nd.enc) rfl hc
      obtain ⟨x, hx, ht, hd, hm⟩ := z7z hlt
      have happ : cnL k l = cnL k (l.take i) + (cnN k x + cnL k (l.drop (i + 1))) := by
        conv => lhs; rw [<- List.take_append_drop i l, hd]
        rw [z73]; rfl
      have hone : cnL k (l.take (i + 1)) = cnL k (l.take i) + cnN k x := by rw [ht, z73]; rfl
      rw [z9y] at happ hone
      have hw := zs8 hm
      have hwa := (z8n x).2.2
      have hkl := zx5 x.kids
      refine ⟨Unit, fun _ => [(5, iInt ((cnL k (l.take i) + (if x.kind == k then 1 else 0) : Nat) : Int))], fun _ => [], fun _ => True, [], ⟨z0t hx, rfl, z0l (fun h1 => ?_) fun h1 => ?_⟩, ?_⟩
      · have h1' : (x.kind == k) = true := h1
        exact ⟨z03 rfl oM0, (), trivial, ⟨ivq (by simp [h1']), trivial⟩, trivial, rfl, rfl, rfl, rfl⟩
      · have h1' : (x.kind == k) = false := h1
        exact ⟨(), trivial, ⟨ivq (by simp [h1']), trivial⟩, trivial, rfl, rfl, rfl, rfl⟩
      · rintro _ _
        generalize (if x.kind == k then 1 else 0) = e at happ hone ⊢
        have hfit : x.kind == 10 -> ∀ j, cnK k (x.kids.take j) <= cnK k x.kids := fun _ j => by
          conv => rhs; rw [<- List.take_append_drop j x.kids]
          rw [zt4]; omega
        refine ⟨Nat, fun j => [(7, iInt j), (5, iInt ((cnL k (l.take i) + e + cnK k (x.kids.take j) : Nat) : Int))], fun _ => [], fun j => x.kids.length - j, fun j => j <= x.kids.length /\ ((x.kind == 10) = false -> j = 0), [], 0, ⟨Nat.zero_le _, fun _ => rfl⟩, ⟨rfl, rfl, trivial⟩, trivial, ?_⟩
        rintro j ⟨hj, hj0⟩
        have last : (x.kind == 10) = false ∨ x.kids.length <= j -> cnL k (l.take i) + e + cnK k (x.kids.take j) = cnL k (l.take (i + 1)) := fun h => by
          rcases h with h | h
          · rw [hj0 h, hone, h]; simp [cnK]
          · by_cases h10 : (x.kind == 10) = true
            · rw [hone, if_pos h10, List.take_of_length_le h]; omega
            · have h10' : (x.kind == 10) = false := by simpa using h10
              rw [hj0 h10', hone, h10']; simp [cnK]
        refine ⟨z0t hx, rfl, z0l (fun hc2 => ?_) fun hc2 => ?_⟩
        · have hlt2 := za5 (f := eKid) rfl hc2
          obtain ⟨q, hq, ht2, _, hm2⟩ := z7z hlt2
          refine ⟨z0t hx, rfl, z0l (fun h10 => ?_) fun h10 => ?_⟩
          · have h10' : (x.kind == 10) = true := h10
            have h1 := hfit h10' (j + 1)
            rw [if_pos h10'] at happ
            rw [ht2, zt4] at h1
            have hwq := zp0 hm2
            have hs : cnK k [q] = cnL k q := by simp [cnK]
            rw [hs] at h1
            exact ⟨z0t hx, rfl, z08 (f := eKid) hq, rfl, [], zm8 k N q (Nat.lt_of_lt_of_le (z5w hm rfl hm2) (Nat.le_of_lt_succ hN)) oM0, sR, trivial, rfl, z03 rfl oM0, z03 rfl oM0, j + 1, z2w hlt2, ⟨hlt2, fun h => by rw [h] at h10'; cases h10'⟩, ⟨rfl, ivq (by rw [ht2, zt4, hs]; omega), trivial⟩, trivial, rfl, rfl, rfl, rfl⟩
          · exact ⟨z03 rfl oM0, i + 1, z2w hlt, hlt, ⟨rfl, ivq (by rw [last (.inl h10)]), trivial⟩, trivial, rfl, rfl, rfl, rfl⟩
        · exact ⟨z03 rfl oM0, i + 1, z2w hlt, hlt, ⟨rfl, ivq (by rw [last (.inr (za1 (f := eKid) rfl hc2))]), trivial⟩, trivial, rfl, rfl, rfl, rfl⟩
    · exact ⟨sE (by rw [List.take_of_length_le (za1 (f := Nd.enc) rfl hc)]), trivial⟩
set_option maxRecDepth 20000
theorem intne {m n : Nat} (h : ((m : Int) != n) = true) : m ≠ n := fun e => by subst e; simp at h
theorem inteq {m n : Nat} (h : ((m : Int) != n) = false) : m = n := Int.ofNat.inj (by simpa using h)
theorem sc_lIdle (x : Nd) : SC Tryz.prog 44 [.pv (ndv x)] [] (fun k => k ∈ []) (iBool (zt8 x.kids)) [] := by
  refine SC.vc tb { gh := [(9, [.len 57])] } [] Tryz.func44 rfl rfl ?_
  have no : ∀ ks : List (List Nd), ks.length ≠ 2 -> zt8 ks = false := fun ks h => by
    match ks, h with
    | [], _ => rfl
    | [_], _ => rfl
    | [_, _], h => exact absurd rfl h
    | _ :: _ :: _ :: _, _ => rfl
  have no2 : ∀ a b : List Nd, (a.length ≠ 1 ∨ b.length ≠ 1) -> z31 a b = false := fun a b h => by
    match a, b, h with
    | [], _, _ => rfl
    | [_], [], _ => rfl
    | [_], [_], h => simp at h
    | [_], _ :: _ :: _, _ => rfl
    | _ :: _ :: _, _, _ => rfl
  refine z0l (fun h1 => ?_) fun h1 => ?_
  · exact ⟨sE (by rw [no _ (by have := intne h1; simpa using this)]), trivial⟩
  · obtain ⟨a, b, hk⟩ : ∃ a b, x.kids = [a, b] := by
      have h2 : x.kids.length = 2 := by have := inteq h1; simpa using this
      match x.kids, h2 with
      | [a, b], _ => exact ⟨a, b, rfl⟩
    obtain ⟨h0, h1', _, _⟩ := y3f hk
    have hI : zt8 x.kids = z31 a b := by rw [hk]; rfl
    rw [hI]
    refine ⟨h0, rfl, z0l (fun ha => ?_) fun ha => ?_⟩
    · exact ⟨sE (by rw [no2 a b (.inl (by have := intne ha; simpa using this))]), trivial⟩
    · obtain ⟨y, rfl⟩ : ∃ y, a = [y] := List.length_eq_one_iff.1 (by have := inteq ha; simpa using this)
      refine ⟨h1', rfl, z0l (fun hb => ?_) fun hb => ?_⟩
      · exact ⟨sE (by rw [no2 _ b (.inr (by have := intne hb; simpa using this))]), trivial⟩
      · obtain ⟨z, rfl⟩ : ∃ z, b = [z] := List.length_eq_one_iff.1 (by have := inteq hb; simpa using this)
        refine ⟨h0, rfl, z0t (i := 0) (x := y) rfl, rfl, h1', rfl, z0t (i := 0) (x := z) rfl, rfl, z0l (fun hy => ?_) fun hy => ?_⟩
        · have hy' : (y.kind == 12) = false := by simpa using hy
          exact ⟨sE (by simp [z31, hy']), trivial⟩
        · have hy' : (y.kind == 12) = true := by simpa using hy
          refine z0l (fun hz => ?_) fun hz => ?_
          · have hz' : (z.kind == 12) = false := by simpa using hz
            exact ⟨sE (by simp [z31, hz']), trivial⟩
          · have hz' : (z.kind == 12) = true := by simpa using hz
            have hT : z31 [y] [z] = (y.args == z.args) := by simp [z31, hy', hz']
            rw [hT]
            refine z0l (fun hn => ?_) fun hn => ?_
            · exact ⟨sE (by rw [y65 (by have := intne hn; simp at this; omega)]), trivial⟩
            · have hlm : y.args.length = z.args.length := by have := inteq hn; simpa using this
              refine ⟨Nat, fun k => [(5, iInt k)], fun _ => [], fun k => y.args.length - k, fun k => k <= y.args.length /\ y.args.take k = z.args.take k, [], 0, ⟨Nat.zero_le _, rfl⟩, ⟨rfl, trivial⟩, trivial, ?_⟩
              rintro k ⟨hk', he⟩
              refine z0l (fun hc => ?_) fun hc => ?_
              · have hlt := za5 (f := eInt) rfl hc
                obtain ⟨v, hv, ht, _, _⟩ := z7z hlt
                obtain ⟨u, hu, ht2, _, _⟩ := z7z (show k < z.args.length by omega)
                intro hl
                simp only [List.length_map] at hl
                refine ⟨z08 (f := eInt) hv, rfl, z08 (f := eInt) hu, rfl, z0l (fun h2 => ?_) fun h2 => ?_⟩
                · have hvu : v ≠ u := by simpa using h2
                  have hne : (y.args == z.args) = false := by
                    cases hq : y.args == z.args with
                    | false => rfl
                    | true => rw [eq_of_beq hq, hu] at hv; exact absurd (Option.some.inj hv).symm hvu
                  exact ⟨sE (by rw [hne]), trivial⟩
                · have hvu : v = u := by simpa using h2
                  exact ⟨z03 rfl oM0, k + 1, z2w hlt, ⟨hlt, by rw [ht, ht2, he, hvu]⟩, ⟨rfl, trivial⟩, trivial, rfl, rfl, rfl, rfl⟩
              · have hge := za1 (f := eInt) rfl hc
                rw [List.take_of_length_le hge, List.take_of_length_le oM0] at he
                exact ⟨sE (by rw [he]; simp), trivial⟩
theorem onceK_no {ks : List (List Nd)} (h : ks.length ≠ 1) : y4x ks = false := by
  match ks, h with
  | [], _ => rfl
  | [_], h => exact absurd rfl h
  | _ :: _ :: _, _ => rfl
theorem y8c : ∀ (N : Nat) (l : List Nd), SizeOf.sizeOf l < N -> l.length + wtL l <= 1073741824 -> SC Tryz.prog 24 [.pv (z0b l)] [] (fun k => k ∈ []) (iBool (fiL l)) []
  | 0, _, h, _ => absurd h (Nat.not_lt_zero _)
  | N + 1, l, hN, hb => by
    refine SC.vc tb { jn := [7, 12] } [] Tryz.func24 rfl rfl ?_
    refine ⟨Nat, fun i => [(3, iInt i)], fun _ => [], fun i => l.length - i, fun i => i <= l.length /\ fiL l = fiL (l.drop i), [], 0, ⟨Nat.zero_le _, rfl⟩, ⟨rfl, trivial⟩, trivial, ?_⟩
    rintro i ⟨hi, hI⟩
    refine z0l (fun hc => ?_) fun hc => ?_
    · have hlt := za5 (f := Nd.enc) rfl hc
      obtain ⟨x, hx, ht, hd, hm⟩ := z7z hlt
      have hw := zs8 hm
      have hwa := (z8n x).2.2
      have hkl := zx5 x.kids
      rw [hd, fiL, y36] at hI
      have bad : (x.kind == 10 && zt8 x.kids) = true ∨ (x.kind == 11 && y4x x.kids) = true ∨ fiK x.kids = false -> fiL l = false := fun h => by
        rw [hI]
        rcases h with h | h | h <;> rw [h] <;> simp
      refine ⟨z0t hx, rfl, Unit, fun _ => [], fun _ => [], fun _ => (x.kind == 10 && zt8 x.kids) = false, [], ?_, ?_⟩
      · refine z0l (fun h1 => ?_) fun h1 => ?_
        · have h1' : (x.kind == 10) = true := h1
          refine ⟨[], sc_lIdle x, sR, trivial, rfl, z0l (fun h2 => ?_) fun h2 => ?_⟩
          · have h2' : zt8 x.kids = true := h2
            exact ⟨sE (by rw [bad (.inl (by rw [h1', h2']; rfl))]), trivial⟩
          · have h2' : zt8 x.kids = false := h2
            exact ⟨(), by rw [h2', Bool.and_false], trivial, trivial, rfl, rfl, rfl, rfl⟩
        · have h1' : (x.kind == 10) = false := h1
          exact ⟨(), by rw [h1', Bool.false_and], trivial, trivial, rfl, rfl, rfl, rfl⟩
      · intro _ hA
        rw [hA] at hI
        refine ⟨Unit, fun _ => [], fun _ => [], fun _ => (x.kind == 11 && y4x x.kids) = false, [], ?_, ?_⟩
        · refine z0l (fun h1 => ?_) fun h1 => ?_
          · have h1' : (x.kind == 11) = true := h1
            refine z0l (fun h2 => ?_) fun h2 => ?_
            · obtain ⟨a, hks⟩ : ∃ a, x.kids = [a] := List.length_eq_one_iff.1 (Int.ofNat.inj (by simpa using h2))
              have h0 : (x.kids.map eKid)[0]? = some [z0b a] := by rw [hks]; rfl
              have hO : y4x x.kids = (!a.isEmpty && z2m a) := by rw [hks]; rfl
              have hal : a.length + wtL a <= 1073741824 := by rw [hks] at hwa; simp only [wtK] at hwa; omega
              refine ⟨h0, rfl, z0l (fun h3 => ?_) fun h3 => ?_⟩
              · have hpos : 0 < a.length := by simpa using h3
                have hem : a.isEmpty = false := by cases a with
                  | nil => cases hpos
                  | cons _ _ => rfl
                rw [hem, Bool.not_false, Bool.true_and] at hO
                refine ⟨h0, rfl, [], zm8 14 _ a (Nat.lt_succ_self _) hal, sR, trivial, rfl, [], zm8 13 _ a (Nat.lt_succ_self _) hal, sR, trivial, rfl, z0l (fun h4 => ?_) fun h4 => ?_⟩
                · have h13 : cnL 13 a = 0 := by have := of_decide_eq_true h4; omega
                  refine z0l (fun h5 => ?_) fun h5 => ?_
                  · have h14 : cnL 14 a = 0 := by have := of_decide_eq_true h5; omega
                    exact ⟨sE (by rw [bad (.inr (.inl (by rw [h1', hO]; simp [z2m, h13, h14])))]), trivial⟩
                  · have h14 : cnL 14 a ≠ 0 := by have := of_decide_eq_false h5; omega
                    refine z0l (fun h6 => ?_) fun h6 => ?_
                    · have h15 : cnL 14 a = 1 := by have := of_decide_eq_true h6; omega
                      obtain ⟨A, e, he, _, hl, _⟩ := zc8 (l := a) (by intro h; rw [h] at hpos; cases hpos)
                      have hlen2 : (a.map Nd.enc).length = A.length + 1 := by rw [he]; simp
                      refine ⟨z2j (z := (A.length : Int)) (by rw [hlen2]; omega) (by rw [he] at hal; simp at hal; omega), z0t (i := A.length) (x := e) (by rw [he]; simp), rfl, z0l (fun h7 => ?_) fun h7 => ?_⟩
                      · have h7' : (e.kind == 14) = true := h7
                        exact ⟨sE (by rw [bad (.inr (.inl (by rw [h1', hO]; simp only [z2m, h13, h15, hl, h7']; rfl)))]), trivial⟩
                      · have h7' : (e.kind == 14) = false := h7
                        exact ⟨(), by rw [hO]; simp only [z2m, h13, h15, hl, h7']; simp, trivial, trivial, rfl, rfl, rfl, rfl⟩
                    · have h15 : cnL 14 a ≠ 1 := by have := of_decide_eq_false h6; omega
                      exact ⟨(), by rw [hO]; simp [z2m, h13, h14, h15], trivial, trivial, rfl, rfl, rfl, rfl⟩
                · have h13 : cnL 13 a ≠ 0 := by have := of_decide_eq_false h4; omega
                  exact ⟨(), by rw [hO]; simp [z2m, h13], trivial, trivial, rfl, rfl, rfl, rfl⟩
              · have hem : a = [] := by
                  have : ¬ 0 < a.length := by simpa using h3
                  exact List.length_eq_zero_iff.1 oM0
                exact ⟨(), by rw [hO, hem]; simp, trivial, trivial, rfl, rfl, rfl, rfl⟩
            · have hne : x.kids.length ≠ 1 := fun e => by
                simp only [List.length_map, e] at h2; cases h2
              exact ⟨(), by rw [onceK_no hne, Bool.and_false], trivial, trivial, rfl, rfl, rfl, rfl⟩
          · have h1' : (x.kind == 11) = false := h1
            exact ⟨(), by rw [h1', Bool.false_and], trivial, trivial, rfl, rfl, rfl, rfl⟩
        · intro _ hB
          rw [hB] at hI
          simp only [Bool.not_false, Bool.true_and] at hI
          refine ⟨Nat, fun j => [(7, iInt j)], fun _ => [], fun j => x.kids.length - j, fun j => j <= x.kids.length /\ fiK x.kids = fiK (x.kids.drop j), [], 0, ⟨Nat.zero_le _, rfl⟩, ⟨rfl, trivial⟩, trivial, ?_⟩
          rintro j ⟨hj, hJ⟩
          refine z0l (fun hc2 => ?_) fun hc2 => ?_
          · have hlt2 := za5 (f := eKid) rfl hc2
            obtain ⟨q, hq, _, hd2, hm2⟩ := z7z hlt2
            have hwq := zp0 hm2
            rw [hd2, fiK] at hJ
            refine ⟨z08 (f := eKid) hq, rfl, [], y8c N q (Nat.lt_of_lt_of_le (z5w hm rfl hm2) (Nat.le_of_lt_succ hN)) oM0, sR, trivial, rfl, z0l (fun h3 => ?_) fun h3 => ?_⟩
            · have h3' : fiL q = false := by simpa using h3
              exact ⟨sE (by rw [bad (.inr (.inr (by rw [hJ, h3', Bool.false_and])))]), trivial⟩
            · have h3' : fiL q = true := by simpa using h3
              exact ⟨z03 rfl oM0, j + 1, z2w hlt2, ⟨hlt2, by rw [hJ, h3', Bool.true_and]⟩, ⟨rfl, trivial⟩, trivial, rfl, rfl, rfl, rfl⟩
          · rw [List.drop_eq_nil_of_le (za1 (f := eKid) rfl hc2)] at hJ
            have hk1 : fiK x.kids = true := hJ
            exact ⟨z03 rfl oM0, i + 1, z2w hlt, ⟨hlt, by rw [hI, hk1, Bool.true_and]⟩, ⟨rfl, trivial⟩, trivial, rfl, rfl, rfl, rfl⟩
    · rw [List.drop_eq_nil_of_le (za1 (f := Nd.enc) rfl hc)] at hI
      exact ⟨sE (by rw [hI]; rfl), trivial⟩
theorem z3r (b : Bool) : SC Tryz.prog 113 [iBool b] [] (fun _ => False) (iInt (y04 b)) [] := by
  refine SC.of Tryz.func113 rfl (lb rfl) fun F ρ w => ?_
  refine tQ <| tG <| sm 1 rfl <| nL <| tQ <| tQ <| tG <| sm 1 rfl <| nL ?_
  refine tC rfl (fun hc3 => ?_) fun hc3 => ?_
  ·refine tQ <| tG <| sm 1 rfl <| nL <| tRt <| rOk rfl ?_ nPo
   cases b <;> first | rfl | (simp_all; done)
  refine tSk <| tQ <| tG <| sm 1 rfl <| nL <| tRt <| rOk rfl ?_ nPo
  cases b <;> first | rfl | (simp_all; done)
theorem sc_mOne (op a : Int) : SC Tryz.prog 97 [iInt op, iInt a] [] (fun _ => False) (iInt (mOne op a)) [] := by
  refine SC.of Tryz.func97 rfl (lb rfl) fun F ρ w => ?_
  refine tQ <| tG <| sm 1 rfl <| nL <| tQ <| tQ <| tG <| sm 1 rfl <| nL <| tBk <| tQ <| tG ?_
  refine sm 2 rfl <| nL ?_
  refine tC rfl (fun hc6 => ?_) fun hc6 => ?_
  ·refine tQ <| tG <| sm 3 rfl <| nL <| tRt <| rOk rfl ?_ nPo
   (simp only [mOne, *, if_true, Bool.false_eq_true, if_false, Bool.or_true, Bool.true_or, Bool.or_false] <;> rfl)
  refine tQ <| tG <| sm 2 rfl <| nL ?_
  refine tC rfl (fun hc10 => ?_) fun hc10 => ?_
  ·refine tQ <| tG <| sm 3 rfl <| nL <| tRt <| rOk rfl ?_ nPo
   (simp only [mOne, *, if_true, Bool.false_eq_true, if_false, Bool.or_true, Bool.true_or, Bool.or_false] <;> rfl)
  refine tQ <| tG <| sm 2 rfl <| nL ?_
  refine tC rfl (fun hc14 => ?_) fun hc14 => ?_
  ·refine tQ <| tG <| sm 2 rfl <| cE rfl (ocq (z3r _) z6t rfl rfl) <| sm 1 rfl <| nL <| tRt <| rOk rfl ?_ nPo
   (simp only [mOne, *, if_true, Bool.false_eq_true, if_false, Bool.or_true, Bool.true_or, Bool.or_false] <;> rfl)
  refine tQ <| tG <| sm 2 rfl <| nL ?_
  refine tC rfl (fun hc19 => ?_) fun hc19 => ?_
  ·refine tQ <| tG <| sm 3 rfl <| nL <| tRt <| rOk rfl ?_ nPo
   (simp only [mOne, *, if_true, Bool.false_eq_true, if_false, Bool.or_true, Bool.true_or, Bool.or_false] <;> rfl)
  refine tQ <| tG <| sm 2 rfl <| nL ?_
  refine tC rfl (fun hc23 => ?_) fun hc23 => ?_
  ·refine tQ <| tG <| sm 3 rfl <| nL <| tRt <| rOk rfl ?_ nPo
   (simp only [mOne, *, if_true, Bool.false_eq_true, if_false, Bool.or_true, Bool.true_or, Bool.or_false] <;> rfl)
  refine tQ <| tG <| sm 2 rfl <| nL ?_
  refine tC rfl (fun hc27 => ?_) fun hc27 => ?_
  ·refine tQ <| tG <| sm 3 rfl <| nL <| tRt <| rOk rfl ?_ nPo
   (simp only [mOne, *, if_true, Bool.false_eq_true, if_false, Bool.or_true, Bool.true_or, Bool.or_false] <;> rfl)
  refine tQ <| tG <| sm 2 rfl <| nL ?_
  refine tC rfl (fun hc31 => ?_) fun hc31 => ?_
  ·refine tQ <| tG <| sm 5 rfl <| nL <| tRt <| rOk rfl ?_ nPo
   (simp only [mOne, *, if_true, Bool.false_eq_true, if_false, Bool.or_true, Bool.true_or, Bool.or_false] <;> rfl)
  refine tQ <| tG <| sm 2 rfl <| nL ?_
  refine tC rfl (fun hc37 => ?_) fun hc37 => ?_
  ·refine tQ <| tG <| sm 5 rfl <| nL <| tRt <| rOk rfl ?_ nPo
   (simp only [mOne, *, if_true, Bool.false_eq_true, if_false, Bool.or_true, Bool.true_or, Bool.or_false] <;> rfl)
  refine tQ <| tG <| sm 2 rfl <| nL ?_
  refine tC rfl (fun hc43 => ?_) fun hc43 => ?_
  ·refine tQ <| tG <| sm 5 rfl <| nL <| tRt <| rOk rfl ?_ nPo
   (simp only [mOne, *, if_true, Bool.false_eq_true, if_false, Bool.or_true, Bool.true_or, Bool.or_false] <;> rfl)
  refine tSk <| tQ <| tG <| sm 1 rfl <| nL <| tRt <| rOk rfl ?_ nPo
  (simp only [mOne, *, if_true, Bool.false_eq_true, if_false, Bool.or_true, Bool.true_or, Bool.or_false] <;> rfl)
theorem sc_mTwo (op a b : Int) : SC Tryz.prog 98 [iInt op, iInt a, iInt b] [] (fun _ => False) (.tup [iInt (mTwo op a b).1, iBool (mTwo op a b).2]) [] := by
  refine SC.of Tryz.func98 rfl (lb rfl) fun F ρ w => ?_
  refine tQ <| tG <| sm 2 rfl <| nL <| tQ <| tQ <| tG <| sm 1 rfl <| nL <| tBk <| tQ <| tG ?_
  refine sm 2 rfl <| nL ?_
  refine tC rfl (fun hc9 => ?_) fun hc9 => ?_
  ·refine tQ <| tG <| sm 5 rfl <| nL <| tRt <| rOk rfl ?_ nPo
   (simp only [mTwo, *, if_true, Bool.false_eq_true, if_false, Bool.or_true, Bool.true_or, Bool.or_false] <;> rfl)
  refine tQ <| tG <| sm 2 rfl <| nL ?_
  refine tC rfl (fun hc14 => ?_) fun hc14 => ?_
  ·refine tQ <| tG <| sm 5 rfl <| nL <| tRt <| rOk rfl ?_ nPo
   (simp only [mTwo, *, if_true, Bool.false_eq_true, if_false, Bool.or_true, Bool.true_or, Bool.or_false] <;> rfl)
  refine tQ <| tG <| sm 2 rfl <| nL ?_
  refine tC rfl (fun hc19 => ?_) fun hc19 => ?_
  ·refine tQ <| tG <| sm 5 rfl <| nL <| tRt <| rOk rfl ?_ nPo
   (simp only [mTwo, *, if_true, Bool.false_eq_true, if_false, Bool.or_true, Bool.true_or, Bool.or_false] <;> rfl)
  refine tQ <| tQ <| tG <| sm 2 rfl <| nL ?_
  refine tC rfl (fun hc24 => ?_) fun hc24 => ?_
  ·refine tSk ?_
   refine tC rfl (fun hc24 => ?_) fun hc24 => ?_
   ·refine tQ <| tQ <| tG <| sm 2 rfl <| nL ?_
    refine tC rfl (fun hc28 => ?_) fun hc28 => ?_
    ·refine tQ <| tG <| sm 2 rfl <| nL <| tRt <| rOk rfl ?_ nPo
     (simp only [mTwo, *, if_true, Bool.false_eq_true, if_false, Bool.or_true, Bool.true_or, Bool.or_false] <;> rfl)
    refine tSk <| tQ <| tQ <| tG <| sm 2 rfl <| nL ?_
    refine tC rfl (fun hc30 => ?_) fun hc30 => ?_
    ·refine tQ <| tG <| sm 2 rfl <| cV rfl (oB rfl rfl (show z3v .quo .i64 a b = some (.int .i64 (w64 (a.tdiv b))) by simp [z3v, w64, show ¬ b = 0 by simpa using hc28])) <| sm 2 rfl <| nL <| tRt <| rOk rfl ?_ nPo
     (simp only [mTwo, *, if_true, Bool.false_eq_true, if_false, Bool.or_true, Bool.true_or, Bool.or_false] <;> rfl)
    refine tSk <| tQ <| tG <| sm 2 rfl <| cV rfl (oB rfl rfl (show z3v .rem .i64 a b = some (.int .i64 (a.tmod b)) by simp [z3v, show ¬ b = 0 by simpa using hc28])) <| sm 2 rfl <| nL <| tRt <| rOk rfl ?_ nPo
    (exfalso; simp_all; done)
   refine tQ <| tG <| sm 2 rfl <| nL ?_
   refine tC rfl (fun hc37 => ?_) fun hc37 => ?_
   ·refine tQ <| tG <| sm 5 rfl <| nL <| tRt <| rOk rfl ?_ nPo
    (exfalso; simp_all; done)
   refine tQ <| tG <| sm 2 rfl <| nL ?_
   refine tC rfl (fun hc42 => ?_) fun hc42 => ?_
   ·refine tQ <| tG <| sm 5 rfl <| nL <| tRt <| rOk rfl ?_ nPo
    (exfalso; simp_all; done)
   refine tQ <| tG <| sm 2 rfl <| nL ?_
   refine tC rfl (fun hc47 => ?_) fun hc47 => ?_
   ·refine tQ <| tG <| sm 5 rfl <| nL <| tRt <| rOk rfl ?_ nPo
    (exfalso; simp_all; done)
   refine tQ <| tG <| sm 2 rfl <| nL ?_
   refine tC rfl (fun hc52 => ?_) fun hc52 => ?_
   ·refine tQ <| tG <| sm 3 rfl <| cV rfl (y7y rfl rfl rfl (y46 b)) <| sm 2 rfl <| nL <| tRt <| rOk rfl ?_ nPo
    (exfalso; simp_all; done)
   refine tQ <| tG <| sm 2 rfl <| nL ?_
   refine tC rfl (fun hc58 => ?_) fun hc58 => ?_
   ·refine tQ <| tG <| sm 3 rfl <| cV rfl (y0e rfl rfl rfl (y46 b)) <| sm 2 rfl <| nL <| tRt <| rOk rfl ?_ nPo
    (exfalso; simp_all; done)
   refine tQ <| tG <| sm 2 rfl <| nL ?_
   refine tC rfl (fun hc64 => ?_) fun hc64 => ?_
   ·refine tQ <| tG <| sm 1 rfl <| cV rfl (z47 rfl rfl ⟨_, uT3⟩ Tryz.underlying131) <| sm 2 rfl <| cV rfl (y0e rfl rfl rfl (y46 b)) <| cV rfl (z47 rfl rfl ⟨_, Tryz.underlying131⟩ uT3) <| sm 2 rfl <| nL <| tRt <| rOk rfl ?_ nPo
    (exfalso; simp_all; done)
   refine tQ <| tG <| sm 2 rfl <| nL ?_
   refine tC rfl (fun hc72 => ?_) fun hc72 => ?_
   ·refine tQ <| tG <| sm 3 rfl <| cE rfl (ocq (z3r _) z6t rfl rfl) <| sm 2 rfl <| nL <| tRt <| rOk rfl ?_ nPo
    (exfalso; simp_all; done)
   refine tQ <| tG <| sm 2 rfl <| nL ?_
   refine tC rfl (fun hc78 => ?_) fun hc78 => ?_
   ·refine tQ <| tG <| sm 3 rfl <| cE rfl (ocq (z3r _) z6t rfl rfl) <| sm 2 rfl <| nL <| tRt <| rOk rfl ?_ nPo
    (exfalso; simp_all; done)
   refine tQ <| tG <| sm 2 rfl <| nL ?_
   refine tC rfl (fun hc84 => ?_) fun hc84 => ?_
   ·refine tQ <| tG <| sm 3 rfl <| cE rfl (ocq (z3r _) z6t rfl rfl) <| sm 2 rfl <| nL <| tRt <| rOk rfl ?_ nPo
    (exfalso; simp_all; done)
   refine tQ <| tG <| sm 2 rfl <| nL ?_
   refine tC rfl (fun hc90 => ?_) fun hc90 => ?_
   ·refine tQ <| tG <| sm 3 rfl <| cE rfl (ocq (z3r _) z6t rfl rfl) <| sm 2 rfl <| nL <| tRt <| rOk rfl ?_ nPo
    (exfalso; simp_all; done)
   refine tQ <| tG <| sm 2 rfl <| nL ?_
   refine tC rfl (fun hc96 => ?_) fun hc96 => ?_
   ·refine tQ <| tG <| sm 3 rfl <| cE rfl (ocq (z3r _) z6t rfl rfl) <| sm 2 rfl <| nL <| tRt <| rOk rfl ?_ nPo
    (exfalso; simp_all; done)
   refine tQ <| tG <| sm 2 rfl <| nL ?_
   refine tC rfl (fun hc102 => ?_) fun hc102 => ?_
   ·refine tQ <| tG <| sm 3 rfl <| cE rfl (ocq (z3r _) z6t rfl rfl) <| sm 2 rfl <| nL <| tRt <| rOk rfl ?_ nPo
    (exfalso; simp_all; done)
   refine tSk <| tQ <| tG <| sm 2 rfl <| nL <| tRt <| rOk rfl ?_ nPo
   (exfalso; simp_all; done)
  refine tG <| sm 2 rfl <| nL ?_
  refine tC rfl (fun hc24 => ?_) fun hc24 => ?_
  ·refine tQ <| tQ <| tG <| sm 2 rfl <| nL ?_
   refine tC rfl (fun hc28 => ?_) fun hc28 => ?_
   ·refine tQ <| tG <| sm 2 rfl <| nL <| tRt <| rOk rfl ?_ nPo
    (simp only [mTwo, *, if_true, Bool.false_eq_true, if_false, Bool.or_true, Bool.true_or, Bool.or_false] <;> rfl)
   refine tSk <| tQ <| tQ <| tG <| sm 2 rfl <| nL ?_
   refine tC rfl (fun hc30 => ?_) fun hc30 => ?_
   ·refine tQ <| tG <| sm 2 rfl <| cV rfl (oB rfl rfl (show z3v .quo .i64 a b = some (.int .i64 (w64 (a.tdiv b))) by simp [z3v, w64, show ¬ b = 0 by simpa using hc28])) <| sm 2 rfl <| nL <| tRt <| rOk rfl ?_ nPo
    (exfalso; simp_all; done)
   refine tSk <| tQ <| tG <| sm 2 rfl <| cV rfl (oB rfl rfl (show z3v .rem .i64 a b = some (.int .i64 (a.tmod b)) by simp [z3v, show ¬ b = 0 by simpa using hc28])) <| sm 2 rfl <| nL <| tRt <| rOk rfl ?_ nPo
   (simp only [mTwo, *, if_true, Bool.false_eq_true, if_false, Bool.or_true, Bool.true_or, Bool.or_false] <;> rfl)
  refine tQ <| tG <| sm 2 rfl <| nL ?_
  refine tC rfl (fun hc37 => ?_) fun hc37 => ?_
  ·refine tQ <| tG <| sm 5 rfl <| nL <| tRt <| rOk rfl ?_ nPo
   (simp only [mTwo, *, if_true, Bool.false_eq_true, if_false, Bool.or_true, Bool.true_or, Bool.or_false] <;> rfl)
  refine tQ <| tG <| sm 2 rfl <| nL ?_
  refine tC rfl (fun hc42 => ?_) fun hc42 => ?_
  ·refine tQ <| tG <| sm 5 rfl <| nL <| tRt <| rOk rfl ?_ nPo
   (simp only [mTwo, *, if_true, Bool.false_eq_true, if_false, Bool.or_true, Bool.true_or, Bool.or_false] <;> rfl)
  refine tQ <| tG <| sm 2 rfl <| nL ?_
  refine tC rfl (fun hc47 => ?_) fun hc47 => ?_
  ·refine tQ <| tG <| sm 5 rfl <| nL <| tRt <| rOk rfl ?_ nPo
   (simp only [mTwo, *, if_true, Bool.false_eq_true, if_false, Bool.or_true, Bool.true_or, Bool.or_false] <;> rfl)
  refine tQ <| tG <| sm 2 rfl <| nL ?_
  refine tC rfl (fun hc52 => ?_) fun hc52 => ?_
  ·refine tQ <| tG <| sm 3 rfl <| cV rfl (y7y rfl rfl rfl (y46 b)) <| sm 2 rfl <| nL <| tRt <| rOk rfl ?_ nPo
   (simp only [mTwo, *, if_true, Bool.false_eq_true, if_false, Bool.or_true, Bool.true_or, Bool.or_false] <;> rfl)
  refine tQ <| tG <| sm 2 rfl <| nL ?_
  refine tC rfl (fun hc58 => ?_) fun hc58 => ?_
  ·refine tQ <| tG <| sm 3 rfl <| cV rfl (y0e rfl rfl rfl (y46 b)) <| sm 2 rfl <| nL <| tRt <| rOk rfl ?_ nPo
   (simp only [mTwo, *, if_true, Bool.false_eq_true, if_false, Bool.or_true, Bool.true_or, Bool.or_false] <;> rfl)
  refine tQ <| tG <| sm 2 rfl <| nL ?_
  refine tC rfl (fun hc64 => ?_) fun hc64 => ?_
  ·refine tQ <| tG <| sm 1 rfl <| cV rfl (z47 rfl rfl ⟨_, uT3⟩ Tryz.underlying131) <| sm 2 rfl <| cV rfl (y0e rfl rfl rfl (y46 b)) <| cV rfl (z47 rfl rfl ⟨_, Tryz.underlying131⟩ uT3) <| sm 2 rfl <| nL <| tRt <| rOk rfl ?_ nPo
   (simp only [mTwo, *, if_true, Bool.false_eq_true, if_false, Bool.or_true, Bool.true_or, Bool.or_false] <;> rfl)
  refine tQ <| tG <| sm 2 rfl <| nL ?_
  refine tC rfl (fun hc72 => ?_) fun hc72 => ?_
  ·refine tQ <| tG <| sm 3 rfl <| cE rfl (ocq (z3r _) z6t rfl rfl) <| sm 2 rfl <| nL <| tRt <| rOk rfl ?_ nPo
   (simp only [mTwo, *, if_true, Bool.false_eq_true, if_false, Bool.or_true, Bool.true_or, Bool.or_false] <;> rfl)
  refine tQ <| tG <| sm 2 rfl <| nL ?_
  refine tC rfl (fun hc78 => ?_) fun hc78 => ?_
  ·refine tQ <| tG <| sm 3 rfl <| cE rfl (ocq (z3r _) z6t rfl rfl) <| sm 2 rfl <| nL <| tRt <| rOk rfl ?_ nPo
   (simp only [mTwo, *, if_true, Bool.false_eq_true, if_false, Bool.or_true, Bool.true_or, Bool.or_false] <;> rfl)
  refine tQ <| tG <| sm 2 rfl <| nL ?_
  refine tC rfl (fun hc84 => ?_) fun hc84 => ?_
  ·refine tQ <| tG <| sm 3 rfl <| cE rfl (ocq (z3r _) z6t rfl rfl) <| sm 2 rfl <| nL <| tRt <| rOk rfl ?_ nPo
   (simp only [mTwo, *, if_true, Bool.false_eq_true, if_false, Bool.or_true, Bool.true_or, Bool.or_false] <;> rfl)
  refine tQ <| tG <| sm 2 rfl <| nL ?_
  refine tC rfl (fun hc90 => ?_) fun hc90 => ?_
  ·refine tQ <| tG <| sm 3 rfl <| cE rfl (ocq (z3r _) z6t rfl rfl) <| sm 2 rfl <| nL <| tRt <| rOk rfl ?_ nPo
   (simp only [mTwo, *, if_true, Bool.false_eq_true, if_false, Bool.or_true, Bool.true_or, Bool.or_false] <;> rfl)
  refine tQ <| tG <| sm 2 rfl <| nL ?_
  refine tC rfl (fun hc96 => ?_) fun hc96 => ?_
  ·refine tQ <| tG <| sm 3 rfl <| cE rfl (ocq (z3r _) z6t rfl rfl) <| sm 2 rfl <| nL <| tRt <| rOk rfl ?_ nPo
   (simp only [mTwo, *, if_true, Bool.false_eq_true, if_false, Bool.or_true, Bool.true_or, Bool.or_false] <;> rfl)
  refine tQ <| tG <| sm 2 rfl <| nL ?_
  refine tC rfl (fun hc102 => ?_) fun hc102 => ?_
  ·refine tQ <| tG <| sm 3 rfl <| cE rfl (ocq (z3r _) z6t rfl rfl) <| sm 2 rfl <| nL <| tRt <| rOk rfl ?_ nPo
   (simp only [mTwo, *, if_true, Bool.false_eq_true, if_false, Bool.or_true, Bool.true_or, Bool.or_false] <;> rfl)
  refine tSk <| tQ <| tG <| sm 2 rfl <| nL <| tRt <| rOk rfl ?_ nPo
  (simp only [mTwo, *, if_true, Bool.false_eq_true, if_false, Bool.or_true, Bool.true_or, Bool.or_false] <;> rfl)
theorem z8h (u : Un) (s : Rs) : SC Tryz.prog 31 [.ptr 1001 0] (runH u s) (fun _ => True) (iBool (z4q s)) (runH u s) := by
  refine SC.of Tryz.func31 rfl (lb rfl) fun F ρ w => ?_
  refine tQ <| tG <| sm 1 rfl <| nL <| tQ <| tG <| sm 1 rfl <| cV rfl (nCk rfl rfl rfl) <| sm 3 rfl ?_
  refine wS 7 rfl (fun hb7 => ?_) fun hb7 => ?_
  ·refine sm 8 rfl <| nL <| tRt <| rOk rfl ?_ (fun _ _ h => h)
   cases hsp : s.spent <;> simp_all [z4q, iBool]
  refine sm 1 rfl <| yV rfl rfl (nCk rfl rfl rfl) <| sm 6 rfl <| nL <| tRt <| rOk rfl ?_ (fun _ _ h => h)
  cases hsp : s.spent <;> simp_all [z4q, iBool]
theorem sc_step (u : Un) (s : Rs) : SC Tryz.prog 71 [.ptr 1001 0] (runH u s) (fun _ => False) (iBool (zc9 s).1) (runH u (zc9 s).2) := by
  refine SC.of Tryz.func71 rfl (lb rfl) fun F ρ w => ?_
  refine tQ <| tG <| sm 1 rfl <| nL <| tQ <| tQ <| tG <| sm 1 rfl <| cE rfl (ocr (z8h u s) zy4 rfl (fun _ _ h => h) rfl (fun k (h : _) => .inr trivial) rfl rfl) <| nL ?_
  refine tC rfl (fun hc4 => ?_) fun hc4 => ?_
  ·refine tQ <| tG <| sm 1 rfl <| nL <| tRt ?_
   have e : zc9 s = (false, s) := by simp [zc9, hc4]
   rw [e]
   refine rOk rfl rfl (po2 rfl rfl)
  refine tSk <| tQ <| tQ <| tG <| sm 1 rfl <| cV rfl (nCk rfl rfl rfl) <| sm 4 rfl <| nL ?_
  refine tC rfl (fun hc10 => ?_) fun hc10 => ?_
  ·refine tQ <| tG <| sm 1 rfl <| cV rfl (nCk rfl rfl rfl) <| sm 1 rfl <| c0 (sBx rfl rfl rfl rfl ((fun h => h)) tS4 (rfl) (lb rfl)) <| nL <| tQ <| tG <| sm 1 rfl <| nL <| tRt ?_
   have e : zc9 s = (false, { s with spent := true }) := by
     have h1 : s.fuel < 1 := by simpa using hc10
     simp [zc9, hc4, h1]
   rw [e]
   refine rOk rfl rfl (po2 rfl rfl)
  refine tSk <| tQ <| tG <| sm 2 rfl <| cV rfl (nCk rfl rfl rfl) <| sm 4 rfl <| cV rfl (nCk rfl rfl rfl) <| sm 2 rfl <| c0 (sBx rfl rfl rfl rfl ((fun h => h)) tS3 (rfl) (lb rfl)) <| nL <| tQ <| tG ?_
  refine sm 1 rfl <| nL <| tRt ?_
  have e : zc9 s = (true, { s with fuel := w64 (s.fuel - 1) }) := by
    have h1 : ¬ s.fuel < 1 := by simpa using hc10
    simp [zc9, hc4, h1]
  rw [e]
  refine rOk rfl rfl (po2 rfl rfl)
theorem sc_of (v l o : List Int) (h : mOf v l = some o) (hb : l.length <= 1073741824) : SC Tryz.prog 72 [.sl 510 (v.map eInt).length, .pv (ints l)] [(510, rowI v)] (fun k => k = 510) (.pv (ints o)) [(510, rowI v)] := by
  refine SC.of Tryz.func72 rfl (lb rfl) fun F ρ w => ?_
  refine Tr.lenOf (t := 1) rfl (fun hl => ?_)
  simp only [List.length_map] at hl
  refine tQ <| tG <| sm 1 rfl <| nL <| tQ <| tG <| sm 1 rfl <| nL <| tQ <| tQ <| Tr.grow (t := 5) (k := 105) ⟨3, 1⟩ rfl rfl rfl rfl rfl <| tG ?_
  refine sm 1 rfl <| nL <| tBk <| Tr.sub (Sub.of (fr' := [(6, iInt 0), (5, .sl 105 (([] : List Int).map eInt).length), (0, .sl 510 (v.map eInt).length), (1, .pv (ints l))]) ⟨rfl, rfl, rfl, rfl, trivial⟩) ?_
  refine Tr.heap (σ' := look [(105, some (rowI ([] : List Int))), (510, some (rowI v))]) (by
  intro j
  simp only [look]
  by_cases h1 : 105 = j
  · subst h1; rfl
  · simp [look, up, z0x h1]) ?_
  refine Tr.loop (fun fr σ m => ∃ (k : Nat) (acc : List Int), (k <= l.length) /\ ((mOf v (l.drop k)).map (acc ++ ·) = some o) /\ (acc.length = k) /\ fr = [(6, iInt k), (5, .sl 105 (acc.map eInt).length), (0, .sl 510 (v.map eInt).length), (1, .pv (ints l))] /\ σ = look [(105, some (rowI acc)), (510, some (rowI v))] /\ m = l.length - k) (n := l.length - 0) ?_ ?_
  ·exact ⟨0, ([] : List Int), Nat.zero_le _, (by rw [List.drop_zero, h]; rfl), rfl, rfl, rfl, rfl⟩
  rintro fr σ m ⟨k, acc, hI0, hI1, hI2, rfl, rfl, rfl⟩
  refine tQ <| tQ <| tG <| sm 2 rfl <| cV rfl (oSm uT35 rfl) <| sm 1 rfl <| nL ?_
  refine tC rfl (fun hc10 => ?_) fun hc10 => ?_
  ·have hlt : k < l.length := by simpa using hc10
   have hd := List.drop_eq_getElem_cons hlt
   have hm := List.getElem_mem hlt
   have hi := z08 (f := eInt) (List.getElem?_eq_getElem hlt)
   generalize l[k] = x at hd hm hi
   rw [hd] at hI1
   obtain ⟨y, hy, hO⟩ := mOf_step hI1
   obtain ⟨hx0, hxl, hxg⟩ := y76 hy
   have hal : (acc.map eInt).length = acc.length := by simp
   refine tSk <| tQ <| tBk <| tG <| sm 4 rfl <| cV rfl (iSq rfl rfl rfl uT35 hi tS3 rfl (by rfl)) <| sm 1 rfl <| cV rfl (iRw rfl rfl rfl rfl rfl uT35 tS3 hxl oM0) <| cV rfl (lRw rfl rfl rfl rfl (Nat.add_zero _).symm hxg rfl uT3 rfl trivial) <| cE rfl (bSl rfl rfl uT35 tZ3 tS3 rfl rfl rfl rfl (fbk rfl) rfl) ?_
   refine cE rfl (aPp rfl rfl rfl rfl (by rfl) sI0 uT35 tB3 dC0 (by (simp [z01]; done)) (by (simp [z01, PV.one]; rfl)) (by simp [maxLen, z01]; omega) (by simp [z01]; omega)) ?_
   refine sm 1 rfl <| nL <| tG <| sm 1 rfl <| cV rfl (oB rfl rfl (z03 rfl oM0)) <| sm 1 rfl <| nL ?_
   refine ⟨_, _, ?_, Sub.of (fr' := [(6, iInt (k + 1)), (5, .sl 105 ((acc ++ [y]).map eInt).length), (0, .sl 510 (v.map eInt).length), (1, .pv (ints l))]) ⟨rfl, congrArg (fun z => some (IV.sl _ z)) (by simp [z01, eInt]), rfl, rfl, trivial⟩, (k + 1), (acc ++ [y]), ?_, ?_, ?_, rfl, (funext (by
  intro j
  simp only [look]
  by_cases h1 : 105 = j
  · subst h1; exact congrArg (fun z => some (HO.row _ z)) (by simp [z01, eInt])
  · simp [look, z0x h1])), rfl⟩
   ·omega
   ·omega
   ·exact hO
   simp [hI2]
  refine tEx <| tQ <| Tr.freeze (t := 5) (k := 105) rfl rfl sI0 <| tG <| sm 2 rfl <| nL <| tRt <| rOk rfl ?_ (po1 rfl)
  have hge : l.length <= k := by simpa using hc10
  rw [List.drop_eq_nil_of_le hge] at hI1
  have : acc = o := by simpa [mOf] using hI1
  rw [this]
  rfl
theorem y3w (v l n v' : List Int) (h : mSet v l n = some v') : SC Tryz.prog 73 [.sl 510 (v.map eInt).length, .pv (ints l), .pv (ints n)] [(510, rowI v)] (fun _ => False) (.tup []) [(510, rowI v')] := by
  refine SC.of Tryz.func73 rfl (lb rfl) fun F ρ w => ?_
  refine Tr.lenOf (t := 1) rfl (fun hl => ?_)
  simp only [List.length_map] at hl
  refine Tr.lenOf (t := 2) rfl (fun hl2 => ?_)
  simp only [List.length_map] at hl2
  refine tQ <| tG <| sm 1 rfl <| nL <| tBk <| Tr.sub (Sub.of (fr' := [(6, iInt 0), (0, .sl 510 (v.map eInt).length), (1, .pv (ints l)), (2, .pv (ints n))]) ⟨rfl, rfl, rfl, rfl, trivial⟩) ?_
  refine Tr.loop (fun fr σ m => ∃ (k : Nat) (w1 : List Int) (m1 : List Int), (k <= l.length) /\ (mSet w1 (l.drop k) m1 = some v') /\ (w1.length = v.length) /\ (m1 = n.drop k) /\ fr = [(6, iInt k), (0, .sl 510 (v.map eInt).length), (1, .pv (ints l)), (2, .pv (ints n))] /\ σ = look [(510, some (rowI w1))] /\ m = l.length - k) (n := l.length - 0) ?_ ?_
  ·exact ⟨0, v, n, Nat.zero_le _, h, rfl, rfl, rfl, rfl, rfl⟩
  rintro fr σ m ⟨k, w1, m1, hI0, hI1, hI2, hI3, rfl, rfl, rfl⟩
  refine tQ <| tQ <| tG <| sm 2 rfl <| cV rfl (oSm uT35 rfl) <| sm 1 rfl <| nL ?_
  refine tC rfl (fun hc10 => ?_) fun hc10 => ?_
  ·have hlt : k < l.length := by simpa using hc10
   have hd := List.drop_eq_getElem_cons hlt
   have hm := List.getElem_mem hlt
   have hi := z08 (f := eInt) (List.getElem?_eq_getElem hlt)
   generalize l[k] = x at hd hm hi
   rw [hd] at hI1
   obtain ⟨y, m2, w2, hm1, hs, hO⟩ := y08 hI1
   obtain ⟨hx0, hxl, hw2⟩ := z8l hs
   obtain ⟨z0, hxg⟩ := y0j hxl
   have hwn : (w1.map eInt).length = (v.map eInt).length := by simp [hI2]
   have hxl2 : x.toNat < (v.map eInt).length := by rw [<- hwn]; exact hxl
   have hnk : n[k]? = some y := by
     have h0 := List.getElem?_drop (xs := n) (i := k) (j := 0)
     rw [<- hI3, hm1] at h0
     simpa using h0.symm
   have hi2 := z08 (f := eInt) hnk
   refine tSk <| tQ <| tBk <| tDr z1q (fun k => k ∈ ([] : List Nat)) <| wR 1 [0, 1, 2, 3, 4, 5, 6, 7, 8, 9] kR0 h30 <| smR 3 rfl <| rV rfl rfl (iSq rfl rfl rfl uT35 hi tS3 rfl (by rfl)) <| smR 3 rfl <| rV rfl rfl (iSq rfl rfl rfl uT35 hi2 tS3 rfl (by rfl)) <| smR 1 rfl <| rV rfl rfl (iRw rfl rfl rfl rfl hwn uT35 tS3 hxl2 oM0) <| nR ?_
   refine wO 10 kR0 <| wI rfl rfl nf (nOl rfl) (fun _ _ => z1t rfl rfl rfl rfl hwn (Nat.add_zero _).symm hxg sI0 tS3 rfl sI0) <| wDn kR0 <| tG <| sm 1 rfl <| cV rfl (oB rfl rfl (z03 rfl oM0)) <| sm 1 rfl <| nL ?_
   refine ⟨_, _, ?_, Sub.of (fr' := [(6, iInt (k + 1)), (0, .sl 510 (v.map eInt).length), (1, .pv (ints l)), (2, .pv (ints n))]) ⟨rfl, rfl, rfl, rfl, trivial⟩, (k + 1), w2, m2, ?_, ?_, ?_, ?_, rfl, (funext (by
  intro j
  simp only [look]
  by_cases h1 : 510 = j
  · subst h1; exact congrArg (fun z => some (HO.row _ z)) (by rw [hw2]; exact z4n _ _ _ _ hxg)
  · simp [look, z0x h1])), rfl⟩
   ·omega
   ·omega
   ·exact hO
   ·rw [hw2, List.length_set]; exact hI2
   rw [<- List.drop_drop, <- hI3, hm1]; rfl
  refine tEx ?_
  have hge : l.length <= k := by simpa using hc10
  rw [List.drop_eq_nil_of_le hge] at hI1
  have hw : w1 = v' := by simpa [mSet] using hI1
  subst hw
  refine end_ok rfl rfl (po1 rfl)
section
def z51 (s : Rs) : Rs := { s with cost := w64 (s.cost + 1) }
theorem zw0 {v v' : List Int} {x y : Int} (h : setV v x y = some v') : v'.length = v.length := by
  rw [(z8l h).2.2, List.length_set]
theorem za8 : ∀ {l n v v' : List Int}, mSet v l n = some v' -> v'.length = v.length
  | [], _, _, _, h => by cases h; rfl
  | _ :: _, _, _, _, h => by
    obtain ⟨y, n', v1, rfl, h1, h2⟩ := y08 h
    rw [za8 h2, zw0 h1]
theorem y06 {rec : List Nd -> List Int -> Rs -> Option Rres} {recLoop : Nd -> List Int -> List Int -> Rs -> Option Rres} {recSum : Nd -> List Int -> Rs -> Option (Int × Rs)} {x : Nd} {a v : List Int} {s : Rs} {r : Rres}
    (hr : ∀ q v s r, rec q v s = some r -> r.2.1.length = v.length) (hl : ∀ x v a s r, recLoop x v a s = some r -> r.2.1.length = v.length) (h : za6 rec recLoop recSum x a v s = some r) : r.2.1.length = v.length := by
  unfold za6 at h
  split at h
  ·simp only [Option.bind_eq_some_iff, Option.map_eq_some_iff] at h
   obtain ⟨o, _, v', h1, rfl⟩ := h
   exact zw0 h1
  split at h
  ·cases h; rfl
  split at h
  ·simp only [Option.bind_eq_some_iff] at h
   obtain ⟨a0, _, q, _, r1, h1, h2⟩ := h
   have h3 := hr _ _ _ _ h1
   split at h2
   ·simp only [Option.map_eq_some_iff] at h2
    obtain ⟨v', h4, rfl⟩ := h2
    exact (za8 h4).trans h3
   cases h2; exact h3
  split at h
  ·exact hl _ _ _ _ _ h
  simp only [Option.bind_eq_some_iff] at h
  obtain ⟨r1, h1, h2⟩ := h
  split at h2
  ·simp only [Option.bind_eq_some_iff, Option.map_eq_some_iff] at h2
   obtain ⟨o, _, v', h4, rfl⟩ := h2
   exact zw0 h4
  cases h2; rfl
theorem zu5 (u : Un) : ∀ d, (∀ l v s r, z6d u d l v s = some r -> r.2.1.length = v.length) /\ ∀ x v a s r, zg0 u d x v a s = some r -> r.2.1.length = v.length
  | 0 => ⟨fun _ _ _ _ h => by simp [z6d] at h, fun _ _ _ _ _ h => by simp [zg0] at h⟩
  | d + 1 => by
    obtain ⟨i1, i2⟩ := zu5 u d
    refine ⟨fun l v s r h => ?_, fun x v a s r h => ?_⟩
    ·cases l with
     | nil => simp only [z6d] at h; cases h; rfl
     | cons x l =>
       rw [z6d] at h
       split at h
       ·cases h; rfl
       simp only [Option.bind_eq_some_iff] at h
       obtain ⟨a, _, r1, h1, h2⟩ := h
       have h3 := y06 i1 i2 h1
       split at h2
       ·cases h2; exact h3
       exact (i1 _ _ _ _ h2).trans h3
    rw [zg0] at h
    simp only [Option.bind_eq_some_iff] at h
    obtain ⟨v1, hv1, q, _, r1, h1, h2⟩ := h
    have h3 := (i1 _ _ _ _ h1).trans (za8 hv1)
    split at h2
    ·cases h2; exact h3
    split at h2
    ·simp only [Option.map_eq_some_iff] at h2
     obtain ⟨v', h4, rfl⟩ := h2
     exact (za8 h4).trans h3
    exact (i2 _ _ _ _ _ h2).trans h3
theorem y05 {u : Un} {d : Nat} {l : List Nd} {v : List Int} {s : Rs} {r : Rres} (h : z6d u d l v s = some r) : r.2.1.length = v.length := (zu5 u d).1 _ _ _ _ h
theorem y4m {u : Un} {d : Nat} {x : Nd} {v a : List Int} {s : Rs} {r : Rres} (h : zg0 u d x v a s = some r) : ∃ d1 v2 q r1, d = d1 + 1 /\ mSet v x.params a = some v2 /\ x.kids[0]? = some q /\ z6d u d1 q v2 s = some r1 /\
    (if z4q r1.2.2 || r1.1.1 == 15 then some r1 else if r1.1.1 == 14 then (mSet r1.2.1 x.outs r1.1.2).map fun v => ((0, []), v, r1.2.2) else zg0 u d1 x r1.2.1 r1.1.2 r1.2.2) = some r := by
  cases d with
  | zero => simp [zg0] at h
  | succ d =>
    rw [zg0] at h
    simp only [Option.bind_eq_some_iff] at h
    obtain ⟨v2, h1, q, h2, r1, h3, h4⟩ := h
    exact ⟨d, v2, q, r1, rfl, h1, h2, h3, h4⟩
theorem y4l {u : Un} {d : Nat} {x : Nd} {l : List Nd} {v : List Int} {s s2 : Rs} {r : Rres} (hs2 : (zc9 s).2 = s2) (h : z6d u d (x :: l) v s = some r) : ∃ d1, d = d1 + 1 /\ (((zc9 s).1 = false /\ r = ((0, []), v, s2)) ∨
    ((zc9 s).1 = true /\ ∃ a r1, mOf v x.args = some a /\ za6 (z6d u d1) (zg0 u d1) (mSum u d1) x a v s2 = some r1 /\ (if z4q r1.2.2 || r1.1.1 != 0 then some r1 else z6d u d1 l r1.2.1 r1.2.2) = some r)) := by
  cases d with
  | zero => simp [z6d] at h
  | succ d =>
    refine ⟨d, rfl, ?_⟩
    subst hs2
    rw [z6d] at h
    split at h
    ·rename_i s' e; cases h; exact .inl ⟨by rw [e], by rw [e]⟩
    rename_i s' e
    simp only [Option.bind_eq_some_iff] at h
    obtain ⟨a, h1, r1, h2, h3⟩ := h
    exact .inr ⟨by rw [e], a, r1, h1, by rw [e]; exact h2, h3⟩
section
variable {rec : List Nd -> List Int -> Rs -> Option Rres} {recLoop : Nd -> List Int -> List Int -> Rs -> Option Rres} {recSum : Nd -> List Int -> Rs -> Option (Int × Rs)} {x : Nd} {a v : List Int} {s : Rs} {r : Rres}
theorem y07 (h : za6 rec recLoop recSum x a v s = some r) (hk : (x.kind == 1 || x.kind == 2) = true) : ∃ o v2, x.outs[0]? = some o /\ setV v o x.n = some v2 /\ r = ((0, []), v2, s) := by
  unfold za6 at h
  rw [if_pos hk] at h
  simp only [Option.bind_eq_some_iff, Option.map_eq_some_iff] at h
  obtain ⟨o, h1, v2, h2, rfl⟩ := h
  exact ⟨o, v2, h1, h2, rfl⟩
theorem za7 (h : za6 rec recLoop recSum x a v s = some r) (hk : (x.kind == 12 || x.kind == 13 || x.kind == 14 || x.kind == 15) = true) : r = ((x.kind, a), v, s) := by
  unfold za6 at h
  rw [if_neg (by simp only [Bool.or_eq_true, beq_iff_eq] at hk ⊢; omega), if_pos hk] at h
  cases h; rfl
theorem mNode_if (h : za6 rec recLoop recSum x a v s = some r) (hk : (x.kind == 10) = true) : ∃ a0 q r1, a[0]? = some a0 /\ x.kids[if a0 != 0 then 0 else 1]? = some q /\ rec q v s = some r1 /\
    (if !z4q r1.2.2 && r1.1.1 == 12 then (mSet r1.2.1 x.outs r1.1.2).map fun v' => ((0, []), v', r1.2.2) else some r1) = some r := by
  unfold za6 at h
  rw [if_neg (by simp only [Bool.or_eq_true, beq_iff_eq] at hk ⊢; omega), if_neg (by simp only [Bool.or_eq_true, beq_iff_eq] at hk ⊢; omega), if_pos hk] at h
  simp only [Option.bind_eq_some_iff] at h
  obtain ⟨a0, h1, q, h2, r1, h3, h4⟩ := h
  exact ⟨a0, q, r1, h1, h2, h3, h4⟩
theorem y4n (h : za6 rec recLoop recSum x a v s = some r) (hk : (x.kind == 11) = true) : recLoop x v a s = some r := by
  unfold za6 at h
  rw [if_neg (by simp only [Bool.or_eq_true, beq_iff_eq] at hk ⊢; omega), if_neg (by simp only [Bool.or_eq_true, beq_iff_eq] at hk ⊢; omega), if_neg (by simp only [beq_iff_eq] at hk ⊢; omega), if_pos hk] at h
  exact h
theorem y7m (h : za6 rec recLoop recSum x a v s = some r) (h1 : (x.kind == 1 || x.kind == 2) = false) (h2 : (x.kind == 12 || x.kind == 13 || x.kind == 14 || x.kind == 15) = false) (h3 : (x.kind == 10) = false) (h4 : (x.kind == 11) = false) : ∃ r1, recSum x a s = some r1 /\
    (if !z4q r1.2 && decide (0 < x.outs.length) then (x.outs[0]?).bind fun o => (setV v o r1.1).map fun v' => ((0, []), v', r1.2) else some ((0, []), v, r1.2)) = some r := by
  unfold za6 at h
  rw [h1, h2, h3, h4] at h
  simp only [Bool.false_eq_true, if_false, Option.bind_eq_some_iff] at h
  exact h
end
theorem y4k {u : Un} {d : Nat} {k : Int} {a : List Int} {s : Rs} {r : Int × Rs} (h : zk2 u d k a s = some r) : ∃ d1 f r1, d = d1 + 1 /\ 0 <= k /\ u.flows[k.toNat]? = some f /\ a.length <= f.types.length /\ f.types.length <= 1073741824 /\
    z6d u d1 f.body (a ++ List.replicate (f.types.length - a.length) 0) s = some r1 /\ r = (if z4q r1.2.2 then 0 else r1.1.2.headD 0, r1.2.2) := by
  cases d with
  | zero => simp [zk2] at h
  | succ d =>
    rw [zk2] at h
    split at h
    ·rename_i hk
     simp only [Option.bind_eq_some_iff] at h
     obtain ⟨f, hf, h⟩ := h
     split at h
     ·rename_i hl
      simp only [Option.bind_eq_some_iff] at h
      obtain ⟨r1, h1, h2⟩ := h
      refine ⟨d, f, r1, rfl, hk, hf, hl.1, hl.2, h1, ?_⟩
      split at h2 <;> cases h2 <;> simp_all
     cases h
    cases h
variable {u : Un} {d : Nat} {x : Nd} {a : List Int} {s : Rs} {r : Int × Rs}
theorem mSum_pos (h : mSum u d x a s = some r) : ∃ d', d = d' + 1 := by
  cases d with
  | zero => simp [mSum] at h
  | succ d => exact ⟨d, rfl⟩
theorem mSum_one (h : mSum u (d + 1) x a s = some r) (hk : (x.kind == 3) = true) : ∃ a0, a[0]? = some a0 /\ r = (mOne x.op a0, z51 s) := by
  simp only [mSum, hk, if_true, Option.map_eq_some_iff] at h
  obtain ⟨a0, h1, rfl⟩ := h
  exact ⟨a0, h1, rfl⟩
theorem mSum_two (h : mSum u (d + 1) x a s = some r) (hk : (x.kind == 4) = true) : ∃ a0 a1, a[0]? = some a0 /\ a[1]? = some a1 /\ r = ((mTwo x.op a0 a1).1, if (mTwo x.op a0 a1).2 then z51 s else { z51 s with st := 2 }) := by
  have h3 : (x.kind == 3) = false := by have := eq_of_beq hk; rw [this]; rfl
  simp only [mSum, h3, hk, if_true, Bool.false_eq_true, if_false, Option.map_eq_some_iff, Option.bind_eq_some_iff] at h
  obtain ⟨a0, h1, a1, h2, rfl⟩ := h
  exact ⟨a0, a1, h1, h2, rfl⟩
theorem y03 {k n : Int} {q : Bool × Rs} (hk : k < 0) (h : mCell s k n = some q) : n < 0 /\ q = (false, { s with st := 3 }) := by
  unfold mCell at h
  split at h
  ·rename_i h1; cases h; exact ⟨h1, rfl⟩
  rw [if_neg oM0] at h; cases h
theorem y7p (hu : u.arrays = []) (h : mSum u (d + 1) x a s = some r) (hk : (x.kind == 5) = true) : ∃ a0, a[0]? = some a0 /\ a0 < 0 /\ r = (0, { z51 s with st := 3 }) := by
  have h3 : (x.kind == 3) = false := by have := eq_of_beq hk; rw [this]; rfl
  have h4 : (x.kind == 4) = false := by have := eq_of_beq hk; rw [this]; rfl
  simp only [mSum, h3, h4, hk, if_true, Bool.false_eq_true, if_false, Option.bind_eq_some_iff] at h
  obtain ⟨a0, h1, q, h2, h5⟩ := h
  rw [hu] at h2
  obtain ⟨h6, rfl⟩ := y03 (by show (-1 : Int) < 0; decide) h2
  simp only [Bool.false_eq_true, if_false] at h5
  cases h5
  exact ⟨a0, h1, h6, rfl⟩
theorem y4p (hu : u.arrays = []) (h : mSum u (d + 1) x a s = some r) (hk : (x.kind == 6) = true) : ∃ a0, a[0]? = some a0 /\ a0 < 0 /\ r = (0, { z51 s with st := 3 }) := by
  have h3 : (x.kind == 3) = false := by have := eq_of_beq hk; rw [this]; rfl
  have h4 : (x.kind == 4) = false := by have := eq_of_beq hk; rw [this]; rfl
  have h5 : (x.kind == 5) = false := by have := eq_of_beq hk; rw [this]; rfl
  simp only [mSum, h3, h4, h5, hk, if_true, Bool.false_eq_true, if_false, Option.bind_eq_some_iff] at h
  obtain ⟨a0, h1, q, h2, h5⟩ := h
  rw [hu] at h2
  obtain ⟨h6, rfl⟩ := y03 (by show (-1 : Int) < 0; decide) h2
  simp only [Bool.false_eq_true, if_false] at h5
  cases h5
  exact ⟨a0, h1, h6, rfl⟩
theorem y7n (h : mSum u (d + 1) x a s = some r) (hk : (x.kind == 7) = true) : zk2 u d (z0c x.name u.flows 0) a (z51 s) = some r := by
  have e := eq_of_beq hk
  simp only [mSum, e] at h
  exact h
theorem y4o (h : mSum u (d + 1) x a s = some r) (hk : (x.kind == 9) = true) : ∃ a0, a[0]? = some a0 /\ s.out.length < 1073741824 /\ r = (0, { z51 s with out := s.out ++ [a0] }) := by
  have e := eq_of_beq hk
  simp only [mSum, e] at h
  simp only [show ((9 : Int) == 3) = false from rfl, show ((9 : Int) == 4) = false from rfl, show ((9 : Int) == 5) = false from rfl, show ((9 : Int) == 6) = false from rfl, show ((9 : Int) == 7) = false from rfl, show ((9 : Int) == 9) = true from rfl, if_true, Bool.false_eq_true, if_false, Option.bind_eq_some_iff] at h
  obtain ⟨a0, h1, h2⟩ := h
  split at h2
  ·rename_i h3; cases h2; exact ⟨a0, h1, h3, rfl⟩
  cases h2
theorem y7q (h : mSum u (d + 1) x a s = some r) (hk : (x.kind == 8) = true) : (s.ins = [] /\ r = (0, { z51 s with st := 4 })) ∨ ∃ y q, s.ins = y :: q /\ r = (y, { z51 s with ins := q }) := by
  have e := eq_of_beq hk
  simp only [mSum, e] at h
  simp only [show ((8 : Int) == 3) = false from rfl, show ((8 : Int) == 4) = false from rfl, show ((8 : Int) == 5) = false from rfl, show ((8 : Int) == 6) = false from rfl, show ((8 : Int) == 7) = false from rfl, show ((8 : Int) == 9) = false from rfl, show ((8 : Int) == 8) = true from rfl, if_true, Bool.false_eq_true, if_false] at h
  split at h
  ·rename_i h1; cases h; exact .inl ⟨h1, rfl⟩
  rename_i y q h1; cases h; exact .inr ⟨y, q, h1, rfl⟩
theorem y7o (h : mSum u (d + 1) x a s = some r) (h3 : (x.kind == 3) = false) (h4 : (x.kind == 4) = false) (h5 : (x.kind == 5) = false) (h6 : (x.kind == 6) = false) (h7 : (x.kind == 7) = false) (h9 : (x.kind == 9) = false) (h8 : (x.kind == 8) = false) : r = (0, z51 s) := by
  simp only [mSum, h3, h4, h5, h6, h7, h8, h9, Bool.false_eq_true, if_false] at h
  cases h; rfl
end
theorem y3s (u : Un) (s : Rs) (k n : Int) (hn : n < 0) : SC Tryz.prog 99 [.ptr 1001 0, iInt k, iInt n] (runH u s) (fun _ => False) (iBool false) (runH u { s with st := 3 }) := by
  refine SC.of Tryz.func99 rfl (lb rfl) fun F ρ w => ?_
  refine tQ <| tG <| sm 1 rfl <| nL <| tQ <| tQ <| tG <| sm 3 rfl ?_
  refine wS 9 rfl (fun hb9 => ?_) fun hb9 => ?_
  ·refine sm 11 rfl <| nL <| Tr.condT rfl <| tQ <| tG <| sm 1 rfl <| cV rfl (nCk rfl rfl rfl) <| sm 2 rfl <| c0 (sBx rfl rfl rfl rfl ((fun h => h)) tS3 (rfl) (lb rfl)) <| nL <| tQ <| tG ?_
   refine sm 1 rfl <| nL <| tRt <| rOk rfl rfl (po2 rfl rfl)
  exact absurd hn (by simpa using hb9)
def SCC (u : Un) (D : Nat) : Prop := ∀ d, d < D -> ∀ k a s r, zk2 u d k a s = some r -> SC Tryz.prog 29 [.ptr 1001 0, iInt k, .pv (ints a)] (runH u s) (fun _ => False) (iInt r.1) (runH u r.2)
def SCL (u : Un) (D : Nat) : Prop := ∀ d, d < D -> ∀ l v s r, z6d u d l v s = some r -> lsW l <= 1073741824 -> SC Tryz.prog 49 [.ptr 1001 0, .pv (z0b l), .sl 510 (v.map eInt).length] (runV u s v) (fun _ => False) (.pv (endv r.1)) (runV u r.2.2 r.2.1)
theorem sc_sum (u : Un) (hu : u.arrays = []) (D : Nat) (ihC : SCC u D) (d : Nat) (hd : d <= D) (x : Nd) (a : List Int) (s : Rs) (r : Int × Rs) (h : mSum u d x a s = some r) : SC Tryz.prog 75 [.ptr 1001 0, .pv (ndv x), .pv (ints a)] (runH u s) (fun _ => False) (iInt r.1) (runH u r.2) := by
  refine SC.of Tryz.func75 rfl (lb rfl) fun F ρ w => ?_
  obtain ⟨d, rfl⟩ := mSum_pos h
  refine Tr.lenOf (t := 2) rfl (fun hl => ?_)
  simp only [List.length_map] at hl
  refine tQ <| tG <| cE rfl (z1p rfl rfl) <| sm 1 rfl <| nL <| tQ <| tG <| sm 2 rfl <| cV rfl (nCk rfl rfl rfl) <| sm 4 rfl <| cV rfl (nCk rfl rfl rfl) <| sm 2 rfl ?_
  refine c0 (sBx rfl rfl rfl rfl ((fun h => h)) tS3 (rfl) (lb rfl)) <| nL <| tQ <| Tr.heap (σ' := look (up (runH u (z51 s)))) (lkq [1001, 1002] rfl rfl ⟨rfl, rfl, trivial⟩) <| tDr z1q (fun k => k ∈ ([1001] : List Nat)) <| wR 2 [0, 1, 2, 3, 4, 5] kR0 h30 <| smR 1 rfl <| rV rfl rfl (nCk rfl rfl rfl) <| smR 1 rfl <| rV rfl rfl (lBP rfl rfl rfl uT25 rfl tS25 (lb rfl) rfl dC0) <| smR 2 rfl <| nR ?_
  refine wO 6 kR0 <| wI rfl rfl nf nw (fun _ _ => ocq (z8x _ _) ent51 rfl rfl) <| wR 0 [7] kR0 h30 <| smR 1 rfl <| nR <| wDn kR0 <| tQ <| tQ <| tG <| sm 2 rfl <| nL <| tBk ?_
  refine tQ <| tG <| sm 2 rfl <| nL ?_
  refine tC rfl (fun hc30 => ?_) fun hc30 => ?_
  ·obtain ⟨a0, h0, rfl⟩ := mSum_one h hc30
   have hi0 := z08 (f := eInt) h0
   refine tQ <| tDr z1q (fun k => k ∈ ([] : List Nat)) <| wR 2 [0, 1, 2, 3, 4] kR0 h30 <| smR 3 rfl <| rV rfl rfl (iSq rfl rfl rfl uT35 hi0 tS3 rfl (by rfl)) <| smR 1 rfl <| nR <| wO 5 kR0 <| wI rfl rfl nf nw (fun _ _ => ocq (sc_mOne _ _) ent97 rfl rfl) <| wR 0 [6] kR0 h30 <| smR 1 rfl <| nR ?_
   refine wDn kR0 <| tRt <| rOk rfl ?_ (po2 rfl rfl)
   rfl
  refine tQ <| tG <| sm 2 rfl <| nL ?_
  refine tC rfl (fun hc38 => ?_) fun hc38 => ?_
  ·obtain ⟨a0, a1, h0, h1, rfl⟩ := mSum_two h hc38
   have hi0 := z08 (f := eInt) h0
   have hi1 := z08 (f := eInt) h1
   refine tQ <| tDr z1q (fun k => k ∈ ([] : List Nat)) <| wR 6 [0, 1, 2, 3, 4, 5, 6, 7] kR0 h30 <| smR 3 rfl <| rV rfl rfl (iSq rfl rfl rfl uT35 hi0 tS3 rfl (by rfl)) <| smR 2 rfl <| rV rfl rfl (iSq rfl rfl rfl uT35 hi1 tS3 rfl (by rfl)) <| smR 1 rfl <| nR <| wO 8 kR0 <| wI rfl rfl nf nw (fun _ _ => ocq (sc_mTwo _ _ _) ent98 rfl rfl) <| wR 0 [9, 10, 11, 12, 13] kR0 h30 ?_
   refine smR 1 rfl <| rV rfl rfl (z1v rfl rfl rfl) <| rV rfl rfl (z1v rfl rfl rfl) <| smR 2 rfl <| nR <| wDn kR0 <| tQ <| tQ <| tG <| sm 2 rfl <| nL ?_
   refine tC rfl (fun hc53 => ?_) fun hc53 => ?_
   ·have hok : (mTwo x.op a0 a1).2 = false := by simpa using hc53
    refine tG <| sm 1 rfl <| cV rfl (nCk rfl rfl rfl) <| sm 2 rfl <| c0 (sBx rfl rfl rfl rfl ((fun h => h)) tS3 (rfl) (lb rfl)) <| nL <| tQ <| tG <| sm 2 rfl <| nL <| tRt ?_
    rw [hok]
    refine rOk rfl rfl (po2 rfl rfl)
   have hok : (mTwo x.op a0 a1).2 = true := by simpa using hc53
   refine tSk <| tQ <| tG <| sm 2 rfl <| nL <| tRt ?_
   rw [hok]
   refine rOk rfl rfl (po2 rfl rfl)
  refine tQ <| tG <| sm 2 rfl <| nL ?_
  refine tC rfl (fun hc59 => ?_) fun hc59 => ?_
  ·obtain ⟨a0, h0, ha0, rfl⟩ := y7p hu h hc59
   have hi0 := z08 (f := eInt) h0
   refine tQ <| tG <| sm 3 rfl <| cV rfl (iSq rfl rfl rfl uT35 hi0 tS3 rfl (by rfl)) <| sm 1 rfl <| cE rfl (ocr (y3s u (z51 s) _ a0 ha0) ent99 rfl (fun _ _ h => h) rfl (fun k (h : _) => .inr h) rfl rfl) <| nL ?_
   refine tC rfl (fun hc66 => ?_) fun hc66 => ?_
   ·cases hc66
   refine tSk <| tQ <| tG <| sm 1 rfl <| nL <| tRt <| rOk rfl rfl (po2 rfl rfl)
  refine tQ <| tG <| sm 2 rfl <| nL ?_
  refine tC rfl (fun hc79 => ?_) fun hc79 => ?_
  ·obtain ⟨a0, h0, ha0, rfl⟩ := y4p hu h hc79
   have hi0 := z08 (f := eInt) h0
   refine tQ <| tG <| sm 3 rfl <| cV rfl (iSq rfl rfl rfl uT35 hi0 tS3 rfl (by rfl)) <| sm 1 rfl <| cE rfl (ocr (y3s u (z51 s) _ a0 ha0) ent99 rfl (fun _ _ h => h) rfl (fun k (h : _) => .inr h) rfl rfl) <| nL ?_
   refine tC rfl (fun hc86 => ?_) fun hc86 => ?_
   ·cases hc86
   refine tSk <| tQ <| tG <| sm 1 rfl <| nL <| tRt <| rOk rfl rfl (po2 rfl rfl)
  refine tQ <| tG <| sm 2 rfl <| nL ?_
  refine tC rfl (fun hc101 => ?_) fun hc101 => ?_
  ·have hcall := y7n h hc101
   refine tQ <| tDr z1q (fun k => k ∈ ([] : List Nat)) <| wR 4 [0, 1, 2, 3, 5, 6, 8] kR0 h30 <| smR 2 rfl <| rV rfl rfl (nCk rfl rfl rfl) <| smR 4 rfl <| nR <| wO 4 kR0 <| wI rfl rfl nf nw (fun _ _ => OkV.ok (R1 := fun _ => True) ((lBP rfl rfl rfl uT25 rfl tS25 (lb rfl) rfl trivial))) <| wO 7 kR0 <| wI rfl rfl nf nw (fun _ _ => ocq (z5r _ _) y4b rfl rfl) <| wO 9 kR0 ?_
   refine wI rfl rfl nf (nAp rfl) (fun _ _ => ocr (ihC d oM0 _ a (z51 s) r hcall) ent29 rfl (fun _ _ h => h) rfl nl rfl rfl) <| wR 0 [10] kR0 h30 <| smR 1 rfl <| nR <| wDn kR0 <| tRt <| rOk rfl ?_ (po2 rfl rfl)
   rfl
  refine tQ <| tG <| sm 2 rfl <| nL ?_
  refine tC rfl (fun hc113 => ?_) fun hc113 => ?_
  ·obtain ⟨a0, h0, hol, rfl⟩ := y4o h hc113
   have hi0 := z08 (f := eInt) h0
   have hol2 : (z51 s).out.length < 1073741824 := hol
   refine tDr z1q (fun k => k ∈ ([] : List Nat)) <| wR 7 [0, 1, 2, 3, 4, 6, 7, 8] kR0 h30 <| smR 2 rfl <| rV rfl rfl (nCk rfl rfl rfl) <| smR 3 rfl <| rV rfl rfl (iSq rfl rfl rfl uT35 hi0 tS3 rfl (by rfl)) <| smR 1 rfl <| nR <| WA.all (rs := [5, 9]) kR0 sI0 ?_
   refine fmc ⟨?_, fmc ⟨?_, by simp⟩⟩
   ·refine wI rfl rfl nf nw (fun _ _ => OkV.ok (R1 := fun _ => True) ((z0w rfl rfl rfl uT35 rfl rfl trivial))) <| wO 9 kR0 <| wI rfl rfl nf nw (fun _ _ => bSl rfl rfl uT35 tZ3 tS3 rfl rfl rfl rfl (fbk rfl) rfl) <| wO 10 kR0 ?_
    refine wI rfl rfl nf (nOl rfl) (fun _ _ => aPp rfl rfl rfl rfl (by rfl) sI0 uT35 tB3 dC0 (by (simp [z01]; done)) (by (simp [z01, PV.one]; rfl)) (by simp [maxLen, z01]; omega) (by simp [z01]; omega)) ?_
    refine wR 1 [11, 12, 13] kR0 h30 <| rV rfl rfl (nCk rfl rfl rfl) <| smR 2 rfl <| nR <| wO 14 kR0 <| wI rfl rfl nf (nOl rfl) (fun _ _ => sBx rfl rfl rfl rfl sI0 tS35 (⟨_, _, rfl, by simp⟩) (lb rfl)) <| wDn kR0 <| tQ <| tG <| sm 1 rfl <| nL <| tRt <| rOk rfl rfl (z27 (And.intro (congrArg (fun z => some (HO.box z)) (by simp [z01, eInt, z51])) (And.intro (congrArg (fun z => some (HO.row _ z)) (by simp [z01, eInt, z51])) trivial)))
   refine wI rfl rfl nf nw (fun _ _ => bSl rfl rfl uT35 tZ3 tS3 rfl rfl rfl rfl (fbk rfl) rfl) <| wO 5 kR0 <| wI rfl rfl nf nw (fun _ _ => OkV.ok (R1 := fun _ => True) ((z0w rfl rfl rfl uT35 rfl rfl trivial))) <| wO 10 kR0 ?_
   refine wI rfl rfl nf (nOl rfl) (fun _ _ => aPp rfl rfl rfl rfl (by rfl) sI0 uT35 tB3 dC0 (by (simp [z01]; done)) (by (simp [z01, PV.one]; rfl)) (by simp [maxLen, z01]; omega) (by simp [z01]; omega)) ?_
   refine wR 1 [11, 12, 13] kR0 h30 <| rV rfl rfl (nCk rfl rfl rfl) <| smR 2 rfl <| nR <| wO 14 kR0 <| wI rfl rfl nf (nOl rfl) (fun _ _ => sBx rfl rfl rfl rfl sI0 tS35 (⟨_, _, rfl, by simp⟩) (lb rfl)) <| wDn kR0 <| tQ <| tG <| sm 1 rfl <| nL <| tRt <| rOk rfl rfl (z27 (And.intro (congrArg (fun z => some (HO.box z)) (by simp [z01, eInt, z51])) (And.intro (congrArg (fun z => some (HO.row _ z)) (by simp [z01, eInt, z51])) trivial)))
  refine tQ <| tG <| sm 2 rfl <| nL ?_
  refine tC rfl (fun hc129 => ?_) fun hc129 => ?_
  ·have hrd := y7q h hc129
   refine tQ <| tQ <| tG <| sm 1 rfl <| cV rfl (nCk rfl rfl rfl) <| sm 2 rfl <| cV rfl (oSm uT35 rfl) <| sm 1 rfl <| nL ?_
   refine tC rfl (fun hc136 => ?_) fun hc136 => ?_
   ·obtain ⟨hin, rfl⟩ : s.ins = [] /\ r = (0, { z51 s with st := 4 }) := by
      rcases hrd with h1 | ⟨y, q, h1, _⟩
      ·exact h1
      simp [z51, h1] at hc136
      omega
    refine tQ <| tG <| sm 1 rfl <| cV rfl (nCk rfl rfl rfl) <| sm 2 rfl <| c0 (sBx rfl rfl rfl rfl ((fun h => h)) tS3 (rfl) (lb rfl)) <| nL <| tQ <| tG <| sm 1 rfl <| nL <| tRt <| rOk rfl ?_ (po2 rfl rfl)
    rfl
   obtain ⟨y, q, hin, rfl⟩ : ∃ y q, s.ins = y :: q /\ r = (y, { z51 s with ins := q }) := by
     rcases hrd with ⟨h1, _⟩ | h1
     ·simp [z51, h1] at hc136
     exact h1
   have hil : (z51 s).ins = y :: q := hin
   have hi0 : ((z51 s).ins.map eInt)[0]? = some (eInt y) := by show (s.ins.map eInt)[0]? = _; rw [hin]; rfl
   refine tSk <| tQ <| tG <| sm 1 rfl <| cV rfl (nCk rfl rfl rfl) <| sm 2 rfl <| cV rfl (iSq rfl rfl rfl uT35 hi0 tS3 rfl (by rfl)) <| sm 2 rfl <| nL <| tQ <| tG <| sm 2 rfl ?_
   refine cV rfl (nCk rfl rfl rfl) <| sm 2 rfl ?_
   refine cV rfl (z8b (i := 1) (j := (y :: q).length) rfl (show _ = some (IV.pv (ints (z51 s).ins)) from rfl) uT35 tS3 (.inr ⟨_, _, rfl, rfl⟩) (.inl ⟨rfl, by simp [hil]⟩) sI0 (by simp [hil]) z4y) ?_
   refine cV rfl (nCk rfl rfl rfl) <| sm 1 rfl <| c0 (sBx rfl rfl rfl rfl ((fun h => h)) tS35 (rfl) (lb rfl)) <| nL <| tQ <| tG <| sm 2 rfl <| nL <| tRt <| rOk rfl rfl (z27 (And.intro (congrArg (fun z => some (HO.box z)) (by (simp [hil, ints, List.take_of_length_le]; done))) (And.intro rfl trivial)))
  obtain rfl := y7o h hc30 hc38 hc59 hc79 hc101 hc113 hc129
  refine tSk <| tQ <| tG <| sm 1 rfl <| nL <| tRt <| rOk rfl rfl (po2 rfl rfl)
theorem zj0 : PSub (.agg [vInt 0, .val (.slice none 0 0)]) (endv (0, [])) := PSub.agg (ps := [vInt 0, .val (.slice none 0 0)]) (qs := [vInt 0, .seq []]) (And.intro (PSub.refl _) (And.intro PSub.nil trivial))
theorem sc_loop (u : Un) (D : Nat) (ihL : SCL u D) (d : Nat) (hd : d <= D) (x : Nd) (hx : ndW x <= 1073741824) (v a : List Int) (s : Rs) (r : Rres) (h : zg0 u d x v a s = some r) : SC Tryz.prog 74 [.ptr 1001 0, .pv (ndv x), .sl 510 (v.map eInt).length, .pv (ints a)] (runV u s v) (fun _ => False) (.pv (endv r.1)) (runV u r.2.2 r.2.1) := by
  refine SC.ofC Tryz.func74 rfl (lb rfl) rfl fun F ρ w => ?_
  refine tQ <| tG <| cE rfl (z1p rfl rfl) <| cE rfl (aLc (k := 108) rfl tZ82 rfl rfl rfl rfl) <| nL <| tBk <| Tr.sub (Sub.of (fr' := [(8, .ptr 108 0), (5, .pv (.ept [vInt x.kind, vInt x.op, vInt x.n, vStr x.name, ints x.args, ints x.outs, ints x.params, kids x.kids] 0)), (0, .ptr 1001 0), (2, .sl 510 (v.map eInt).length), (3, .pv (ints a))]) ⟨rfl, rfl, rfl, rfl, rfl, trivial⟩) <| Tr.heap (σ' := look [(108, some (.box [iInt 0, .pv (.val (.slice none 0 0))])), (1001, some (z5f u s)), (1002, some (rowI (s).out)), (510, some (rowI v))]) (lkq [108, 1001, 1002, 510] rfl rfl ⟨rfl, rfl, rfl, rfl, trivial⟩) ?_
  refine Tr.loop (fun fr σ m => ∃ (d0 : Nat) (v1 : List Int) (a1 : List Int) (s1 : Rs), (d0 <= d) /\ (zg0 u d0 x v1 a1 s1 = some r) /\ ((v1.map eInt).length = (v.map eInt).length) /\ fr = [(8, .ptr 108 0), (5, .pv (.ept [vInt x.kind, vInt x.op, vInt x.n, vStr x.name, ints x.args, ints x.outs, ints x.params, kids x.kids] 0)), (0, .ptr 1001 0), (2, .sl 510 (v.map eInt).length), (3, .pv (ints a1))] /\ σ = look [(108, some (.box [iInt 0, .pv (.val (.slice none 0 0))])), (1001, some (z5f u s1)), (1002, some (rowI (s1).out)), (510, some (rowI v1))] /\ m = d0) (n := d) ?_ ?_
  ·exact ⟨d, v, a, s, Nat.le_refl _, h, rfl, rfl, rfl, rfl⟩
  rintro fr σ m ⟨d0, v1, a1, s1, hI0, hI1, hI2, rfl, rfl, rfl⟩
  obtain ⟨d1, v2, q, r1, rfl, hset, hq, hlist, hrest⟩ := y4m hI1
  have hi0 := z08 (f := eKid) hq
  have hqb : lsW q <= 1073741824 := by have := zk0 (List.mem_of_getElem? hq); have := zf0 x; omega
  have hl2 : (v2.map eInt).length = (v.map eInt).length := by rw [<- hI2]; simp [za8 hset]
  have hl3 : (r1.2.1.map eInt).length = (v.map eInt).length := by rw [<- hl2]; simp [y05 hlist]
  refine tBk <| tQ <| tG <| sm 4 rfl <| cE rfl (cRr (y3w v1 x.params a1 v2 hset) ent73 rfl rfl (sSm (congrArg (fun n => IV.sl 510 n) hI2.symm) (sRf _ _)) (po1 rfl) (by rfl) (fun k (h : _) => .inr h) rfl (by rfl)) <| nL <| tQ <| Tr.heap (σ' := look [(108, some (.box [iInt 0, .pv (.val (.slice none 0 0))])), (1001, some (z5f u s1)), (1002, some (rowI (s1).out)), (510, some (rowI v2))]) (lkq [108, 1001, 1002, 510] rfl rfl ⟨rfl, rfl, rfl, rfl, trivial⟩) <| tG <| sm 3 rfl <| cV rfl (iSq rfl rfl rfl uT40 hi0 tS43 rfl (by rfl)) <| sm 2 rfl ?_
  refine cE rfl (cRr (ihL d1 oM0 q v2 s1 r1 hlist hqb) ent49 rfl rfl (sSm rfl (sSm rfl (sSm (congrArg (fun n => IV.sl 510 n) hl2.symm) Subs.nil))) (po3 rfl rfl rfl) (by rfl) (fun k (h : _) => .inr h) rfl (by rfl)) <| cE rfl (aLc (k := 109) rfl tZ82 rfl rfl rfl rfl) <| c0 (sBA rfl rfl rfl rfl rfl ((fun h => h)) tS82 (flk rfl) (lb rfl)) <| nL <| tQ <| tBk <| tQ <| Tr.freezeBox (t := 9) (k := 109) rfl rfl rfl <| Tr.heap (σ' := look [(108, some (.box [iInt 0, .pv (.val (.slice none 0 0))])), (1001, some (z5f u r1.2.2)), (1002, some (rowI (r1.2.2).out)), (510, some (rowI r1.2.1))]) (lkq [109, 108, 1001, 1002, 510] rfl rfl ⟨rfl, rfl, rfl, rfl, rfl, trivial⟩) <| tG <| sm 1 rfl <| cE rfl (ocr (z8h u r1.2.2) zy4 rfl (po2 rfl rfl) rfl (fun k (h : _) => .inr trivial) rfl rfl) ?_
  refine sm 1 rfl ?_
  refine wS 25 rfl (fun hb25 => ?_) fun hb25 => ?_
  ·refine sm 5 rfl <| nL <| Tr.condT rfl <| tQ <| tG <| cV rfl (lEA rfl rfl Tryz.underlying82 rfl tS82 (lb rfl)) <| c0 (sBA rfl rfl rfl rfl rfl ((fun h => h)) tS82 (flk rfl) (lb rfl)) <| nL <| tRt ?_
   have hov : (z4q r1.2.2 || r1.1.1 == 15) = true := by first | (rw [hb25]; rfl) | (rw [hc22, Bool.or_true])
   rw [if_pos hov] at hrest
   obtain rfl : r1 = r := by injection hrest
   refine rCk (.inl rfl) (fun _ _ ho => lBP ho rfl rfl Tryz.underlying82 rfl tS82 (lb rfl) rfl trivial) rfl (po3 rfl rfl rfl)
  refine sm 5 rfl <| nL ?_
  refine tC rfl (fun hc22 => ?_) fun hc22 => ?_
  ·refine tQ <| tG <| cV rfl (lEA rfl rfl Tryz.underlying82 rfl tS82 (lb rfl)) <| c0 (sBA rfl rfl rfl rfl rfl ((fun h => h)) tS82 (flk rfl) (lb rfl)) <| nL <| tRt ?_
   have hov : (z4q r1.2.2 || r1.1.1 == 15) = true := by first | (rw [hb25]; rfl) | (rw [hc22, Bool.or_true])
   rw [if_pos hov] at hrest
   obtain rfl : r1 = r := by injection hrest
   refine rCk (.inl rfl) (fun _ _ ho => lBP ho rfl rfl Tryz.underlying82 rfl tS82 (lb rfl) rfl trivial) rfl (po3 rfl rfl rfl)
  rw [if_neg (by rw [hb25, hc22]; decide)] at hrest
  refine tQ <| tG <| sm 4 rfl <| nL ?_
  refine tC rfl (fun hc31 => ?_) fun hc31 => ?_
  ·rw [if_pos hc31, Option.map_eq_some_iff] at hrest
   obtain ⟨v3, hset2, rfl⟩ := hrest
   refine tQ <| tG <| sm 5 rfl <| cE rfl (cRr (y3w r1.2.1 x.outs r1.1.2 v3 hset2) ent73 rfl rfl (sSm (congrArg (fun n => IV.sl 510 n) hl3.symm) (sRf _ _)) (po1 rfl) (by rfl) (fun k (h : _) => .inr h) rfl (by rfl)) <| nL <| tQ <| tG <| cV rfl (bPu rfl rfl tZ82 tP82 rfl (fbk rfl) rfl) <| WL.sub (Sub.cons2 (fun _ _ _ _ h => z3w zj0 h) Sub.rfl') <| c0 (sBA rfl rfl rfl rfl rfl ((fun h => h)) tS82 (flk rfl) (lb rfl)) <| nL <| tRt <| rCk (.inl rfl) (fun _ _ ho => lBP ho rfl rfl Tryz.underlying82 rfl tS82 (lb rfl) rfl trivial) rfl (po3 rfl rfl rfl)
  rw [if_neg (by rw [hc31]; decide)] at hrest
  have hrest3 := hrest
  refine tSk <| tG <| sm 3 rfl <| nL ?_
  refine ⟨_, _, ?_, Sub.of (fr' := [(8, .ptr 108 0), (5, .pv (.ept [vInt x.kind, vInt x.op, vInt x.n, vStr x.name, ints x.args, ints x.outs, ints x.params, kids x.kids] 0)), (0, .ptr 1001 0), (2, .sl 510 (v.map eInt).length), (3, .pv (ints r1.1.2))]) ⟨rfl, rfl, rfl, rfl, rfl, trivial⟩, d1, r1.2.1, r1.1.2, r1.2.2, ?_, ?_, ?_, rfl, (funext (lkq [108, 1001, 1002, 510] rfl rfl ⟨rfl, rfl, rfl, rfl, trivial⟩)), rfl⟩
  ·omega
  ·omega
  ·exact hrest3
  exact hl3
theorem y7l {u : Un} {d : Nat} {v : List Int} {s : Rs} {r : Rres} (h : z6d u d [] v s = some r) : r = ((0, []), v, s) := by
  cases d with
  | zero => simp [z6d] at h
  | succ d => simp only [z6d] at h; cases h; rfl
theorem sc_list0 (u : Un) (hu : u.arrays = []) (D : Nat) (ihC : SCC u D) (ihL : SCL u D) (d : Nat) (hd : d <= D) (l : List Nd) (v : List Int) (s : Rs) (r : Rres) (h : z6d u d l v s = some r) (hb : lsW l <= 1073741824) : SC Tryz.prog 49 [.ptr 1001 0, .pv (z0b l), .sl 510 (v.map eInt).length] (runV u s v) (fun _ => False) (.pv (endv r.1)) (runV u r.2.2 r.2.1) := by
  refine SC.ofC Tryz.func49 rfl (lb rfl) rfl fun F ρ w => ?_
  refine Tr.lenOf (t := 1) rfl (fun hl => ?_)
  simp only [List.length_map] at hl
  refine tQ <| tG <| cE rfl (aLc (k := 106) rfl tZ82 rfl rfl rfl rfl) <| nL <| tQ <| tQ <| Tr.subBox (k := 106) [.pv (vInt 0), .pv (ints [])] rfl ⟨ISub.refl _, ISub.pv PSub.nil, trivial⟩ (fun h => h) <| tG <| sm 1 rfl <| nL <| tBk <| Tr.sub (Sub.of (fr' := [(7, iInt 0), (6, .ptr 106 0), (0, .ptr 1001 0), (1, .pv (z0b l)), (2, .sl 510 (v.map eInt).length)]) ⟨rfl, rfl, rfl, rfl, rfl, trivial⟩) ?_
  refine Tr.heap (σ' := look [(106, some (.box [.pv (vInt 0), .pv (ints [])])), (1001, some (z5f u s)), (1002, some (rowI (s).out)), (510, some (rowI v))]) (lkq [106, 1001, 1002, 510] rfl rfl ⟨rfl, rfl, rfl, rfl, trivial⟩) ?_
  refine Tr.loop (fun fr σ m => ∃ (k : Nat) (d0 : Nat) (v1 : List Int) (s1 : Rs), (k <= l.length) /\ (d0 <= d) /\ (z6d u d0 (l.drop k) v1 s1 = some r) /\ ((v1.map eInt).length = (v.map eInt).length) /\ fr = [(7, iInt k), (6, .ptr 106 0), (0, .ptr 1001 0), (1, .pv (z0b l)), (2, .sl 510 (v.map eInt).length)] /\ σ = look [(106, some (.box [.pv (vInt 0), .pv (ints [])])), (1001, some (z5f u s1)), (1002, some (rowI (s1).out)), (510, some (rowI v1))] /\ m = l.length - k) (n := l.length - 0) ?_ ?_
  ·exact ⟨0, d, v, s, Nat.zero_le _, Nat.le_refl _, h, rfl, rfl, rfl, rfl⟩
  rintro fr σ m ⟨k, d0, v1, s1, hIk, hI1, hI2, hI3, rfl, rfl, rfl⟩
  refine tQ <| tQ <| tG <| sm 2 rfl <| cV rfl (oSm uT43 rfl) <| sm 1 rfl <| nL ?_
  refine tC rfl (fun hc16 => ?_) fun hc16 => ?_
  ·have hlt : k < l.length := by simpa using hc16
   have hd2 := List.drop_eq_getElem_cons hlt
   have hm := List.getElem_mem hlt
   have hi := z0t (List.getElem?_eq_getElem hlt)
   generalize l[k] = x at hd2 hm hi
   rw [hd2] at hI2
   obtain ⟨s2, hs2⟩ : ∃ s2, (zc9 s1).2 = s2 := ⟨_, rfl⟩
   obtain ⟨d1, rfl, hst⟩ := y4l hs2 hI2
   have hxb : ndW x <= 1073741824 := by have := y20 hm; omega
   refine tSk <| tQ <| tBk <| tQ <| tG <| sm 2 rfl <| cV rfl (iSq rfl rfl rfl uT43 hi tS42 rfl (by rfl)) <| cV rfl (lEA rfl rfl uT42 rfl tS42 (lb rfl)) <| cE rfl (aLc (k := 108) rfl tZ42 rfl rfl rfl rfl) <| c0 (sBA rfl rfl rfl rfl rfl ((fun h => h)) tS42 (flk rfl) (lb rfl)) <| nL <| tQ ?_
   refine tQ <| Tr.freezeBox (t := 8) (k := 108) rfl rfl rfl <| Tr.heap (σ' := look [(106, some (.box [.pv (vInt 0), .pv (ints [])])), (1001, some (z5f u s1)), (1002, some (rowI (s1).out)), (510, some (rowI v1))]) (lkq [108, 106, 1001, 1002, 510] rfl rfl ⟨rfl, rfl, rfl, rfl, rfl, trivial⟩) <| tG <| sm 1 rfl <| cE rfl (ocr (sc_step u s1) ent71 rfl (po2 rfl rfl) rfl (fun k (h : _) => .inr h) rfl rfl) ?_
   rw [hs2]
   refine sm 1 rfl <| nL ?_
   refine tC rfl (fun hc25 => ?_) fun hc25 => ?_
   ·refine tQ <| tG <| cV rfl (bPu rfl rfl tZ82 tP82 rfl (fbk rfl) rfl) <| WL.sub (Sub.cons2 (fun _ _ _ _ h => z3w zj0 h) Sub.rfl') <| c0 (sBA rfl rfl rfl rfl rfl ((fun h => h)) tS82 (flk rfl) (lb rfl)) <| nL <| tRt ?_
    obtain rfl : r = ((0, []), v1, s2) := by
      rcases hst with ⟨_, e⟩ | ⟨e, _⟩
      ·exact e
      rw [e] at hc25; exact absurd hc25 dC0
    refine rCk (.inl rfl) (fun _ _ ho => lBP ho rfl rfl Tryz.underlying82 rfl tS82 (lb rfl) rfl trivial) rfl (po3 rfl rfl rfl)
   obtain ⟨hst1, a, r1, hof, hnode, hrest⟩ := hst.resolve_left (fun hh => by rw [hh.1] at hc25; exact absurd hc25 dC0)
   have hl1 : (r1.2.1.map eInt).length = (v.map eInt).length := by
     have := y06 (fun _ _ _ _ h => (zu5 u d1).1 _ _ _ _ h) (fun _ _ _ _ _ h => (zu5 u d1).2 _ _ _ _ _ h) hnode
     rw [<- hI3, List.length_map, List.length_map, this]
   refine Tr.heap (σ' := look [(106, some (.box [.pv (vInt 0), .pv (ints [])])), (1001, some (z5f u s2)), (1002, some (rowI (s2).out)), (510, some (rowI v1))]) (lkq [106, 1001, 1002, 510] rfl rfl ⟨rfl, rfl, rfl, rfl, trivial⟩) <| tSk <| tQ <| tG <| sm 3 rfl <| cE rfl (cRr (sc_of v1 x.args a hof (by have := zf0 x; omega)) ent72 rfl rfl (sSm (congrArg (fun n => IV.sl 510 n) hI3.symm) (sRf _ _)) (po1 rfl) (by rfl) (fun k (h : _) => (show False from h).elim) rfl (by rfl)) <| sm 1 rfl <| nL <| tQ <| tG <| cE rfl (aLc (k := 110) rfl tZ82 rfl rfl rfl rfl) <| nL ?_
   refine tQ <| tQ <| Tr.subBox (k := 110) [.pv (vInt 0), .pv (ints [])] rfl ⟨ISub.refl _, ISub.pv PSub.nil, trivial⟩ (fun h => h) <| Tr.heap (σ' := look [(110, some (.box [.pv (vInt (((0, []) : Rend)).1), .pv (ints (((0, []) : Rend)).2)])), (106, some (.box [.pv (vInt 0), .pv (ints [])])), (1001, some (z5f u s2)), (1002, some (rowI (s2).out)), (510, some (rowI v1))]) (lkq [110, 106, 1001, 1002, 510] rfl rfl ⟨rfl, rfl, rfl, rfl, rfl, trivial⟩) <| tG <| sm 2 rfl <| nL ?_
   refine Tr.cutR (fr' := [(10, .ptr 110 0), (7, iInt k), (6, .ptr 106 0), (0, .ptr 1001 0), (1, .pv (z0b l)), (2, .sl 510 (v.map eInt).length)]) (σ' := look [(110, some (.box [.pv (vInt (r1.1).1), .pv (ints (r1.1).2)])), (106, some (.box [.pv (vInt 0), .pv (ints [])])), (1001, some (z5f u r1.2.2)), (1002, some (rowI (r1.2.2).out)), (510, some (rowI r1.2.1))]) ?_ ?_
   ·refine tBk <| tQ <| tQ <| tG <| sm 2 rfl <| nL ?_
    refine tC rfl (fun hc53 => ?_) fun hc53 => ?_
    ·refine tSk ?_
     refine tC rfl (fun hd53 => ?_) fun hd53 => ?_
     ·have hk : (x.kind == 1 || x.kind == 2) = true := by first | (rw [hc53]; rfl) | (rw [hc53, Bool.or_true])
      obtain ⟨o, v2, ho, hv0, rfl⟩ := y07 hnode hk
      obtain ⟨hx0, hxl, hv2⟩ := z8l hv0
      obtain ⟨z0, hxg⟩ := y0j hxl
      have hi2 := z08 (f := eInt) ho
      have hxl2 : o.toNat < (v.map eInt).length := by rw [<- hI3]; exact hxl
      refine tDr z1q (fun k => k ∈ ([] : List Nat)) <| wR 1 [0, 1, 2, 3, 4, 5, 6, 7] kR0 (fun _ _ _ h => h.elim (fun g => pn g.1) (fun g => g.2)) <| smR 3 rfl <| rV rfl rfl (iSq rfl rfl rfl uT35 hi2 tS3 rfl (by rfl)) <| smR 3 rfl <| rV rfl rfl (iRw rfl rfl rfl rfl hI3 uT35 tS3 hxl2 oM0) <| nR <| wO 8 kR0 <| wI rfl rfl nf (nOl rfl) (fun _ _ => z1t rfl rfl rfl rfl hI3 (Nat.add_zero _).symm hxg sI0 tS3 rfl sI0) <| wDn kR0 <| Or.inl ?_
      refine ⟨rfl, Sub.of ⟨rfl, rfl, rfl, rfl, rfl, rfl, trivial⟩, funext (lkq [110, 106, 1001, 1002, 510] rfl rfl ⟨rfl, rfl, rfl, rfl, (by first | rfl | exact congrArg (fun z => some (HO.row _ z)) (by rw [hv2]; exact z4n _ _ _ _ hxg)), trivial⟩)⟩
     exact absurd (hc53.symm.trans hd53) dC0
    have hk1 := hc53
    refine tG <| sm 2 rfl <| nL ?_
    refine tC rfl (fun hc53 => ?_) fun hc53 => ?_
    ·have hk : (x.kind == 1 || x.kind == 2) = true := by first | (rw [hc53]; rfl) | (rw [hc53, Bool.or_true])
     obtain ⟨o, v2, ho, hv0, rfl⟩ := y07 hnode hk
     obtain ⟨hx0, hxl, hv2⟩ := z8l hv0
     obtain ⟨z0, hxg⟩ := y0j hxl
     have hi2 := z08 (f := eInt) ho
     have hxl2 : o.toNat < (v.map eInt).length := by rw [<- hI3]; exact hxl
     refine tDr z1q (fun k => k ∈ ([] : List Nat)) <| wR 1 [0, 1, 2, 3, 4, 5, 6, 7] kR0 (fun _ _ _ h => h.elim (fun g => pn g.1) (fun g => g.2)) <| smR 3 rfl <| rV rfl rfl (iSq rfl rfl rfl uT35 hi2 tS3 rfl (by rfl)) <| smR 3 rfl <| rV rfl rfl (iRw rfl rfl rfl rfl hI3 uT35 tS3 hxl2 oM0) <| nR <| wO 8 kR0 <| wI rfl rfl nf (nOl rfl) (fun _ _ => z1t rfl rfl rfl rfl hI3 (Nat.add_zero _).symm hxg sI0 tS3 rfl sI0) <| wDn kR0 <| Or.inl ?_
     refine ⟨rfl, Sub.of ⟨rfl, rfl, rfl, rfl, rfl, rfl, trivial⟩, funext (lkq [110, 106, 1001, 1002, 510] rfl rfl ⟨rfl, rfl, rfl, rfl, (by first | rfl | exact congrArg (fun z => some (HO.row _ z)) (by rw [hv2]; exact z4n _ _ _ _ hxg)), trivial⟩)⟩
    refine tQ <| tQ ?_
    have hk12 : (x.kind == 1 || x.kind == 2) = false := by rw [hk1, hc53]; rfl
    refine tG <| sm 2 rfl <| nL ?_
    refine tC rfl (fun hc64 => ?_) fun hc64 => ?_
    ·refine tSk ?_
     refine tC rfl (fun hd64 => ?_) fun hd64 => ?_
     ·refine tQ ?_
      have hke : (x.kind == 12 || x.kind == 13 || x.kind == 14 || x.kind == 15) = true := by simp only [hc64, Bool.or_true, Bool.true_or]
      obtain rfl := za7 hnode hke
      have hne : (x.kind != 0) = true := by rw [eq_of_beq hc64]; rfl
      simp only [hne, Bool.or_true, if_true] at hrest
      cases hrest
      refine tG <| sm 3 rfl <| cV rfl (bPu rfl rfl tZ82 tP82 rfl (fbk rfl) rfl) <| c0 (sBA rfl rfl rfl rfl rfl ((fun h => h)) tS82 (flk rfl) (lb rfl)) <| nL <| tRt ?_
      refine Or.inr ⟨Exit.noConfusion, ?_⟩
      refine rCk (.inl rfl) (fun _ _ ho => lBP ho rfl rfl Tryz.underlying82 rfl tS82 (lb rfl) rfl trivial) rfl (po3 rfl rfl rfl)
     exact absurd (hc64.symm.trans hd64) dC0
    refine tQ ?_
    have hk3 := hc64
    refine tG <| sm 2 rfl <| nL ?_
    refine tC rfl (fun hc64 => ?_) fun hc64 => ?_
    ·refine tSk ?_
     refine tC rfl (fun hd64 => ?_) fun hd64 => ?_
     ·refine tQ ?_
      have hke : (x.kind == 12 || x.kind == 13 || x.kind == 14 || x.kind == 15) = true := by simp only [hc64, Bool.or_true, Bool.true_or]
      obtain rfl := za7 hnode hke
      have hne : (x.kind != 0) = true := by rw [eq_of_beq hc64]; rfl
      simp only [hne, Bool.or_true, if_true] at hrest
      cases hrest
      refine tG <| sm 3 rfl <| cV rfl (bPu rfl rfl tZ82 tP82 rfl (fbk rfl) rfl) <| c0 (sBA rfl rfl rfl rfl rfl ((fun h => h)) tS82 (flk rfl) (lb rfl)) <| nL <| tRt ?_
      refine Or.inr ⟨Exit.noConfusion, ?_⟩
      refine rCk (.inl rfl) (fun _ _ ho => lBP ho rfl rfl Tryz.underlying82 rfl tS82 (lb rfl) rfl trivial) rfl (po3 rfl rfl rfl)
     exact absurd (hc64.symm.trans hd64) dC0
    refine tQ ?_
    have hk4 := hc64
    refine tG <| sm 2 rfl <| nL ?_
    refine tC rfl (fun hc64 => ?_) fun hc64 => ?_
    ·refine tSk ?_
     refine tC rfl (fun hd64 => ?_) fun hd64 => ?_
     ·refine tQ ?_
      have hke : (x.kind == 12 || x.kind == 13 || x.kind == 14 || x.kind == 15) = true := by simp only [hc64, Bool.or_true, Bool.true_or]
      obtain rfl := za7 hnode hke
      have hne : (x.kind != 0) = true := by rw [eq_of_beq hc64]; rfl
      simp only [hne, Bool.or_true, if_true] at hrest
      cases hrest
      refine tG <| sm 3 rfl <| cV rfl (bPu rfl rfl tZ82 tP82 rfl (fbk rfl) rfl) <| c0 (sBA rfl rfl rfl rfl rfl ((fun h => h)) tS82 (flk rfl) (lb rfl)) <| nL <| tRt ?_
      refine Or.inr ⟨Exit.noConfusion, ?_⟩
      refine rCk (.inl rfl) (fun _ _ ho => lBP ho rfl rfl Tryz.underlying82 rfl tS82 (lb rfl) rfl trivial) rfl (po3 rfl rfl rfl)
     exact absurd (hc64.symm.trans hd64) dC0
    have hk5 := hc64
    refine tG <| sm 2 rfl <| nL ?_
    refine tC rfl (fun hc64 => ?_) fun hc64 => ?_
    ·refine tQ ?_
     have hke : (x.kind == 12 || x.kind == 13 || x.kind == 14 || x.kind == 15) = true := by simp only [hc64, Bool.or_true, Bool.true_or]
     obtain rfl := za7 hnode hke
     have hne : (x.kind != 0) = true := by rw [eq_of_beq hc64]; rfl
     simp only [hne, Bool.or_true, if_true] at hrest
     cases hrest
     refine tG <| sm 3 rfl <| cV rfl (bPu rfl rfl tZ82 tP82 rfl (fbk rfl) rfl) <| c0 (sBA rfl rfl rfl rfl rfl ((fun h => h)) tS82 (flk rfl) (lb rfl)) <| nL <| tRt ?_
     refine Or.inr ⟨Exit.noConfusion, ?_⟩
     refine rCk (.inl rfl) (fun _ _ ho => lBP ho rfl rfl Tryz.underlying82 rfl tS82 (lb rfl) rfl trivial) rfl (po3 rfl rfl rfl)
    refine tQ ?_
    have hke : (x.kind == 12 || x.kind == 13 || x.kind == 14 || x.kind == 15) = false := by rw [hk3, hk4, hk5, hc64]; rfl
    refine tG <| sm 2 rfl <| nL ?_
    refine tC rfl (fun hc73 => ?_) fun hc73 => ?_
    ·refine tQ ?_
     obtain ⟨a0, q, r2, ha0, hq, hlist, hcont⟩ := mNode_if hnode hc73
     have hi0 := z08 (f := eInt) ha0
     have hl2 : (r2.2.1.map eInt).length = (v.map eInt).length := by rw [<- hI3]; simp [y05 hlist]
     refine tG <| sm 1 rfl <| nL <| tQ <| tQ <| tG <| sm 1 rfl <| cV rfl (iSq rfl rfl rfl uT35 hi0 tS3 rfl (by rfl)) <| sm 2 rfl <| nL ?_
     refine tC rfl (fun hc78 => ?_) fun hc78 => ?_
     ·rw [if_pos hc78] at hq
      have hi1 := z08 (f := eKid) hq
      have hqb : lsW q <= 1073741824 := by have := zk0 (List.mem_of_getElem? hq); have := zf0 x; omega
      refine tG <| sm 1 rfl <| nL <| tQ <| tG <| sm 4 rfl <| cV rfl (iSq rfl rfl rfl uT40 hi1 tS43 rfl (by rfl)) <| sm 2 rfl <| cE rfl (cRr (ihL d1 oM0 q v1 s2 r2 hlist hqb) ent49 rfl rfl (sSm rfl (sSm rfl (sSm (congrArg (fun n => IV.sl 510 n) hI3.symm) Subs.nil))) (po3 rfl rfl rfl) (by rfl) (fun k (h : _) => .inr h) rfl (by rfl)) <| c0 (sBA rfl rfl rfl rfl rfl ((fun h => h)) tS82 (flk rfl) (lb rfl)) <| nL <| tQ ?_
      refine tG <| sm 1 rfl <| cE rfl (ocr (z8h u r2.2.2) zy4 rfl (po2 rfl rfl) rfl (fun k (h : _) => .inr trivial) rfl rfl) <| sm 2 rfl ?_
      refine wS 90 rfl (fun hb90 => ?_) fun hb90 => ?_
      ·refine sm 4 rfl <| nL ?_
       refine tC rfl (fun hc94 => ?_) fun hc94 => ?_
       ·have hcd : (!z4q r2.2.2 && r2.1.1 == 12) = true := by rw [hb90, hc94]; rfl
        rw [if_pos hcd, Option.map_eq_some_iff] at hcont
        obtain ⟨v3, hset, rfl⟩ := hcont
        refine tQ <| tG <| sm 5 rfl <| cE rfl (cRr (y3w r2.2.1 x.outs r2.1.2 v3 hset) ent73 rfl rfl (sSm (congrArg (fun n => IV.sl 510 n) hl2.symm) (sRf _ _)) (po1 rfl) (by rfl) (fun k (h : _) => .inr h) rfl (by rfl)) <| nL <| tG <| cV rfl (bPu rfl rfl tZ82 tP82 rfl (fbk rfl) rfl) <| WL.sub (Sub.cons2 (fun _ _ _ _ h => z3w zj0 h) Sub.rfl') <| c0 (sBA rfl rfl rfl rfl rfl ((fun h => h)) tS82 (flk rfl) (lb rfl)) <| nL <| Or.inl ?_
        refine ⟨rfl, Sub.of ⟨rfl, rfl, rfl, rfl, rfl, rfl, trivial⟩, funext (lkq [110, 106, 1001, 1002, 510] rfl rfl ⟨rfl, rfl, rfl, rfl, (by first | rfl | exact congrArg (fun z => some (HO.row _ z)) (by rw [hv2]; exact z4n _ _ _ _ hxg)), trivial⟩)⟩
       have hcd : (!z4q r2.2.2 && r2.1.1 == 12) = false := by first | (rw [hb90, hc94]; rfl) | (rw [hb90]; rfl)
       rw [if_neg (by rw [hcd]; decide)] at hcont
       cases hcont
       refine tSk <| Or.inl ?_
       refine ⟨rfl, Sub.of ⟨rfl, rfl, rfl, rfl, rfl, rfl, trivial⟩, funext (lkq [110, 106, 1001, 1002, 510] rfl rfl ⟨rfl, rfl, rfl, rfl, (by first | rfl | exact congrArg (fun z => some (HO.row _ z)) (by rw [hv2]; exact z4n _ _ _ _ hxg)), trivial⟩)⟩
      refine sm 4 rfl <| nL <| Tr.condF rfl ?_
      have hcd : (!z4q r2.2.2 && r2.1.1 == 12) = false := by first | (rw [hb90, hc94]; rfl) | (rw [hb90]; rfl)
      rw [if_neg (by rw [hcd]; decide)] at hcont
      cases hcont
      refine tSk <| Or.inl ?_
      refine ⟨rfl, Sub.of ⟨rfl, rfl, rfl, rfl, rfl, rfl, trivial⟩, funext (lkq [110, 106, 1001, 1002, 510] rfl rfl ⟨rfl, rfl, rfl, rfl, (by first | rfl | exact congrArg (fun z => some (HO.row _ z)) (by rw [hv2]; exact z4n _ _ _ _ hxg)), trivial⟩)⟩
     rw [if_neg (by rw [hc78]; decide)] at hq
     have hi1 := z08 (f := eKid) hq
     have hqb : lsW q <= 1073741824 := by have := zk0 (List.mem_of_getElem? hq); have := zf0 x; omega
     refine tSk <| tQ <| tG <| sm 4 rfl <| cV rfl (iSq rfl rfl rfl uT40 hi1 tS43 rfl (by rfl)) <| sm 2 rfl <| cE rfl (cRr (ihL d1 oM0 q v1 s2 r2 hlist hqb) ent49 rfl rfl (sSm rfl (sSm rfl (sSm (congrArg (fun n => IV.sl 510 n) hI3.symm) Subs.nil))) (po3 rfl rfl rfl) (by rfl) (fun k (h : _) => .inr h) rfl (by rfl)) <| c0 (sBA rfl rfl rfl rfl rfl ((fun h => h)) tS82 (flk rfl) (lb rfl)) <| nL <| tQ <| tG <| sm 1 rfl ?_
     refine cE rfl (ocr (z8h u r2.2.2) zy4 rfl (po2 rfl rfl) rfl (fun k (h : _) => .inr trivial) rfl rfl) <| sm 2 rfl ?_
     refine wS 90 rfl (fun hb90 => ?_) fun hb90 => ?_
     ·refine sm 4 rfl <| nL ?_
      refine tC rfl (fun hc94 => ?_) fun hc94 => ?_
      ·have hcd : (!z4q r2.2.2 && r2.1.1 == 12) = true := by rw [hb90, hc94]; rfl
       rw [if_pos hcd, Option.map_eq_some_iff] at hcont
       obtain ⟨v3, hset, rfl⟩ := hcont
       refine tQ <| tG <| sm 5 rfl <| cE rfl (cRr (y3w r2.2.1 x.outs r2.1.2 v3 hset) ent73 rfl rfl (sSm (congrArg (fun n => IV.sl 510 n) hl2.symm) (sRf _ _)) (po1 rfl) (by rfl) (fun k (h : _) => .inr h) rfl (by rfl)) <| nL <| tG <| cV rfl (bPu rfl rfl tZ82 tP82 rfl (fbk rfl) rfl) <| WL.sub (Sub.cons2 (fun _ _ _ _ h => z3w zj0 h) Sub.rfl') <| c0 (sBA rfl rfl rfl rfl rfl ((fun h => h)) tS82 (flk rfl) (lb rfl)) <| nL <| Or.inl ?_
       refine ⟨rfl, Sub.of ⟨rfl, rfl, rfl, rfl, rfl, rfl, trivial⟩, funext (lkq [110, 106, 1001, 1002, 510] rfl rfl ⟨rfl, rfl, rfl, rfl, (by first | rfl | exact congrArg (fun z => some (HO.row _ z)) (by rw [hv2]; exact z4n _ _ _ _ hxg)), trivial⟩)⟩
      have hcd : (!z4q r2.2.2 && r2.1.1 == 12) = false := by first | (rw [hb90, hc94]; rfl) | (rw [hb90]; rfl)
      rw [if_neg (by rw [hcd]; decide)] at hcont
      cases hcont
      refine tSk <| Or.inl ?_
      refine ⟨rfl, Sub.of ⟨rfl, rfl, rfl, rfl, rfl, rfl, trivial⟩, funext (lkq [110, 106, 1001, 1002, 510] rfl rfl ⟨rfl, rfl, rfl, rfl, (by first | rfl | exact congrArg (fun z => some (HO.row _ z)) (by rw [hv2]; exact z4n _ _ _ _ hxg)), trivial⟩)⟩
     refine sm 4 rfl <| nL <| Tr.condF rfl ?_
     have hcd : (!z4q r2.2.2 && r2.1.1 == 12) = false := by first | (rw [hb90, hc94]; rfl) | (rw [hb90]; rfl)
     rw [if_neg (by rw [hcd]; decide)] at hcont
     cases hcont
     refine tSk <| Or.inl ?_
     refine ⟨rfl, Sub.of ⟨rfl, rfl, rfl, rfl, rfl, rfl, trivial⟩, funext (lkq [110, 106, 1001, 1002, 510] rfl rfl ⟨rfl, rfl, rfl, rfl, (by first | rfl | exact congrArg (fun z => some (HO.row _ z)) (by rw [hv2]; exact z4n _ _ _ _ hxg)), trivial⟩)⟩
    refine tQ ?_
    have hk10 := hc73
    refine tG <| sm 2 rfl <| nL ?_
    refine tC rfl (fun hc102 => ?_) fun hc102 => ?_
    ·have hlp := y4n hnode hc102
     refine tG <| sm 1 rfl <| cV rfl (lEA rfl rfl uT42 rfl tS42 (lb rfl)) <| sm 2 rfl <| cE rfl (cRr (sc_loop u D ihL d1 oM0 x hxb v1 a s2 r1 hlp) ent74 rfl rfl (sSm rfl (sSm rfl (sSm (congrArg (fun n => IV.sl 510 n) hI3.symm) (sRf _ _)))) (po3 rfl rfl rfl) (by rfl) (fun k (h : _) => .inr h) rfl (by rfl)) <| c0 (sBA rfl rfl rfl rfl rfl ((fun h => h)) tS82 (flk rfl) (lb rfl)) <| nL <| Or.inl ?_
     refine ⟨rfl, Sub.of ⟨rfl, rfl, rfl, rfl, rfl, rfl, trivial⟩, funext (lkq [110, 106, 1001, 1002, 510] rfl rfl ⟨rfl, rfl, rfl, rfl, (by first | rfl | exact congrArg (fun z => some (HO.row _ z)) (by rw [hv2]; exact z4n _ _ _ _ hxg)), trivial⟩)⟩
    refine tQ ?_
    obtain ⟨q1, hsum, hcont⟩ := y7m hnode hk12 hke hk10 hc102
    refine tG <| sm 1 rfl <| cV rfl (lEA rfl rfl uT42 rfl tS42 (lb rfl)) <| sm 1 rfl <| cE rfl (ocr (sc_sum u hu D ihC d1 oM0 x a s2 q1 hsum) ent75 rfl (po2 rfl rfl) rfl (fun k (h : _) => .inr h) rfl rfl) <| sm 1 rfl <| nL <| tQ <| tG <| sm 1 rfl <| cE rfl (ocr (z8h u q1.2) zy4 rfl (po2 rfl rfl) rfl (fun k (h : _) => .inr trivial) rfl rfl) <| sm 2 rfl ?_
    refine wS 40 rfl (fun hb40 => ?_) fun hb40 => ?_
    ·refine sm 2 rfl <| yV rfl rfl (oSm uT35 rfl) <| sm 2 rfl <| nL ?_
     refine tC rfl (fun hc45 => ?_) fun hc45 => ?_
     ·have h0 : 0 < x.outs.length := by simpa using hc45
      rw [if_pos (by rw [hb40, decide_eq_true h0]; rfl)] at hcont
      simp only [Option.bind_eq_some_iff, Option.map_eq_some_iff] at hcont
      obtain ⟨o, ho, v2, hv0, rfl⟩ := hcont
      obtain ⟨hx0, hxl, hv2⟩ := z8l hv0
      obtain ⟨z0, hxg⟩ := y0j hxl
      have hi2 := z08 (f := eInt) ho
      have hxl2 : o.toNat < (v.map eInt).length := by rw [<- hI3]; exact hxl
      refine tG <| sm 3 rfl <| cV rfl (iSq rfl rfl rfl uT35 hi2 tS3 rfl (by rfl)) <| sm 2 rfl <| cV rfl (iRw rfl rfl rfl rfl hI3 uT35 tS3 hxl2 oM0) <| c0 (z1t rfl rfl rfl rfl hI3 (Nat.add_zero _).symm hxg sI0 tS3 rfl sI0) <| nL <| Or.inl ?_
      refine ⟨rfl, Sub.of ⟨rfl, rfl, rfl, rfl, rfl, rfl, trivial⟩, funext (lkq [110, 106, 1001, 1002, 510] rfl rfl ⟨rfl, rfl, rfl, rfl, (by first | rfl | exact congrArg (fun z => some (HO.row _ z)) (by rw [hv2]; exact z4n _ _ _ _ hxg)), trivial⟩)⟩
     have hcd : (!z4q q1.2 && decide (0 < x.outs.length)) = false := by first | (rw [hb40]; rfl) | (rw [hb40]; simpa using hc45)
     rw [if_neg (by rw [hcd]; decide)] at hcont
     cases hcont
     refine tSk <| Or.inl ?_
     refine ⟨rfl, Sub.of ⟨rfl, rfl, rfl, rfl, rfl, rfl, trivial⟩, funext (lkq [110, 106, 1001, 1002, 510] rfl rfl ⟨rfl, rfl, rfl, rfl, (by first | rfl | exact congrArg (fun z => some (HO.row _ z)) (by rw [hv2]; exact z4n _ _ _ _ hxg)), trivial⟩)⟩
    refine sm 5 rfl <| nL <| Tr.condF rfl ?_
    have hcd : (!z4q q1.2 && decide (0 < x.outs.length)) = false := by first | (rw [hb40]; rfl) | (rw [hb40]; simpa using hc45)
    rw [if_neg (by rw [hcd]; decide)] at hcont
    cases hcont
    refine tSk <| Or.inl ?_
    refine ⟨rfl, Sub.of ⟨rfl, rfl, rfl, rfl, rfl, rfl, trivial⟩, funext (lkq [110, 106, 1001, 1002, 510] rfl rfl ⟨rfl, rfl, rfl, rfl, (by first | rfl | exact congrArg (fun z => some (HO.row _ z)) (by rw [hv2]; exact z4n _ _ _ _ hxg)), trivial⟩)⟩
   refine tQ <| tG <| sm 1 rfl <| cE rfl (ocr (z8h u r1.2.2) zy4 rfl (po2 rfl rfl) rfl (fun k (h : _) => .inr trivial) rfl rfl) <| sm 1 rfl ?_
   refine wS 111 rfl (fun hb111 => ?_) fun hb111 => ?_
   ·refine sm 4 rfl <| nL <| Tr.condT rfl ?_
    have hov : (z4q r1.2.2 || r1.1.1 != 0) = true := by first | (rw [hb111]; rfl) | (rw [hc115, Bool.or_true])
    rw [if_pos hov] at hrest
    obtain rfl : r1 = r := by injection hrest
    refine tQ <| tG <| cV rfl (lBP rfl rfl rfl Tryz.underlying82 rfl tS82 (lb rfl) rfl trivial) <| c0 (sBA rfl rfl rfl rfl rfl ((fun h => h)) tS82 (flk rfl) (lb rfl)) <| nL <| tRt <| rCk (.inl rfl) (fun _ _ ho => lBP ho rfl rfl Tryz.underlying82 rfl tS82 (lb rfl) rfl trivial) rfl (po3 rfl rfl rfl)
   refine sm 4 rfl <| nL ?_
   refine tC rfl (fun hc115 => ?_) fun hc115 => ?_
   ·have hov : (z4q r1.2.2 || r1.1.1 != 0) = true := by first | (rw [hb111]; rfl) | (rw [hc115, Bool.or_true])
    rw [if_pos hov] at hrest
    obtain rfl : r1 = r := by injection hrest
    refine tQ <| tG <| cV rfl (lBP rfl rfl rfl Tryz.underlying82 rfl tS82 (lb rfl) rfl trivial) <| c0 (sBA rfl rfl rfl rfl rfl ((fun h => h)) tS82 (flk rfl) (lb rfl)) <| nL <| tRt <| rCk (.inl rfl) (fun _ _ ho => lBP ho rfl rfl Tryz.underlying82 rfl tS82 (lb rfl) rfl trivial) rfl (po3 rfl rfl rfl)
   rw [if_neg (by rw [hb111, hc115]; decide)] at hrest
   refine tSk <| Tr.drop (k := 110) <| tG <| sm 1 rfl <| cV rfl (oB rfl rfl (z03 rfl oM0)) <| sm 1 rfl <| nL ?_
   refine ⟨_, _, ?_, Sub.of (fr' := [(7, iInt (k + 1)), (6, .ptr 106 0), (0, .ptr 1001 0), (1, .pv (z0b l)), (2, .sl 510 (v.map eInt).length)]) ⟨rfl, rfl, rfl, rfl, rfl, trivial⟩, (k + 1), d1, r1.2.1, r1.2.2, ?_, ?_, ?_, ?_, rfl, (funext (lkq [110, 106, 1001, 1002, 510] rfl rfl ⟨rfl, rfl, rfl, rfl, rfl, trivial⟩)), rfl⟩
   ·omega
   ·omega
   ·omega
   ·exact hrest
   exact hl1
  refine tEx <| tQ ?_
  have hge : l.length <= k := by simpa using hc16
  rw [List.drop_eq_nil_of_le hge] at hI2
  obtain rfl := y7l hI2
  refine tG <| cV rfl (bPu rfl rfl tZ82 tP82 rfl (fbk rfl) rfl) <| WL.sub (Sub.cons2 (fun _ _ _ _ h => z3w zj0 h) Sub.rfl') <| c0 (sBA rfl rfl rfl rfl rfl ((fun h => h)) tS82 (flk rfl) (lb rfl)) <| nL <| tRt <| rCk (.inl rfl) (fun _ _ ho => lBP ho rfl rfl Tryz.underlying82 rfl tS82 (lb rfl) rfl trivial) rfl (po3 rfl rfl rfl)
theorem y6k {a : List Int} {i n : Nat} {x : Int} (hx : a[i]? = some x) (hn : a.length <= n) : (a.take i ++ List.replicate (n - i) 0).set i x = a.take (i + 1) ++ List.replicate (n - (i + 1)) 0 := by
  have hi : i < a.length := (List.getElem?_eq_some_iff.1 hx).1
  have hl : (a.take i).length = i := by rw [List.length_take]; omega
  rw [List.set_append_right _ _ oM0, hl, Nat.sub_self, show n - i = (n - (i + 1)) + 1 by omega, List.replicate_succ, List.set_cons_zero, List.take_add_one, hx]
  simp
theorem sc_call0 (u : Un) (hub : ∀ f ∈ u.flows, lsW f.body <= 1073741824) (D : Nat) (ihL : SCL u D) (d : Nat) (hd : d <= D) (k : Int) (a : List Int) (s : Rs) (r : Int × Rs) (h : zk2 u d k a s = some r) : SC Tryz.prog 29 [.ptr 1001 0, iInt k, .pv (ints a)] (runH u s) (fun _ => False) (iInt r.1) (runH u r.2) := by
  refine SC.of Tryz.func29 rfl (lb rfl) fun F ρ w => ?_
  refine Tr.lenOf (t := 2) rfl (fun hl => ?_)
  simp only [List.length_map] at hl
  obtain ⟨d1, f, r1, rfl, hk0, hf, hal, hfl, hlist, rfl⟩ := y4k h
  have hif := z08 (f := Fl.enc) hf
  have hfb := hub f (List.mem_of_getElem? hf)
  refine tQ <| tG <| sm 1 rfl <| nL <| tQ <| tG <| sm 1 rfl <| cV rfl (nCk rfl rfl rfl) <| sm 4 rfl <| cV rfl (iSq rfl rfl rfl uT23 hif tS51 rfl oM0) <| cV rfl (lEA rfl rfl Tryz.underlying51 rfl tS51 (lb rfl)) <| cE rfl (aLc (k := 107) rfl tZ51 rfl rfl rfl rfl) ?_
  refine c0 (sBA rfl rfl rfl rfl rfl ((fun h => h)) tS51 (flk rfl) (lb rfl)) <| nL <| tQ <| Tr.freezeBox (t := 7) (k := 107) rfl rfl rfl <| tG <| sm 2 rfl <| cV rfl (oSm uT35 rfl) <| cE rfl (z0y (k := 510) (s := ⟨3, 1⟩) rfl rfl rfl uT35 tZ3 tC3 rfl dC0 oM0 oM0 rfl rfl rfl rfl) <| sm 1 rfl <| nL <| tQ <| tQ ?_
  refine tG <| sm 1 rfl <| nL <| tBk <| Tr.sub (Sub.of (fr' := [(9, iInt 0), (8, .sl 510 f.types.length), (7, .pv (.ept [vStr f.name, vInt f.ty, vInt f.params, ints f.types, z0b f.body] 0)), (0, .ptr 1001 0), (2, .pv (ints a))]) ⟨rfl, rfl, rfl, rfl, rfl, trivial⟩) <| Tr.heap (σ' := look [(1001, some (z5f u s)), (1002, some (rowI (s).out)), (510, some (rowI (a.take 0 ++ List.replicate (f.types.length - 0) 0)))]) (lkq [107, 1001, 1002, 510] rfl rfl ⟨rfl, rfl, rfl, (by exact congrArg (fun z => some (HO.row _ z)) (by rw [List.take_zero, List.nil_append, Nat.sub_zero, List.map_replicate]; rfl)), trivial⟩) ?_
  refine Tr.loop (fun fr σ m => ∃ (i : Nat), (i <= a.length) /\ fr = [(9, iInt i), (8, .sl 510 f.types.length), (7, .pv (.ept [vStr f.name, vInt f.ty, vInt f.params, ints f.types, z0b f.body] 0)), (0, .ptr 1001 0), (2, .pv (ints a))] /\ σ = look [(1001, some (z5f u s)), (1002, some (rowI (s).out)), (510, some (rowI (a.take i ++ List.replicate (f.types.length - i) 0)))] /\ m = a.length - i) (n := a.length - 0) ?_ ?_
  ·exact ⟨0, Nat.zero_le _, rfl, rfl, rfl⟩
  rintro fr σ m ⟨i, hI0, rfl, rfl, rfl⟩
  refine tQ <| tQ <| tG <| sm 2 rfl <| cV rfl (oSm uT35 rfl) <| sm 1 rfl <| nL ?_
  refine tC rfl (fun hc26 => ?_) fun hc26 => ?_
  ·have hlt : i < a.length := by simpa using hc26
   have hil : i < f.types.length := by omega
   obtain ⟨x, hx⟩ : ∃ x, a[i]? = some x := ⟨_, List.getElem?_eq_getElem hlt⟩
   have hi := z08 (f := eInt) hx
   have hvl : ((a.take i ++ List.replicate (f.types.length - i) 0).map eInt).length = f.types.length := by simp; omega
   obtain ⟨z0, hxg⟩ := y0j (v := (a.take i ++ List.replicate (f.types.length - i) 0)) (i := i) (by rw [hvl]; omega)
   refine tSk <| tQ <| tBk <| tG <| sm 4 rfl <| cV rfl (iSq rfl rfl rfl uT35 hi tS3 rfl (by rfl)) <| sm 1 rfl <| cV rfl (iRw rfl rfl rfl rfl hvl uT35 tS3 hil rfl) <| c0 (z1t rfl rfl rfl rfl hvl (Nat.add_zero _).symm hxg sI0 tS3 rfl sI0) <| nL <| tG <| sm 1 rfl ?_
   refine cV rfl (oB rfl rfl (z03 rfl oM0)) <| sm 1 rfl <| nL ?_
   refine ⟨_, _, ?_, Sub.of (fr' := [(9, iInt (i + 1)), (8, .sl 510 f.types.length), (7, .pv (.ept [vStr f.name, vInt f.ty, vInt f.params, ints f.types, z0b f.body] 0)), (0, .ptr 1001 0), (2, .pv (ints a))]) ⟨rfl, rfl, rfl, rfl, rfl, trivial⟩, (i + 1), ?_, rfl, (funext (lkq [1001, 1002, 510] rfl rfl ⟨rfl, rfl, (congrArg (fun z => some (HO.row _ z)) ((z4n _ _ _ _ hxg).trans (congrArg (List.map eInt) (y6k hx hal)))), trivial⟩)), rfl⟩
   ·omega
   omega
  refine tEx <| tQ ?_
  have he : (a.take i ++ List.replicate (f.types.length - i) 0) = a ++ List.replicate (f.types.length - a.length) 0 := by
    have hge : a.length <= i := by simpa using hc26
    obtain rfl : i = a.length := by omega
    rw [List.take_length]
  rw [he]
  have hvl2 : ((a ++ List.replicate (f.types.length - a.length) 0).map eInt).length = f.types.length := by simp; omega
  refine tG <| sm 4 rfl <| cE rfl (cRr (ihL d1 oM0 f.body (a ++ List.replicate (f.types.length - a.length) 0) s r1 hlist hfb) ent49 rfl rfl (sSm rfl (sSm rfl (sSm (congrArg (fun n => IV.sl 510 n) hvl2.symm) Subs.nil))) (po3 rfl rfl rfl) (by rfl) (fun k (h : _) => .inr h) rfl (by rfl)) <| cE rfl (aLc (k := 110) rfl tZ82 rfl rfl rfl rfl) <| c0 (sBA rfl rfl rfl rfl rfl ((fun h => h)) tS82 (flk rfl) (lb rfl)) <| nL <| tQ <| tQ <| tG <| sm 1 rfl <| cE rfl (ocr (z8h u r1.2.2) zy4 rfl (po2 rfl rfl) rfl (fun k (h : _) => .inr trivial) rfl rfl) <| sm 1 rfl ?_
  refine wS 43 rfl (fun hb43 => ?_) fun hb43 => ?_
  ·refine sm 5 rfl <| nL <| Tr.condT rfl <| tQ <| tG <| sm 1 rfl <| nL <| tRt <| rOk rfl ?_ (po2 rfl rfl)
   (rw [if_pos hb43]; done)
  refine sm 2 rfl <| yV rfl rfl (oSm uT35 rfl) <| sm 2 rfl <| nL ?_
  refine tC rfl (fun hc48 => ?_) fun hc48 => ?_
  ·refine tQ <| tG <| sm 1 rfl <| nL <| tRt <| rOk rfl ?_ (po2 rfl rfl)
   (have hz : r1.1.2 = [] := by simpa using hc48
    rw [hz]
    split <;> rfl)
  obtain ⟨x, q, hxq⟩ : ∃ x q, r1.1.2 = x :: q := by
    cases hz : r1.1.2 with
    | nil => rw [hz] at hc48; simp at hc48
    | cons x q => exact ⟨x, q, rfl⟩
  have hi0 : (r1.1.2.map eInt)[0]? = some (eInt x) := by rw [hxq]; rfl
  refine tSk <| tQ <| tG <| sm 2 rfl <| cV rfl (iSq rfl rfl rfl uT35 hi0 tS3 rfl (by rfl)) <| sm 2 rfl <| nL <| tRt <| rOk rfl ?_ (po2 rfl rfl)
  rw [if_neg (by rw [hb43]; decide), hxq]
  rfl
theorem z8y (u : Un) (hu : u.arrays = []) (hub : ∀ f ∈ u.flows, lsW f.body <= 1073741824) : ∀ D, SCC u D /\ SCL u D
  | 0 => ⟨fun _ h => absurd h (Nat.not_lt_zero _), fun _ h => absurd h (Nat.not_lt_zero _)⟩
  | D + 1 => ⟨fun d hd k a s r h => sc_call0 u hub D (z8y u hu hub D).2 d (Nat.le_of_lt_succ hd) k a s r h,
      fun d hd l v s r h hb => sc_list0 u hu D (z8y u hu hub D).1 (z8y u hu hub D).2 d (Nat.le_of_lt_succ hd) l v s r h hb⟩
def run0 (ins : List Int) (fuel : Int) : Rs := { ins := ins, ar := [], st := 0, code := 0, out := [], cost := 0, fuel := if fuel < 0 then 0 else fuel, spent := false }
def mEnd (r : Int × Rs) : Rs := if z4q r.2 then r.2 else { r.2 with st := 1, code := r.1 }
def runv (s : Rs) : PV := .agg [vInt s.st, vInt s.code, ints s.out, vInt s.cost, vInt s.fuel]
theorem sc_run0 (u : Un) (hu : u.arrays = []) (hW : z1g u <= 536870912) (hz : (z2k u).1 = 0) (ins : List Int) (fuel : Int) (d : Nat) (r : Int × Rs) (h : zk2 u d (z0c z0i u.flows 0) [] (run0 ins fuel) = some r) : SC Tryz.prog 17 [.pv u.enc, .pv (ints ins), iInt fuel] [] (fun _ => False) (.pv (runv (mEnd r))) [] := by
  refine SC.ofC Tryz.func17 rfl (lb rfl) rfl fun F ρ w => ?_
  have hub : ∀ f ∈ u.flows, lsW f.body <= 1073741824 := fun f hf => Nat.le_trans (y1t hW hf) oM0
  have hcall := (z8y u hu hub (d + 1)).1 d (Nat.lt_succ_self d) _ _ _ _ h
  refine tQ <| tG <| cE rfl (z1p rfl rfl) <| cE rfl (aLc (k := 106) rfl tZ46 rfl rfl rfl rfl) <| nL <| tQ <| tQ <| tG <| cV rfl (lEA rfl rfl uT25 rfl tS25 (lb rfl)) <| cE rfl (ocq (zd9 u hW) ent19 rfl rfl) <| sm 1 rfl <| cV rfl (z1v rfl rfl rfl) ?_
  refine cV rfl (z1v rfl rfl rfl) <| sm 2 rfl <| nL <| tQ <| tG <| sm 2 rfl <| nL ?_
  refine tC rfl (fun hc18 => ?_) fun hc18 => ?_
  ·exact absurd hc18 (by rw [hz]; decide)
  refine tSk <| tQ <| tG <| cV rfl (lEA rfl rfl uT25 rfl tS25 (lb rfl)) <| sm 2 rfl <| cV rfl (ok_max rfl rfl rfl) <| cV rfl (bPu rfl rfl tZ46 tP46 rfl (fbk rfl) rfl) <| cV rfl (bPu rfl rfl tZ70 tP70 rfl (fbk rfl) rfl) <| cE rfl (zd2 (k := 1001) rfl rfl rfl rfl rfl rfl) <| sm 1 rfl <| nL <| tQ ?_
  refine tQ <| Tr.growCell (k := 1002) (k2 := 1001) (j := 6) ⟨3, 1⟩ rfl rfl rfl rfl rfl rfl <| tG <| sm 1 rfl <| nL <| tBk <| Tr.sub (Sub.of (fr' := [(10, iInt 0), (9, .ptr 1001 0), (6, .ptr 106 0), (3, .pv (.ept [arrs u.arrays, flws u.flows] 0))]) ⟨rfl, rfl, rfl, rfl, trivial⟩) <| Tr.heap (σ' := look [(106, some (.box [iInt 0, iInt 0, .pv (.val (.slice none 0 0)), iInt 0, iInt 0])), (1001, some (z5f u (run0 ins fuel))), (1002, some (rowI []))]) (lkq [106, 1001, 1002] rfl rfl ⟨rfl, rfl, rfl, trivial⟩) ?_
  refine Tr.loop (fun fr σ m => fr = [(10, iInt 0), (9, .ptr 1001 0), (6, .ptr 106 0), (3, .pv (.ept [arrs u.arrays, flws u.flows] 0))] /\ σ = look [(106, some (.box [iInt 0, iInt 0, .pv (.val (.slice none 0 0)), iInt 0, iInt 0])), (1001, some (z5f u (run0 ins fuel))), (1002, some (rowI []))] /\ m = 0) (n := 0) ?_ ?_
  ·exact ⟨rfl, rfl, rfl⟩
  rintro fr σ m ⟨rfl, rfl, rfl⟩
  refine tQ <| tQ <| tG <| sm 3 rfl <| cV rfl (oSm uT22 rfl) <| sm 1 rfl <| nL ?_
  refine tC rfl (fun hc31 => ?_) fun hc31 => ?_
  ·exact absurd hc31 (by rw [hu]; simp)
  refine tEx <| tQ <| tG <| sm 1 rfl <| cV rfl (lEA rfl rfl uT25 rfl tS25 (lb rfl)) <| cE rfl (ocq (z5r _ _) y4b rfl rfl) <| cE rfl (cRr (hcall) ent29 rfl rfl (sSm rfl (sSm rfl (Subs.cons (fun _ _ _ _ h => z3w PSub.nil h) Subs.nil))) (po2 rfl rfl) (by rfl) (fun k (h : _) => .inr h) rfl (by rfl)) <| sm 1 rfl <| nL <| tQ <| tQ <| tG ?_
  refine sm 1 rfl <| cE rfl (ocr (z8h u r.2) zy4 rfl (po2 rfl rfl) rfl (fun k (h : _) => .inr trivial) rfl rfl) <| sm 1 rfl <| nL ?_
  refine tC rfl (fun hc56 => ?_) fun hc56 => ?_
  ·have hend : mEnd r = { r.2 with st := 1, code := r.1 } := if_neg (by intro hh; rw [hh] at hc56; exact absurd hc56 dC0)
   refine tG <| sm 3 rfl <| cV rfl (nCk rfl rfl rfl) <| sm 2 rfl <| c0 (sBx rfl rfl rfl rfl ((fun h => h)) tS3 (rfl) (lb rfl)) <| cV rfl (nCk rfl rfl rfl) <| sm 2 rfl <| c0 (sBx rfl rfl rfl rfl ((fun h => h)) tS3 (rfl) (lb rfl)) <| nL <| tQ <| Tr.freezeCell (k := 1002) (k2 := 1001) (j := 6) (n := (r.2.out.map eInt).length) rfl rfl rfl rfl dC0 <| tG ?_
   refine sm 1 rfl <| cV rfl (nCk rfl rfl rfl) <| sm 1 rfl <| cV rfl (lBP rfl rfl rfl Tryz.underlying46 rfl tS46 (lb rfl) rfl trivial) <| c0 (sBA rfl rfl rfl rfl rfl ((fun h => h)) tS46 (flk rfl) (lb rfl)) <| nL <| tRt ?_
   rw [hend]
   refine rCk (.inl rfl) (fun _ _ ho => lBP ho rfl rfl Tryz.underlying46 rfl tS46 (lb rfl) rfl trivial) rfl nPo
  have hend : mEnd r = r.2 := if_pos (by simpa using hc56)
  refine tSk <| tQ <| Tr.freezeCell (k := 1002) (k2 := 1001) (j := 6) (n := (r.2.out.map eInt).length) rfl rfl rfl rfl dC0 <| tG <| sm 1 rfl <| cV rfl (nCk rfl rfl rfl) <| sm 1 rfl <| cV rfl (lBP rfl rfl rfl Tryz.underlying46 rfl tS46 (lb rfl) rfl trivial) <| c0 (sBA rfl rfl rfl rfl rfl ((fun h => h)) tS46 (flk rfl) (lb rfl)) <| nL <| tRt ?_
  rw [hend]
  refine rCk (.inl rfl) (fun _ _ ho => lBP ho rfl rfl Tryz.underlying46 rfl tS46 (lb rfl) rfl trivial) rfl nPo
set_option maxRecDepth 20000
theorem y3v (u : Un) (hW : z1g u <= 536870912) : SC Tryz.prog 12 [.pv u.enc] [] (fun k => k ∈ []) (iBool (y16 u)) [] := by
  refine SC.vc tb {} [] Tryz.func12 rfl rfl ?_
  have hW2 : z1g u = u.arrays.length + u.flows.length + wtA u.arrays + wtF u.flows := rfl
  refine ⟨Nat, fun k => [(3, iInt k)], fun _ => [], fun k => u.flows.length - k, fun k => k <= u.flows.length /\ y16 u = (u.flows.drop k).all fun f => fiL f.body, [], 0, ⟨Nat.zero_le _, rfl⟩, ⟨rfl, trivial⟩, trivial, ?_⟩
  rintro k ⟨hk, hI⟩
  refine z0l (fun hc => ?_) fun hc => ?_
  · have hlt := za5 (f := Fl.enc) rfl hc
    obtain ⟨x, hx, _, hd, hm⟩ := z7z hlt
    have hb := y6d hW hm
    rw [hd, List.all_cons] at hI
    refine ⟨z08 (f := Fl.enc) hx, rfl, [], y8c _ x.body (Nat.lt_succ_self _) oM0, sR, trivial, rfl, z0l (fun h1 => ?_) fun h1 => ?_⟩
    · have h1' : fiL x.body = false := by simpa using h1
      exact ⟨sE (by rw [hI, h1', Bool.false_and]), trivial⟩
    · have h1' : fiL x.body = true := by simpa using h1
      exact ⟨z03 rfl oM0, k + 1, z2w hlt, ⟨hlt, by rw [hI, h1', Bool.true_and]⟩, ⟨rfl, trivial⟩, trivial, rfl, rfl, rfl, rfl⟩
  · rw [List.drop_eq_nil_of_le (za1 (f := Fl.enc) rfl hc)] at hI
    exact ⟨sE (by rw [hI]; rfl), trivial⟩
theorem z9n (l : List Nd) : z3i (trB l) <= z3i l := y4s l
theorem sc_fits (u : Un) (hW : z1g u <= 536870912) : SC Tryz.prog 9 [.pv u.enc] [] (fun k => k ∈ []) (iBool true) [] := by
  refine SC.vc tb {} [] Tryz.func9 rfl rfl ?_
  refine ⟨[], zv4 u hW, sR, trivial, rfl, [], zd9 u hW, sR, trivial, rfl, z0l (fun hc => ?_) fun hc => ?_⟩
  · have hH := zd5 trB (u := u) (by simpa using hc)
    rw [hH]
    exact ⟨[], y8i ⟨[], []⟩ ⟨[], []⟩, SubA.same (SubA.cons sEmp SubA.nil), trivial, rfl, sI, trivial⟩
  · have hz : (z2k u).1 = 0 := by simpa using hc
    have hH := z5z trB hz
    have hK := zq1 hz
    have hS := y2b trB (u := u) (by rw [z8z]; exact hz)
    have hw := z79 trB z9n u
    rw [hH] at hw ⊢
    refine ⟨[], zd9 (z3f trB u) (Nat.le_trans hw hW), sR, trivial, rfl, ?_⟩
    rw [hK]
    exact ⟨[], y0t u (z3f trB u), sR, trivial, rfl, sE (by rw [hS]), trivial⟩
theorem y8z (ts : List Int) (l : List Nd) : SC Tryz.prog 16 [.pv (ints ts), .pv (z0b l)] [] (fun k => k ∈ []) (.pv (.agg [.val (.slice none 0 0), flws [⟨z0i, 1, 0, ts, l⟩]])) [] := by
  refine SC.vc tb {} [] Tryz.func16 rfl rfl ?_
  exact ⟨sI, trivial⟩
set_option maxRecDepth 20000
def wakeL : List Nd := [.mk 8 0 0 ⟨#[]⟩ [] [0] [] [], .mk 11 0 0 ⟨#[]⟩ [] [1] [] [[.mk 9 0 0 ⟨#[]⟩ [0] [] [] [], .mk 14 0 0 ⟨#[]⟩ [0] [] [] []]], .mk 15 0 0 ⟨#[]⟩ [1] [] [] []]
def zx3 : Un := ⟨[], [⟨z0i, 1, 0, [1, 1], wakeL⟩]⟩
theorem z92 : (z2k zx3).1 = 0 := by decide +kernel
theorem zo8 : z1g zx3 <= 536870912 := by decide +kernel
theorem ya5 : ((zk2 (z3f trB zx3) 20 (z0c z0i (z3f trB zx3).flows 0) [] (run0 [3] 5)).map fun r => (z4q r.2, r.1, r.2.out)) = some (false, 3, [3]) := by decide +kernel
theorem wake_run : ∃ r, zk2 (z3f trB zx3) 20 (z0c z0i (z3f trB zx3).flows 0) [] (run0 [3] 5) = some r /\ (mEnd r).st = 1 /\ (mEnd r).code = 3 /\ (mEnd r).out = [3] := by
  have h := ya5
  rw [Option.map_eq_some_iff] at h
  obtain ⟨r, h1, h2⟩ := h
  simp only [Prod.mk.injEq] at h2
  refine ⟨r, h1, ?_, ?_, ?_⟩
  · simp only [mEnd, h2.1, Bool.false_eq_true, if_false]
  · simp only [mEnd, h2.1, Bool.false_eq_true, if_false, h2.2.1]
  · simp only [mEnd, h2.1, Bool.false_eq_true, if_false, h2.2.2]
def rawN (k n : Int) (a o : PV) (ks : PV) : List PV := [vInt k, vInt 0, vInt n, vStr ⟨#[]⟩, a, o, .val (.slice none 0 0), ks]
def ya4 : PV := .seq [rawN 8 0 (.val (.slice none 0 0)) (.seq [[vInt 0]]) (.val (.slice none 0 0)), rawN 11 0 (.val (.slice none 0 0)) (.seq [[vInt 1]]) (.seq [[.seq [rawN 9 0 (.seq [[vInt 0]]) (.val (.slice none 0 0)) (.val (.slice none 0 0)), rawN 14 0 (.seq [[vInt 0]]) (.val (.slice none 0 0)) (.val (.slice none 0 0))]]]), rawN 15 0 (.seq [[vInt 1]]) (.val (.slice none 0 0)) (.val (.slice none 0 0))]
theorem wake_sub : PSub ya4 (z0b wakeL) := by
  show PSub _ (.seq [_, _, _])
  repeat' (first | exact PSub.nil | exact PSub.refl _ | exact trivial | refine And.intro ?_ ?_ | refine PSub.seq (ps := [_, _, _]) (qs := [_, _, _]) ?_ | refine PSub.seq (ps := [_, _]) (qs := [_, _]) ?_ | refine PSub.seq (ps := [_]) (qs := [_]) ?_)
theorem y49 : z5e trB ⟨[], []⟩ = (⟨[], []⟩, 1) := zd5 trB (by decide +kernel)
theorem y8a (L : List Nd) (hL : PSub ya4 (z0b L)) (V : Un) (hH : z5e trB ⟨[], [⟨z0i, 1, 0, [1, 1], L⟩]⟩ = (V, 0)) (hW : z1g ⟨[], [⟨z0i, 1, 0, [1, 1], L⟩]⟩ <= 536870912) (hVa : V.arrays = []) (hVl : V.flows.length = 1) (hVr : y16 V = true) (hVW : z1g V <= 536870912) (hVz : (z2k V).1 = 0)
    (r : Int × Rs) (hr : zk2 V 20 (z0c z0i V.flows 0) [] (run0 [3] 5) = some r) (h1 : (mEnd r).st = 1) (h2 : (mEnd r).code = 3) (h3 : (mEnd r).out = [3]) : SC Tryz.prog 7 [] [] (fun k => k ∈ []) (iBool true) [] := by
  refine SC.vc tb {} [] Tryz.func7 rfl rfl ?_
  have hsc := zv4 ⟨[], [⟨z0i, 1, 0, [1, 1], L⟩]⟩ hW
  rw [hH] at hsc
  have hse := zv4 ⟨[], []⟩ dC0
  rw [y49] at hse
  refine ⟨[], y8z [1, 1] L, SubA.same (SubA.cons (sP hL) SubA.nil), trivial, rfl, ?_⟩
  refine ⟨[], hsc, SubA.cons (sP (PSub.agg ⟨PSub.nil, PSub.refl _, trivial⟩)) SubA.nil, trivial, rfl, ?_⟩
  have hrun := sc_run0 V hVa hVW hVz [3] 5 20 r hr
  rw [show runv (mEnd r) = .agg [vInt 1, vInt 3, .seq [[vInt 3]], vInt (mEnd r).cost, vInt (mEnd r).fuel] by simp only [runv, h1, h2, h3]; rfl] at hrun
  have hsr := y3v V hVW
  rw [hVr] at hsr
  refine ⟨[], hrun, sR, trivial, rfl, z0l (fun hl => ?_) fun hl => by simp [hVl] at hl⟩
  exact ⟨[], hsr, sR, trivial, rfl, at0, rfl, [], hse, SubA.cons sEmp SubA.nil, trivial, rfl, sI, trivial⟩
theorem sc_awake : SC Tryz.prog 7 [] [] (fun k => k ∈ []) (iBool true) [] := by
  obtain ⟨r, hr, h1, h2, h3⟩ := wake_run
  have hc := zq1 z92
  exact y8a wakeL wake_sub (z3f trB zx3) (z5z trB z92) zo8 rfl rfl (by have := zr9 zx3; rw [z5z trB z92] at this; exact this) (by have := z79 trB z9n zx3; rw [z5z trB z92] at this; exact Nat.le_trans this zo8) (by rw [hc]) r hr h1 h2 h3
section
section
variable (l : List UInt8)
theorem y44 (kind op n : Int) (name : ByteArray) (seen ins outs : List Int) (g : Gn) : wtN (z6o l kind op n name seen ins outs g).1 = ins.length + outs.length + name.size := by
  rw [y43]
  show (z2i l seen ins g).1.length + (z0p outs _).1.length + 0 + name.size + 0 = _
  rw [(z2d l seen ins g).2, (z2o outs _).2]
  omega
theorem ya8 (seen : List Int) (g : Gn) : wtN (z45 l seen g).1 <= 4 := by
  unfold z45
  simp only
  have hn : z21.size = 0 := rfl
  have ha : y64.size = 1 := rfl
  have hf : z9z.size = 1 := rfl
  repeat' split
  all_goals (rw [y44]; simp only [List.length_cons, List.length_nil, hn, ha, hf]; omega)
theorem wt_end (seen : List Int) (p : Plc) (hp : p.small) (g : Gn) : wtN (gEnd l seen p g).1 <= 2 := by
  obtain ⟨h1, h2, h3⟩ := hp
  unfold gEnd
  simp only
  have hn : z21.size = 0 := rfl
  repeat' split
  all_goals (rw [y44]; simp only [List.length_cons, List.length_nil, hn]; omega)
def y62 (N : Nat) (rec : GRec) : Prop := ∀ seen p g, p.small -> wtL (rec seen p g).1 <= N /\ (rec seen p g).1.length <= 6
theorem ya7 (x : List Int -> Nd) (t : List Int) (ht : t.length <= 2) (g : Gn) (N : Nat) (hx : ∀ o, wtN (x o) = o.length + N) : wtN (zp2 x t g).1 <= N + 2 := by
  unfold zp2
  split
  ·rw [hx]; simp
  rw [hx, (z2o t g).2]; omega
theorem wt_if {N : Nat} {rec : GRec} (hr : y62 N rec) (all : List Int) (p : Plc) (hp : p.small) (g : Gn) : wtN (gIf l rec all p g).1 <= 2 * N + 20 := by
  unfold gIf
  simp only
  obtain ⟨_, h2⟩ := z3n l g
  have hsm : Plc.small ⟨true, p.Loop, (z0s l g).1, p.Next, p.Left⟩ := ⟨h2, hp.2.1, hp.2.2⟩
  refine Nat.le_trans (ya7 _ _ h2 _ (1 + (1 + ((rec all ⟨true, p.Loop, (z0s l g).1, p.Next, p.Left⟩ (z2i l all [2] (z0s l g).2).2).1.length + wtL (rec all ⟨true, p.Loop, (z0s l g).1, p.Next, p.Left⟩ (z2i l all [2] (z0s l g).2).2).1) + (1 + ((rec all ⟨true, p.Loop, (z0s l g).1, p.Next, p.Left⟩ (rec all ⟨true, p.Loop, (z0s l g).1, p.Next, p.Left⟩ (z2i l all [2] (z0s l g).2).2).2).1.length + wtL (rec all ⟨true, p.Loop, (z0s l g).1, p.Next, p.Left⟩ (rec all ⟨true, p.Loop, (z0s l g).1, p.Next, p.Left⟩ (z2i l all [2] (z0s l g).2).2).2).1)))) fun o => ?_) ?_
  ·simp only [wtN, wtK, (z2d l all [2] (z0s l g).2).2, show z21.size = 0 from rfl, List.length_cons, List.length_nil]
   omega
  have h3 := hr all _ (z2i l all [2] (z0s l g).2).2 hsm
  have h4 := hr all _ (rec all ⟨true, p.Loop, (z0s l g).1, p.Next, p.Left⟩ (z2i l all [2] (z0s l g).2).2).2 hsm
  omega
theorem wt_loop {N : Nat} {rec : GRec} (hr : y62 N rec) (all : List Int) (g : Gn) : wtN (y4e l rec all g).1 <= 2 * N + 20 := by
  unfold y4e
  simp only
  obtain ⟨_, h2⟩ := z3n l g
  obtain ⟨_, h4⟩ := z3n l (z0s l g).2
  generalize hA : z2i l all (z0s l g).1 (z0s l (z0s l g).2).2 = A
  have hAl : A.1.length <= 2 := by rw [<- hA, (z2d l all _ _).2]; exact h2
  generalize hQ : z0p (z0s l g).1 A.2 = Q
  have hQl : Q.1.length <= 2 := by rw [<- hQ, (z2o _ _).2]; exact h2
  have h5 := hr (all ++ Q.1) ⟨false, true, [], (z0s l g).1, (z0s l (z0s l g).2).1⟩ Q.2 ⟨by simp, h2, h4⟩
  generalize hB : rec (all ++ Q.1) ⟨false, true, [], (z0s l g).1, (z0s l (z0s l g).2).1⟩ Q.2 = B at h5
  refine Nat.le_trans (ya7 _ _ h4 _ (A.1.length + Q.1.length + (1 + (B.1.length + wtL B.1))) fun o => ?_) ?_
  ·simp only [wtN, wtK, show z21.size = 0 from rfl]
   omega
  omega
theorem wt_any {N : Nat} {rec : Option GRec} (hr : ∀ r, rec = some r -> y62 N r) (all : List Int) (p : Plc) (hp : p.small) (g : Gn) : wtN (gAny l rec all p g).1 <= 2 * N + 20 := by
  have hs := ya8 l all { g with left := g.left - 1 }
  unfold gAny
  simp only
  cases rec with
  | none => exact Nat.le_trans hs oM0
  | some r =>
    simp only
    split
    ·exact wt_if l (hr r rfl) all p hp _
    split
    ·exact wt_loop l (hr r rfl) all _
    exact Nat.le_trans hs oM0
theorem zx6 {N : Nat} {rec : Option GRec} (hr : ∀ r, rec = some r -> y62 N r) (p : Plc) (hp : p.small) : ∀ (i : Nat) (out : List Nd) (all : List Int) (g : Gn), wtL (z40 l rec p i out all g).1 <= wtL out + (i + 1) * (2 * N + 20)
  | 0, out, all, g => by
    have := wt_end l all p hp g
    simp only [z40, z7k, wtL]
    omega
  | i + 1, out, all, g => by
    have he := wt_end l all p hp g
    have hx := wt_any l hr all p hp g
    have e : (i + 1 + 1) * (2 * N + 20) = (i + 1) * (2 * N + 20) + (2 * N + 20) := Nat.succ_mul _ _
    unfold z40
    split
    ·simp only [z7k, wtL]; omega
    simp only
    split
    ·simp only [z7k, wtL]; omega
    have := zx6 hr p hp i (out ++ [(gAny l rec all p g).1]) (all ++ (gAny l rec all p g).1.outs) (gAny l rec all p g).2
    simp only [z7k, wtL] at this ⊢
    omega
def zq0 : Nat -> Nat
  | 0 => 120
  | d + 1 => 6 * (2 * zq0 d + 20)
theorem y61 (d : Nat) : zq0 (d + 1) = 6 * (2 * zq0 d + 20) := rfl
theorem wt_gList (d : Nat) : y62 (zq0 d) (z3y l d) := by
  induction d with
  | zero =>
    intro seen p g hp
    refine ⟨?_, zj8 l 0 seen p g⟩
    have h6 : (z04 l 6 g).1 < 6 := z33 oM0
    have := zx6 l (N := 0) (rec := none) (fun r h => by cases h) p hp (z04 l 6 g).1 [] seen (z04 l 6 g).2
    rw [zg7]
    show wtL (z40 l none p (z04 l 6 g).1 [] seen (z04 l 6 g).2).1 <= zq0 0
    generalize wtL (z40 l none p (z04 l 6 g).1 [] seen (z04 l 6 g).2).1 = z at this
    generalize (z04 l 6 g).1 = k at *
    have e : zq0 0 = 120 := rfl
    simp only [wtL, Nat.zero_add, Nat.mul_zero] at this
    rw [e]
    omega
  | succ d ih =>
    intro seen p g hp
    refine ⟨?_, zj8 l (d + 1) seen p g⟩
    have h6 : (z04 l 6 g).1 < 6 := z33 oM0
    have := zx6 l (N := zq0 d) (rec := some (z3y l d)) (fun r h => by cases h; exact ih) p hp (z04 l 6 g).1 [] seen (z04 l 6 g).2
    rw [zg7]
    rw [show gRec l (d + 1) = some (z3y l d) from rfl, y61]
    generalize wtL (z40 l (some (z3y l d)) p (z04 l 6 g).1 [] seen (z04 l 6 g).2).1 = z at this
    generalize (z04 l 6 g).1 = k at *
    generalize zq0 d = m at *
    have h7 : (k + 1) * (2 * m + 20) <= 6 * (2 * m + 20) := Nat.mul_le_mul_right _ oM0
    simp only [wtL, Nat.zero_add] at this
    exact Nat.le_trans this h7
theorem ya6 (name : ByteArray) (params : List Int) (hp : params.length <= 10) (g : Gn) : (z3x l name params g).1.types.length <= 1000 /\ z3i (z3x l name params g).1.body <= 1000000 := by
  have hs : plc0.small := ⟨by simp [plc0], by simp [plc0], by simp [plc0]⟩
  have hS := (z2o params { g with types := [], left := 30 }).1
  generalize hB : (z0a 2 (z0a 1 (z0p params { g with types := [], left := 30 }).2).2).2 = B
  generalize hE : (z0p params { g with types := [], left := 30 }).1 ++ [(z0a 1 (z0p params { g with types := [], left := 30 }).2).1, (z0a 2 (z0a 1 (z0p params { g with types := [], left := 30 }).2).2).1] = E
  have h1 : B.types.length = params.length + 2 := by rw [<- hB, hS]; simp [z0a]
  have h2 : B.left = 30 := by rw [<- hB, hS]; rfl
  have hb := (z71 l 3 E plc0 B hs).t2
  have hw := wt_gList l 3 E plc0 B hs
  have e : z3x l name params g = (⟨name, 1, params.length, (z3y l 3 E plc0 B).2.types, zq7 (z0a 1 (z0p params { g with types := [], left := 30 }).2).1 (z0a 2 (z0a 1 (z0p params { g with types := [], left := 30 }).2).2).1 ++ (z3y l 3 E plc0 B).1⟩, (z3y l 3 E plc0 B).2) := by
    unfold z3x
    simp only [hB, hE]
  rw [e]
  refine ⟨by simp only; omega, ?_⟩
  simp only [z3i, List.length_append, z7k]
  have h3 : wtL (zq7 (z0a 1 (z0p params { g with types := [], left := 30 }).2).1 (z0a 2 (z0a 1 (z0p params { g with types := [], left := 30 }).2).2).1) = 2 := rfl
  have h4 : (zq7 (z0a 1 (z0p params { g with types := [], left := 30 }).2).1 (z0a 2 (z0a 1 (z0p params { g with types := [], left := 30 }).2).2).1).length = 2 := rfl
  have h5 : zq0 3 <= 500000 := by simp only [zq0]; omega
  omega
theorem wt_made : z1g (made l) <= 536870912 := by
  have h1 := ya6 l z0i [] sI0 ⟨0, [], 0⟩
  have h2 := ya6 l z9z [1, 2] sI0 (z3x l z0i [] ⟨0, [], 0⟩).2
  have e1 : (z3x l z0i [] ⟨0, [], 0⟩).1.name.size = 4 := rfl
  have e2 : (z3x l z9z [1, 2] (z3x l z0i [] ⟨0, [], 0⟩).2).1.name.size = 1 := rfl
  have e3 : y64.size = 1 := rfl
  simp only [z1g, made, wtA, wtF, List.length_cons, List.length_nil, e1, e2, e3]
  omega
end
end
set_option maxRecDepth 20000
theorem y2d (l : List UInt8) : SC Tryz.prog 4 [.pv (bts l)] [] (fun k => k ∈ []) (iBool true) [] := by
  refine SC.vc tb {} [] Tryz.func4 rfl rfl ?_
  have hW := wt_made l
  have hr := y3v (z5e trB (made l)).1 (Nat.le_trans (z79 trB z9n _) hW)
  rw [zr9] at hr
  exact ⟨[], sc_made l, sR, trivial, rfl, [], zv4 (made l) hW, sR, trivial, rfl, [], sc_awake, sR, trivial, rfl, [], sc_fits (made l) hW, sR, trivial, rfl, [], hr, sR, trivial, rfl, sI, trivial⟩
section
open Go Go.ChangeShapes Go.WideShapes Go.ChangeAt Go.RowKit
section
variable {H : Type} {enc : TypeId × Value -> H} {P : Program} {w : World} {base : Nat} {spare : Nat -> Bool} {held : Bool}
def RepEl (own : Nat -> Prop) (w : World) (ps : List PV) (cs : List Value) : Prop := ps.length = cs.length /\ ∀ (j : Nat) p v, ps[j]? = some p -> cs[j]? = some v -> RepP own w p v
theorem RepEl.nil {own : Nat -> Prop} : RepEl own w [] [] := ⟨rfl, fun j p v h => by simp at h⟩
theorem RepEl.cons {own : Nat -> Prop} {p : PV} {v : Value} {ps : List PV} {cs : List Value} (h : RepP own w p v) (hr : RepEl own w ps cs) : RepEl own w (p :: ps) (v :: cs) := by
  refine ⟨by simp [hr.1], fun j q x hq hx => ?_⟩
  cases j with
  | zero => simp at hq hx; subst hq; subst hx; exact h
  | succ j => exact hr.2 j q x (by simpa using hq) (by simpa using hx)
theorem zq2 {α : Type} (f : α -> List PV) (wt : α -> Nat) {own : Nat -> Prop} (R : Nat -> DataW H × List MemPlace -> List Value -> Prop)
    (hR : ∀ i y cs, R i y cs -> ∃ z : α, RepEl own w (f z) cs /\ wt z + 1 <= Rows.uptoBulk y.1) :
    ∀ (ys : List (DataW H × List MemPlace)) (s : Nat), (∀ i y, ys[i]? = some y -> ∃ cs, R (s + i) y cs) ->
      ∃ l : List α, l.length = ys.length /\ (∀ i z, l[i]? = some z -> ∃ y cs, ys[i]? = some y /\ R (s + i) y cs /\ RepEl own w (f z) cs) /\ (l.map wt).sum + l.length <= Rows.uptoBulkAll (ys.map (·.1))
  | [], _, _ => ⟨[], rfl, fun i z h => by simp at h, by simp [Rows.uptoBulkAll]⟩
  | y :: ys, s, h => by
    obtain ⟨cs, hcs⟩ := h 0 y rfl
    obtain ⟨z, hz, hw⟩ := hR _ _ _ hcs
    obtain ⟨l, hl, hg, hb⟩ := zq2 f wt R hR ys (s + 1) (fun i y' hy => by
      have := h (i + 1) y' (by simpa using hy)
      rwa [show s + 1 + i = s + (i + 1) by omega])
    refine ⟨z :: l, by simp [hl], fun i z' hz' => ?_, ?_⟩
    ·cases i with
     | zero => simp at hz'; subst hz'; exact ⟨y, cs, rfl, hcs, hz⟩
     | succ i =>
       obtain ⟨y', cs', h1, h2, h3⟩ := hg i z' (by simpa using hz')
       exact ⟨y', cs', by simpa using h1, by rwa [show s + (i + 1) = s + 1 + i by omega], h3⟩
    simp only [List.map_cons, List.sum_cons, List.length_cons, Rows.uptoBulkAll]; omega
theorem y9k {α : Type} (f : α -> List PV) (wt : α -> Nat) {own : Nat -> Prop} (hown : ∀ b, b < w.heap.size -> ¬ own b) {t e : TypeId} {fuel : Nat} {cs : List Value} {x : DataW H × List MemPlace} {N : Nat} (ht : P.underlying t = some (.slice e)) (hC : P.cellsOf e = N) (hN : 0 < N)
    (h : DataW.trod enc P w base spare held fuel t cs = some x)
    (hel : ∀ n cs' y, n < fuel -> cs'.length = N -> DataW.trod enc P w base spare held n e cs' = some y -> ∃ z : α, RepEl own w (f z) cs' /\ wt z + 1 <= Rows.uptoBulk y.1) :
    ∃ (l : List α) (v : Value), cs = [v] /\ RepP own w (.seq (l.map f)) v /\ (l.map wt).sum + l.length + 1 <= Rows.uptoBulk x.1 := by
  rcases DataW.trod_slice ht h with ⟨rfl, rfl⟩ | ⟨a, len, cap, elems, rest, n, rfl, rfl, rfl, hb, hl, hm, hlen, hg, _, _⟩
  ·refine ⟨[], _, rfl, ?_, by simp [Rows.uptoBulk]⟩
   have := RepP.seq (own := own) (w := w) [] none 0 0 0 (fun _ _ => default) (fun h => absurd rfl h) (fun h => absurd rfl h) (Nat.le_refl _) (Nat.zero_le _) (fun i el h => by simp at h) (fun i el h => by simp at h)
   simpa using this
  obtain ⟨l, hll, hat, hsum⟩ := zq2 (w := w) f wt (own := own) (fun i y cs => w.cells? base (a.add (i * P.cellsOf e)) (P.cellsOf e) = some cs /\ DataW.trod enc P w base spare held n e cs = some y)
    (fun i y cs' hr => hel n cs' y (Nat.lt_succ_self _) (by rw [(World.cells?_some hr.1).2.1, hC]) hr.2) elems 0 (fun i y hy => by
      have hlt : i < len := by rw [<- hlen]; exact (List.getElem?_eq_some_iff.1 hy).1
      have h1 := hg i hlt
      rw [hy, Option.bind_eq_some_iff] at h1
      obtain ⟨cs', h2, h3⟩ := h1
      exact ⟨cs', by rw [Nat.zero_add]; exact h2, h3⟩)
  obtain ⟨ab, ao, asp⟩ := a
  have hlen2 : l.length = len := by rw [hll, hlen]
  -- a cell that can be read
  have hsp : l ≠ [] -> asp = none /\ ab < w.heap.size := by
    intro hne
    obtain ⟨z, r, rfl⟩ := List.exists_cons_of_ne_nil hne
    obtain ⟨y, cs', _, hr, hrep⟩ := hat 0 z rfl
    obtain ⟨_, hcl, hcell⟩ := World.cells?_some hr.1
    have h0 := hcell 0 (by rw [hC]; exact hN)
    have hlt : 0 < cs'.length := by rw [hcl, hC]; exact hN
    rw [List.getElem?_eq_getElem hlt] at h0
    unfold World.cell? at h0
    have e0 : (Addr.add (Addr.add ⟨ab, ao, asp⟩ ((0 + 0) * P.cellsOf e)) 0) = ⟨ab, ao, asp⟩ := by simp [Addr.add]
    rw [e0] at h0
    split at h0
    ·rename_i hh
     refine ⟨?_, (Array.getElem?_eq_some_iff.1 hh).1⟩
     cases asp with
     | none => rfl
     | some _ => simp at h0
    cases h0
  refine ⟨l, _, rfl, ?_, ?_⟩
  ·-- the cells of an element
   have key : ∀ i z, l[i]? = some z -> ∃ cs', RepEl own w (f z) cs' /\ cs'.length = N /\ ∀ j, j < N -> w.cell? ⟨ab, ao + i * N + j, none⟩ = cs'[j]? := by
     intro i z hz
     obtain ⟨y, cs', _, hr, hrep⟩ := hat i z hz
     obtain ⟨_, hcl, hcell⟩ := World.cells?_some hr.1
     refine ⟨cs', hrep, hcl.trans hC, fun j hj => ?_⟩
     have h1 := hcell j (by rw [hC]; exact hj)
     have hne : l ≠ [] := by intro e; subst e; simp at hz
     have hs := (hsp hne).1
     subst hs
     rw [<- h1, Addr.add_mid, Addr.add_mid, hC, Nat.zero_add]
   have hrep := RepP.seq (own := own) (w := w) (l.map f) (some ⟨ab, ao, asp⟩) cap ab ao (fun i j => (w.cell? ⟨ab, ao + i * N + j, none⟩).getD default)
     (fun hne => by rw [(hsp (by intro e; subst e; exact hne rfl)).1]) (fun hne => by
       have := (hsp (by intro e; subst e; exact hne rfl)).2
       exact ⟨hown _ this, this⟩) (by simp; omega) hm ?_ ?_
   ·rw [List.length_map, hlen2] at hrep; exact hrep
   ·intro i el hi j c hj
    rw [List.getElem?_map, Option.map_eq_some_iff] at hi
    obtain ⟨z, hz, rfl⟩ := hi
    obtain ⟨cs', hrep, hcl, hcell⟩ := key i z hz
    have hjN : j < N := by have := (List.getElem?_eq_some_iff.1 hj).1; rw [hrep.1, hcl] at this; exact this
    have h1 := hcell j hjN
    have hfl : (f z).length = N := by rw [hrep.1, hcl]
    rw [hfl, h1, List.getElem?_eq_getElem oM0]
    rfl
   intro i el hi j c hj
   rw [List.getElem?_map, Option.map_eq_some_iff] at hi
   obtain ⟨z, hz, rfl⟩ := hi
   obtain ⟨cs', hrep, hcl, hcell⟩ := key i z hz
   have hjN : j < N := by have := (List.getElem?_eq_some_iff.1 hj).1; rw [hrep.1, hcl] at this; exact this
   have h1 := hcell j hjN
   rw [List.getElem?_eq_getElem oM0] at h1
   rw [h1]
   exact hrep.2 j c _ hj (List.getElem?_eq_getElem oM0)
  simp only [Rows.uptoBulk]; omega
end
end
section
open Go Go.ChangeShapes Go.WideShapes Go.ChangeAt Go.RowKit Go.Deep
theorem Tryz.own : ownKnob Tryz.prog.godebug = none := by kernel_rfl
theorem Tryz.laidOut : laidOutB Tryz.prog = true := by kernel_rfl
section
variable {H : Type} {enc : TypeId × Value -> H} {P : Program}
theorem y89 {W W' : World} {p : MemPlace} (h : W'.heap[p.block]? = W.heap[p.block]?) : W.sameAt W' p := by
  cases p <;> simp_all [World.sameAt, MemPlace.block, World.cell?]
theorem zb9 (hl : laidOutB P = true) {W W' : World} (hb : ∀ b, b < W.heap.size -> W'.heap[b]? = W.heap[b]?) : ∀ (ts : List TypeId) (vs : List Value) (ds : List (DataW H)) (ps : List MemPlace),
    (∀ t ∈ ts, P.readableRec t = true /\ t < P.types.size) -> DataW.TrodAll enc P W 0 (fun _ => true) true ts vs ds ps -> (∀ x ∈ ps, x.block < W.heap.size) ->
    DataW.TrodAll enc P W' 0 (fun b => decide (b < W.heap.size)) true ts vs ds ps
  | [], vs, ds, ps, _, h, _ => by
    obtain ⟨rfl, rfl, rfl⟩ := trodAll_nil h
    exact trodAll_mk0
  | t :: ts, vs, ds, ps, hr, h, hp => by
    obtain ⟨v, vs', d, ds', p, q, rfl, rfl, rfl, h1, h2⟩ := trodAll_cons h
    have ht := hr t (.head _)
    refine ⟨p, q, ?_, zb9 hl hb ts vs' ds' q (fun t' h' => hr t' (.tail _ h')) h2 (fun x hx => hp x (List.mem_append_right _ hx)), rfl⟩
    refine WideElems.Trod_stays hl ht.1 ht.2 h1 (fun x hx => ?_) (fun x hx => by simpa using hp x (List.mem_append_left _ hx))
    exact y89 (hb _ (hp x (List.mem_append_left _ hx)))
theorem y4i {W W' : World} (may : MemPlace -> Prop) (hos : W'.os = W.os) (hout : W'.output = W.output) (hb : ∀ b, b < W.heap.size -> W'.heap[b]? = W.heap[b]?) : W.keptBut W' may := by
  refine ⟨hos, hout, fun i hi => ?_⟩
  rw [hb i hi]
  rcases h : W.heap[i]? with _ | o
  ·trivial
  cases o with
  | cells c t fr => exact ⟨rfl, rfl, rfl, fun _ _ => rfl⟩
  | map es clock => exact .inr ⟨rfl, rfl⟩
  | _ => rfl
theorem y81 {f : Func} {s : ChangeSpec} {apart fresh handsOn : Bool} {W W' : World} {args : Array Value} {ds gs : List (DataW H)} {before : List MemPlace} {tb : TypeId} (hl : laidOutB P = true) (hv0 : s.vars = [])
    (hW : DataW.Whole enc P f.params.toList s.vars apart W args.toList ds gs before) (hrd : ∀ t ∈ f.params.toList, P.readableRec t = true /\ t < P.types.size) (hres : f.resultTypes = #[tb]) (htb : P.underlying tb = some .bool)
    (hs : s.fn H (ds ++ gs) = { results := [.lit (.bool true)], args := ds }) (hos : W'.os = W.os) (hout : W'.output = W.output) (hb : ∀ b, b < W.heap.size -> W'.heap[b]? = W.heap[b]?) :
    s.post enc P f apart fresh handsOn false W args (.bool true) W' := by
  have hlt := hW.lt
  have hW' := hW
  obtain ⟨p, q, hA, hV, rfl, _, _⟩ := hW
  refine ⟨ds, gs, p ++ q, [], p, [], hW', ?_, ?_, ?_, y4i _ hos hout hb, fun h => by cases h⟩
  ·rw [hs, hres]
   exact trodAll_mk1 ⟨1, by simp [DataW.trod, htb, Value.cells]⟩
  ·rw [hs]
   exact zb9 hl hb _ _ _ _ hrd hA (fun x hx => hlt x (List.mem_append_left _ hx))
  rw [hs, hv0]
  exact rfl
end
theorem y86 {W : World} : RelH (fun _ => False) (fun _ => none) (look (up [])) W where
  inj _ _ _ _ _ h := by cases h
  apart _ _ _ h := by cases h
  old _ h := h.elim
  obj _ _ _ h := by cases h
  real _ _ h := by cases h
theorem y6e {P : Program} {f : FuncId} {args : List IV} {R : Nat -> Prop} (hsc : SC P f args [] R (iBool true) []) {W : World} {vs : List Value} (hr : RepL (fun _ => False) (fun _ => none) (look (up [])) W args vs) :
    Calls P f vs.toArray W fun e W' => e = .returned (.bool true) /\ W'.os = W.os /\ W'.output = W.output /\ ∀ b, b < W.heap.size -> W'.heap[b]? = W.heap[b]? := by
  refine (hsc (fun _ => False) (fun _ => none) W vs y86 hr).mono ?_
  rintro e W' ⟨ρ', v, rfl, hv, _, t⟩
  refine ⟨?_, t.os, t.output, fun b hb => t.blk b hb fun k c h => by cases h⟩
  cases hv with
  | pv _ _ hp => cases hp; rfl
theorem own_none {b : Nat} : ¬ owned (fun _ => False) (fun _ => none) b := by
  rintro (h | ⟨_, _, h⟩)
  ·exact h
  cases h
end
section
open Go Go.ChangeShapes Go.WideShapes Go.ChangeAt Go.RowKit Go.Deep
theorem repL_one {x : IV} {v : Value} {F : Nat -> Prop} {ρ : Loc} {σ : Heap'} {w : World} (h : RepI F ρ σ w x v) : RepL F ρ σ w [x] [v] := by
  refine ⟨rfl, fun j y hj => ?_⟩
  cases j with
  | zero => simp at hj; subst hj; exact ⟨v, rfl, h⟩
  | succ j => simp at hj
end
section
open Go Go.ChangeShapes Go.WideShapes Go.ChangeAt Go.RowKit Go.Deep
section
variable {H : Type} {enc : TypeId × Value -> H} {P : Program} {w : World} {base : Nat} {spare : Nat -> Bool} {held : Bool}
theorem y5p {own : Nat -> Prop} (hown : ∀ b, b < w.heap.size -> ¬ own b) {t e : TypeId} {fuel : Nat} {cs : List Value} {x : DataW H × List MemPlace} (ht : P.underlying t = some (.slice e)) (he : P.underlying e = some (.int .u8)) (hC : P.cellsOf e = 1)
    (h : DataW.trod enc P w base spare held fuel t cs = some x) : ∃ (l : List UInt8) (v : Value), cs = [v] /\ RepP own w (bts l) v := by
  obtain ⟨l, v, h1, h2, _⟩ := y9k eB (fun _ => 0) hown ht hC dC0 h (fun n cs' y _ _ hy => by
    obtain ⟨k, rfl, rfl, hk⟩ := DataW.trod_int he hy
    have hr : 0 <= k /\ k <= 255 := by
      simp [Lit.wf, IntKind.min, IntKind.max, IntKind.bits, IntKind.signed] at hk
      omega
    refine ⟨UInt8.ofNat k.toNat, ?_, by simp [Rows.uptoBulk]⟩
    have e : ((UInt8.ofNat k.toNat).toNat : Int) = k := by
      rw [UInt8.toNat_ofNat_of_lt' (by simp [UInt8.size]; omega)]
      omega
    unfold eB
    rw [e]
    exact RepEl.cons (.val _) .nil)
  exact ⟨l, v, h1, h2⟩
end
set_option maxRecDepth 100000 in
theorem y4y {H : Type} {enc : TypeId × Value -> H} {W : World} {base b0 : Nat} {spare : Nat -> Bool} {held : Bool} {r : Reach} {v : Value} {d : DataW H} {p : List MemPlace} (hv : Value.okWide Tryz.prog W r b0 29 v)
    (h : DataW.Trod enc Tryz.prog W base spare held 29 v d p) : ∃ l : List UInt8, RepI (fun _ => False) (fun _ => none) (look (up [])) W (.pv (bts l)) v := by
  obtain ⟨a, len, cap, rfl⟩ := okWide_slice Tryz.underlying29 hv
  obtain ⟨fuel, hf⟩ := h
  obtain ⟨l, v', h1, h2⟩ := y5p (own := owned (fun _ => False) (fun _ => none)) (fun _ _ => own_none) Tryz.underlying29 Tryz.underlying5 kR0 hf
  have e : (Value.slice a len cap).cells.toList = [Value.slice a len cap] := rfl
  rw [e] at h1
  cases h1
  exact ⟨l, .pv _ _ h2⟩
set_option maxRecDepth 100000 in
theorem zo3 (hsc : ∀ l : List UInt8, SC Tryz.prog 4 [.pv (bts l)] [] (fun _ => False) (iBool true) []) (os : Os) (started : os.Started) (H : Type) (enc : TypeId × Value -> H) :
    ReturnsInHanded {} Tryz.checked os 4 .any (Rows.trimGoodSpec.pre6 enc Tryz.prog Tryz.f4 Rows.trimGoodRow.domain false) (Rows.trimGoodSpec.post enc Tryz.prog Tryz.f4 false true false false) := by
  refine returnsInHanded_of_change (C := Tryz.checked) Tryz.own started kR0 Tryz.func4
    (ChangeSpec.witness6 (enc := enc) (C := Tryz.checked) false ⟨#[], #[.slice none 0 0], []⟩ 8 kR0 kR0 kR0 kR0) ?_
  intro W base args ds gs before hval hW _ _
  have hW' := hW
  obtain ⟨p, q, hA0, hV, rfl, hfz, hnd⟩ := hW
  have hA : DataW.TrodAll enc Tryz.prog W 0 (fun _ => true) true Tryz.f4.params.toList args.toList ds p := hA0
  rw [Tryz.params4] at hA hval
  obtain ⟨v0, vs0, d0, ds0, p0, q0, hargs, rfl, rfl, h0, r0⟩ := trodAll_cons hA
  obtain ⟨rfl, rfl, rfl⟩ := trodAll_nil r0
  obtain rfl : args = #[v0] := by cases args; simp_all
  obtain ⟨rfl, rfl⟩ := trodVars_none hV
  obtain ⟨l, hu⟩ := y4y (hval 0 29 v0 rfl rfl) h0
  refine (y6e (hsc l) (repL_one hu)).mono ?_
  rintro e W' ⟨rfl, hos, hout, hbl⟩
  exact ⟨_, rfl, y81 Tryz.laidOut rfl hW' (fun t ht => by
    rw [Tryz.params4] at ht
    obtain rfl : t = 29 := by simpa using ht
    exact ⟨by kernel_rfl, of_decide_eq_true kR0⟩) kR0 Tryz.underlying4 rfl hos hout hbl⟩
set_option maxRecDepth 100000 in
theorem y2u (hsc : ∀ l : List UInt8, SC Tryz.prog 4 [.pv (bts l)] [] (fun _ => False) (iBool true) []) : Rows.TrimGoodSaid :=
  OpenClaim.holds_of_wide 4 Tryz.f4 rfl rfl rfl rfl rfl rfl rfl ⟨rfl, rfl, rfl, rfl, rfl⟩ rfl rfl rfl rfl rfl kR0 Tryz.func4 kR0
    (of_decide_eq_true kR0) (by unfold Func.isWrapper; first | (rw [if_pos (by decide +kernel)]; kernel_rfl) | (rw [if_neg (by decide +kernel)]; exact ⟨rfl, rfl⟩))
    (fun os started H enc _ => zo3 hsc os started H enc)
end
theorem trimGood_holds : Rows.TrimGoodSaid := y2u fun l => (y2d l).anyR
end Go.Proofs.YtekdhljpmflboaaGreat
