/- PART 4 of 5 of a proof: see the last part. -/
import Derived.Test.YthbcibeddfacbaaGreatSa3
set_option maxRecDepth 8000
set_option maxHeartbeats 2000000
set_option linter.unusedSimpArgs false
set_option linter.unusedVariables false
set_option linter.unusedSectionVars false
namespace Go.Proofs.YthbcibeddfacbaaGreat
open Go
theorem y29 (u : Un) (f : Fl) (hg : ∀ g ∈ u.flows, 0 <= g.params /\ g.params <= g.types.length) (x : Nd) (deep : Int) (hd : 0 <= deep /\ deep <= 100) (wh : Wh) (st : List Int) (hs : st.length = f.types.length) (hbo : x.outs.length <= 1073741824) (hbp : x.params.length <= 1073741824) (ih : ∀ q ∈ x.kids, ∀ (w : Wh) (st : List Int), st.length = f.types.length -> SC Tryz.prog 61 [.ptr 3 0, .pv (z07 q), .pv (whv w), iInt (deep + 1)] (ckS u f 3 st) (fun k => k = 3) (iBool (z0n u f (deep + 1) w st q).1) (ckS u f 3 (z0n u f (deep + 1) w st q).2)) : SC Tryz.prog 85 [.ptr 3 0, .pv (ndv x), .pv (whv wh), iInt deep] (ckS u f 3 st) (fun k => k = 3) (iBool (z2n u f deep wh st x).1) (ckS u f 3 (z2n u f deep wh st x).2) := by
  refine SC.of Tryz.func85 rfl (lb rfl) fun F ρ w => ?_
  refine tQ <| tG <| cE rfl (z13 rfl rfl) <| cE rfl (z13 rfl rfl) <| sm 1 rfl <| nL <| tQ <| tBk <| tQ <| tG <| cV rfl (lEA rfl rfl uT43 rfl tS43 (lb rfl)) <| cE rfl (ocq (y23 _) ent100 rfl rfl) ?_
  refine sm 2 rfl <| nL ?_
  refine tC rfl (fun hc9 => ?_) fun hc9 => ?_
  ·refine tQ <| tG <| sm 1 rfl <| nL <| tRt ?_
   have hbare : z0m x = false := by simpa using hc9
   rw [z7k _ _ _ _ _ hbare]
   exact rOk rfl rfl (po2 rfl rfl)
  have hbare : z0m x = true := by simpa using hc9
  refine tQ <| tG <| sm 4 rfl <| nL ?_
  refine tC rfl (fun hc13 => ?_) fun hc13 => ?_
  ·have hk10 : x.kind = 10 := by simpa using hc13
   obtain ⟨ka, kb, hkids⟩ := z30 hbare hk10
   refine tQ <| tG <| sm 1 rfl <| cV rfl (lEA rfl rfl uT43 rfl tS43 (lb rfl)) <| cV rfl (lEA rfl rfl Tryz.underlying104 rfl zk1 (lb rfl)) <| sm 1 rfl <| cV rfl (oB rfl rfl (z05 rfl oM0)) <| cE rfl (ocr (zt1 u f st hs x ka kb hkids wh (deep + 1) hbo ih) ent101 rfl (po2 rfl rfl) rfl (fun k (h : _) => .inr h) rfl rfl) <| sm 1 rfl <| nL <| tRt ?_
   rw [zd3 _ _ _ _ _ hbare hk10 hkids]
   exact rOk rfl rfl (po2 rfl rfl)
  refine tQ <| tG <| sm 4 rfl <| nL ?_
  refine tC rfl (fun hc23 => ?_) fun hc23 => ?_
  ·have hk11 : x.kind = 11 := by simpa using hc23
   obtain ⟨ka, hkids⟩ := z22 hbare hk11
   refine tQ <| tG <| sm 1 rfl <| cV rfl (lEA rfl rfl uT43 rfl tS43 (lb rfl)) <| sm 1 rfl <| cV rfl (oB rfl rfl (z05 rfl oM0)) <| cE rfl (ocr (y28 u f st hs x ka hkids (deep + 1) hbo hbp ih) ent102 rfl (po2 rfl rfl) rfl (fun k (h : _) => .inr h) rfl rfl) <| sm 1 rfl <| nL <| tRt ?_
   rw [z7l _ _ _ _ _ hbare hk11 hkids]
   exact rOk rfl rfl (po2 rfl rfl)
  refine tQ <| tG <| cV rfl (lEA rfl rfl uT43 rfl tS43 (lb rfl)) <| cE rfl (ocq (z6k _) zl1 rfl rfl) <| sm 1 rfl <| nL ?_
  refine tC rfl (fun hc32 => ?_) fun hc32 => ?_
  ·refine tQ <| tG <| sm 1 rfl <| cV rfl (lEA rfl rfl uT43 rfl tS43 (lb rfl)) <| cV rfl (lEA rfl rfl Tryz.underlying104 rfl zk1 (lb rfl)) <| cE rfl (ocr (sc_shEnd u f st hs x wh) ent104 rfl (po2 rfl rfl) rfl (fun k (h : _) => .inr h) rfl rfl) <| sm 1 rfl <| nL <| tRt ?_
   rw [z8u _ _ _ _ _ hbare hc13 hc23 hc32]
   exact rOk rfl rfl (po2 rfl rfl)
  refine tSk <| tQ <| tG <| sm 1 rfl <| cV rfl (lEA rfl rfl uT43 rfl tS43 (lb rfl)) <| cE rfl (ocr (zt3 u f st hs hg x) ent105 rfl (po2 rfl rfl) rfl (fun k (h : _) => .inr h) rfl rfl) <| sm 1 rfl <| nL <| tRt ?_
  rw [z5t _ _ _ _ _ hbare hc13 hc23 hc32]
  exact rOk rfl rfl (po2 rfl rfl)
theorem zj2 (N : Nat) : ∀ (u : Un) (f : Fl) (hg : ∀ g ∈ u.flows, 0 <= g.params /\ g.params <= g.types.length) (l : List Nd) (deep : Int) (hd : 0 <= deep /\ deep <= 101) (wh : Wh) (st : List Int) (hs : st.length = f.types.length) (hb : lsW l <= 1073741824), SizeOf.sizeOf l < N -> SC Tryz.prog 61 [.ptr 3 0, .pv (z07 l), .pv (whv wh), iInt deep] (ckS u f 3 st) (fun k => k = 3) (iBool (z0n u f deep wh st l).1) (ckS u f 3 (z0n u f deep wh st l).2) := by
  induction N with
  | zero => intro u f hg l deep hd wh st hs hb hN; exact absurd hN (Nat.not_lt_zero _)
  | succ N ih =>
    intro u f hg l deep hd wh st hs hb hN
    refine SC.of Tryz.func61 rfl (lb rfl) fun F ρ w => ?_
    refine Tr.lenOf (t := 1) rfl (fun hl => ?_)
    simp only [List.length_map] at hl
    refine tQ <| tG <| cE rfl (z13 rfl rfl) <| sm 1 rfl <| nL <| tQ <| tQ <| tG <| sm 1 rfl <| cV rfl (oSm uT44 rfl) <| sm 1 rfl <| nL ?_
    refine tBk <| Tr.sub (Sub.of (fr' := [(15, iInt 0), (14, iInt l.length), (13, .pv (z07 l)), (6, .pv (.ept [vBool wh.If, vBool wh.Loop, ints wh.Yield, ints wh.Next, ints wh.Left] 0)), (0, .ptr 3 0), (1, .pv (z07 l)), (3, iInt deep)]) ⟨rfl, rfl, rfl, rfl, rfl, rfl, rfl, trivial⟩) ?_
    refine Tr.loop (fun fr σ m => ∃ (k : Nat) (s : List Int), (k <= l.length) /\ (shGo u f deep wh st l = shGo u f deep wh s (l.drop k)) /\ (s.length = f.types.length) /\ fr = [(15, iInt k), (14, iInt l.length), (13, .pv (z07 l)), (6, .pv (.ept [vBool wh.If, vBool wh.Loop, ints wh.Yield, ints wh.Next, ints wh.Left] 0)), (0, .ptr 3 0), (1, .pv (z07 l)), (3, iInt deep)] /\ σ = look (up (ckS u f 3 s)) /\ m = l.length - k) (n := l.length - 0) ?_ ?_
    ·exact ⟨0, st, Nat.zero_le _, rfl, hs, rfl, rfl, rfl⟩
    rintro fr σ m ⟨k, s, hI0, hI1, hI2, rfl, rfl, rfl⟩
    refine tQ <| tG <| sm 1 rfl <| nL <| tQ ?_
    refine tC rfl (fun hc16 => ?_) fun hc16 => ?_
    ·have hlt : k < l.length := by simpa using hc16
     have hd2 := List.drop_eq_getElem_cons hlt
     have hm := List.getElem_mem hlt
     have hi := z20 (List.getElem?_eq_getElem hlt)
     generalize l[k] = x at hd2 hm hi
     have hWx := z81 x
     have hWl := zi4 hm
     have hxo : x.outs.length <= 1073741824 := by omega
     have hxp : x.params.length <= 1073741824 := by omega
     refine tSk <| tQ <| tBk <| tQ <| tG <| sm 1 rfl <| cV rfl (iSq rfl rfl rfl uT44 hi tS43 rfl (by rfl)) <| cV rfl (lEA rfl rfl uT43 rfl tS43 (lb rfl)) <| cE rfl (aLc (k := 110) rfl tZ43 rfl rfl rfl rfl) <| sm 1 rfl <| c0 (sBA rfl rfl rfl rfl rfl sI0 tS43 (flk rfl) (lb rfl)) <| nL ?_
     refine tQ <| Tr.freezeBox (t := 10) (k := 110) rfl rfl rfl ?_
     refine Tr.heap (σ' := look (up (ckS u f 3 s))) (fun k => by
       simp only [look]
       by_cases h : 110 = k
       · subst h; rfl
       · simp [z00 h]) ?_
     refine tG <| sm 3 rfl ?_
     refine wS 22 rfl (fun hb22 => ?_) fun hb22 => ?_
     ·refine sm 17 rfl <| nL <| Tr.condT rfl <| tQ <| tG <| sm 1 rfl <| nL <| tRt ?_
      (have h2 : z0n u f deep wh st l = (false, s) := by
         unfold z0n
         rw [hI1, hd2]
         unfold shGo
         rw [if_pos (by simpa using hb22)]
         simp [andQ]
       rw [h2]
       exact rOk rfl rfl (po2 rfl rfl))
     refine sm 1 rfl <| yV rfl rfl (lEA rfl rfl uT43 rfl tS43 (lb rfl)) <| yV rfl rfl (lEA rfl rfl Tryz.underlying104 rfl zk1 (lb rfl)) <| sm 1 rfl <| WL.yes rfl rfl rfl rfl rfl rfl (cRr (y29 u f hg x deep ⟨hd.1, by simp at hb22; omega⟩ wh s hI2 hxo hxp (fun q hq w st hst => ih u f hg q (deep + 1) ⟨by omega, by simp at hb22; omega⟩ w st hst (by have := z8k hq; omega) (Nat.lt_of_lt_of_le (z62 hm rfl hq) (Nat.le_of_lt_succ hN)))) ent85 rfl rfl (sRf _ _) (po2 rfl rfl) (by rfl) (fun k (h : _) => .inr h) rfl (by rfl)) <| sm 3 rfl ?_
     refine wS 30 rfl (fun hb30 => ?_) fun hb30 => ?_
     ·refine sm 9 rfl <| nL <| Tr.condT rfl <| tQ <| tG <| sm 1 rfl <| nL <| tRt ?_
      (have h2 : z0n u f deep wh st l = (false, (z2n u f deep wh s x).2) := by
         unfold z0n
         rw [hI1, hd2]
         unfold shGo
         rw [if_neg (by simpa using hb22)]
         have hn1 : (z2n u f deep wh s x).1 = false := by simpa using hb30
         simp [andQ, hn1]
       rw [h2]
       exact rOk rfl rfl (po2 rfl rfl))
     refine yV rfl rfl (lEA rfl rfl uT43 rfl tS43 (lb rfl)) <| WL.yes rfl rfl rfl rfl rfl rfl (z0r (z7j x) ent86 rfl rfl (sRf _ _) rfl) <| sm 2 rfl <| yV rfl rfl (oSm uT44 rfl) <| yV rfl rfl (oB rfl rfl (za5 rfl oM0)) <| sm 1 rfl <| yV rfl rfl (zb4 rfl rfl rfl Tryz.underlying4) <| sm 1 rfl <| nL ?_
     refine tC rfl (fun hc39 => ?_) fun hc39 => ?_
     ·refine tQ <| tG <| sm 1 rfl <| nL <| tRt ?_
      (have h2 : z0n u f deep wh st l = (false, (z2n u f deep wh s x).2) := by
         unfold z0n
         rw [hI1, hd2]
         unfold shGo
         rw [if_neg (by simpa using hb22)]
         have hn1 : (z2n u f deep wh s x).1 = true := by simpa using hb30
         have hcl : (z0e x != (l.drop (k + 1)).isEmpty) = true := by rw [z4x hlt]; simpa using hc39
         simp [andQ, hn1, hcl]
       rw [h2]
       exact rOk rfl rfl (po2 rfl rfl))
     refine tSk <| tG <| cV rfl (oB rfl rfl (z05 rfl oM0)) <| sm 1 rfl <| nL ?_
     refine ⟨_, _, ?_, Sub.of (fr' := [(15, iInt (k + 1)), (14, iInt l.length), (13, .pv (z07 l)), (6, .pv (.ept [vBool wh.If, vBool wh.Loop, ints wh.Yield, ints wh.Next, ints wh.Left] 0)), (0, .ptr 3 0), (1, .pv (z07 l)), (3, iInt deep)]) ⟨rfl, rfl, rfl, rfl, rfl, rfl, rfl, trivial⟩, (k + 1), (z2n u f deep wh s x).2, ?_, ?_, ?_, rfl, (z1q rfl), rfl⟩
     ·omega
     ·omega
     ·rw [hI1, hd2]
      have hn1 : (z2n u f deep wh s x).1 = true := by simpa using hb30
      have hcl : (z0e x != (l.drop (k + 1)).isEmpty) = false := by rw [z4x hlt]; simpa using hc39
      have hdp : ¬ deep > 100 := by simpa using hb22
      conv => lhs; unfold shGo
      simp only [if_neg hdp, andQ, hn1, hcl, if_true]
      rfl
     exact (z8c ..).trans hI2
    refine tEx <| tQ <| tQ ?_
    have hgo2 : shGo u f deep wh st l = (true, s) := by rw [hI1, List.drop_eq_nil_of_le (by simpa using hc16)]; simp [shGo]
    have hgo : (shGo u f deep wh st l).1 = true := by rw [hgo2]
    have hs0 := hI2
    generalize s = s0 at hgo2 hs0 ⊢
    refine tG <| sm 1 rfl <| cV rfl (oSm uT44 rfl) <| sm 1 rfl <| nL <| tBk <| Tr.sub (Sub.of (fr' := [(43, iInt 0), (42, iInt l.length), (41, .pv (z07 l)), (0, .ptr 3 0), (1, .pv (z07 l))]) ⟨rfl, rfl, rfl, rfl, rfl, trivial⟩) ?_
    refine Tr.loop (fun fr σ m => ∃ (k : Nat) (s : List Int), (k <= l.length) /\ (z4p s0 l = z4p s (l.drop k)) /\ (s.length = f.types.length) /\ fr = [(43, iInt k), (42, iInt l.length), (41, .pv (z07 l)), (0, .ptr 3 0), (1, .pv (z07 l))] /\ σ = look (up (ckS u f 3 s)) /\ m = l.length - k) (n := l.length - 0) ?_ ?_
    ·exact ⟨0, s0, Nat.zero_le _, rfl, hs0, rfl, rfl, rfl⟩
    rintro fr σ m ⟨k, s, hJ0, hJ1, hJ2, rfl, rfl, rfl⟩
    refine tQ <| tG <| sm 1 rfl <| nL <| tQ ?_
    refine tC rfl (fun hc44 => ?_) fun hc44 => ?_
    ·have hlt : k < l.length := by simpa using hc44
     have hd2 := List.drop_eq_getElem_cons hlt
     have hm := List.getElem_mem hlt
     have hi := z20 (List.getElem?_eq_getElem hlt)
     generalize l[k] = x at hd2 hm hi
     refine tSk <| tQ <| tBk <| tQ <| tG <| cV rfl (iSq rfl rfl rfl uT44 hi tS43 rfl (by rfl)) <| cV rfl (lEA rfl rfl uT43 rfl tS43 (lb rfl)) <| cE rfl (aLc (k := 112) rfl tZ43 rfl rfl rfl rfl) <| c0 (sBA rfl rfl rfl rfl rfl sI0 tS43 (flk rfl) (lb rfl)) <| nL <| Tr.freezeBox (t := 12) (k := 112) rfl rfl rfl ?_
     refine Tr.heap (σ' := look (up (ckS u f 3 s))) (fun k => by
       simp only [look]
       by_cases h : 112 = k
       · subst h; rfl
       · simp [z00 h]) ?_
     refine tG <| sm 3 rfl <| cE rfl (ocr (zp1 u f s hJ2 x.outs (zp8 hgo x hm)) ent87 rfl (po2 rfl rfl) rfl (fun k (h : _) => .inr h) rfl rfl) <| nL <| tG <| cV rfl (oB rfl rfl (z05 rfl oM0)) <| sm 1 rfl <| nL ?_
     refine ⟨_, _, ?_, Sub.of (fr' := [(43, iInt (k + 1)), (42, iInt l.length), (41, .pv (z07 l)), (0, .ptr 3 0), (1, .pv (z07 l))]) ⟨rfl, rfl, rfl, rfl, rfl, trivial⟩, (k + 1), (z1v s x.outs), ?_, ?_, ?_, rfl, (z1q rfl), rfl⟩
     ·omega
     ·omega
     ·rw [hJ1, hd2]; rfl
     exact (z3h ..).trans hJ2
    refine tEx <| tQ <| tG <| sm 1 rfl <| cV rfl (oSm uT44 rfl) <| sm 2 rfl <| nL <| tRt ?_
    have hge : l.length <= k := by simpa using hc44
    have h2 : z0n u f deep wh st l = (decide ((l.length : Int) > 0), s) := by
      unfold z0n
      rw [hgo2]
      simp only [andQ, if_true, zp7, hJ1, List.drop_eq_nil_of_le hge]
      rfl
    rw [h2]
    exact rOk rfl rfl (po2 rfl rfl)
theorem y27 (u : Un) (f : Fl) (hg : ∀ g ∈ u.flows, 0 <= g.params /\ g.params <= g.types.length) (l : List Nd) (deep : Int) (hd : 0 <= deep /\ deep <= 101) (wh : Wh) (st : List Int) (hs : st.length = f.types.length) (hb : lsW l <= 1073741824) : SC Tryz.prog 61 [.ptr 3 0, .pv (z07 l), .pv (whv wh), iInt deep] (ckS u f 3 st) (fun k => k = 3) (iBool (z0n u f deep wh st l).1) (ckS u f 3 (z0n u f deep wh st l).2) := zj2 _ u f hg l deep hd wh st hs hb (Nat.lt_succ_self _)
def z6l (k n : Nat) : List Int := List.replicate k 1 ++ List.replicate (n - k) 0
def z77 (u : Un) (f : Fl) : Bool := !(decide (f.params > 8) || decide ((f.types.length : Int) > 20000) || f.types.any (fun t => !isTy t)) && (z0n u f 1 z33 (z6l f.params.toNat f.types.length) f.body).1
theorem z6m {k n : Nat} (h : k <= n) : (z6l k n).length = n := by simp [z6l]; omega
theorem y2h {k n : Nat} (h : k < n) : (z6l k n).set k 1 = z6l (k + 1) n := by
  unfold z6l
  rw [List.set_append_right _ _ sI0, List.length_replicate, Nat.sub_self]
  have : n - k = (n - (k + 1)) + 1 := by omega
  rw [this, List.replicate_succ, List.set_cons_zero, List.replicate_succ', List.append_assoc]
  rfl
def bump (s : ByteArray) (es : List (Value × PV)) : List (Value × PV) :=
  mput (.string s) (match z3t (.string s) es with | some (.val (.int .i64 n)) => .val (.int .i64 (IntKind.i64.wrap (n + 1))) | _ => .val (.int .i64 1)) es
def z67 (a : Ar) : Bool := z3r a.name && !decide (a.size < 1) && !decide (a.size > 1000)
def z4w (f : Fl) : Bool := z3r f.name && isTy f.ty && !decide (f.params < 0) && !decide (f.params > f.types.length)
def z93 (es : List (Value × PV)) (l : List Ar) : List (Value × PV) := l.foldl (fun e a => bump a.name e) es
def z9y (es : List (Value × PV)) (l : List Fl) : List (Value × PV) := l.foldl (fun e a => bump a.name e) es
def z31 (u : Un) : Bool := u.arrays.all z67 && u.flows.all z4w && ((z9y (z93 [] u.arrays) u.flows).length : Int) == u.arrays.length + u.flows.length && z76 u
def z5v (u : Un) : List Fl -> Int -> Int × Int
  | [], _ => (0, 0)
  | f :: r, i => if z77 u f then z5v u r (i + 1) else (80, i)
def z2m (u : Un) : Int × Int := if z31 u then z5v u u.flows 0 else (1, 0)
theorem z5r {u : Un} (h : z31 u = true) : ∀ g ∈ u.flows, 0 <= g.params /\ g.params <= g.types.length := by
  simp only [z31, Bool.and_eq_true, List.all_eq_true] at h
  intro g hg
  have := h.1.1.2 g hg
  simp only [z4w, Bool.and_eq_true, Bool.not_eq_true', decide_eq_false_iff_not] at this
  omega
theorem y24 (u : Un) (f : Fl) (hg : ∀ g ∈ u.flows, 0 <= g.params /\ g.params <= g.types.length) (hp : 0 <= f.params /\ f.params <= f.types.length) (hb : lsW f.body <= 536870912) : SC Tryz.prog 38 [.pv u.enc, .pv (.agg f.enc)] [] (fun _ => False) (iBool (z77 u f)) [] := by
  refine SC.of Tryz.func38 rfl (lb rfl) fun F ρ w => ?_
  refine tQ <| tG <| cE rfl (z13 rfl rfl) <| cE rfl (z13 rfl rfl) <| sm 1 rfl <| nL <| tQ <| tQ <| tG <| sm 4 rfl ?_
  refine wS 10 rfl (fun hb10 => ?_) fun hb10 => ?_
  ·refine sm 10 rfl <| nL <| Tr.condT rfl <| tQ <| tG <| sm 1 rfl <| nL <| tRt <| rOk rfl ?_ nPo
   have hno : (decide (f.params > 8) || decide ((f.types.length : Int) > 20000) || f.types.any (fun t => !isTy t)) = true := by
     simp_all
   simp only [z77, hno, Bool.not_true, Bool.false_and]
  refine sm 2 rfl <| yV rfl rfl (oSm uT35 rfl) <| sm 3 rfl ?_
  refine wS 16 rfl (fun hb16 => ?_) fun hb16 => ?_
  ·refine sm 4 rfl <| nL <| Tr.condT rfl <| tQ <| tG <| sm 1 rfl <| nL <| tRt <| rOk rfl ?_ nPo
   have hno : (decide (f.params > 8) || decide ((f.types.length : Int) > 20000) || f.types.any (fun t => !isTy t)) = true := by
     simp_all
   simp only [z77, hno, Bool.not_true, Bool.false_and]
  refine sm 2 rfl <| WL.yes rfl rfl rfl rfl rfl rfl (z0r (zz2 60 [] [] rfl ent60 (fun t => !isTy t) f.types (fun x hm => (sc_flow1 x).anyR)) ent59 rfl rfl (sSm rfl (Subs.cons (fun _ _ _ _ h => zk0 h) Subs.nil)) rfl) <| sm 1 rfl <| nL ?_
  refine tC rfl (fun hc20 => ?_) fun hc20 => ?_
  ·refine tQ <| tG <| sm 1 rfl <| nL <| tRt <| rOk rfl ?_ nPo
   have hno : (decide (f.params > 8) || decide ((f.types.length : Int) > 20000) || f.types.any (fun t => !isTy t)) = true := by
     simp_all
   simp only [z77, hno, Bool.not_true, Bool.false_and]
  ·have hpar : f.params <= 8 /\ f.types.length <= 20000 := by
     (simp_all <;> omega)
   have hpt : f.params.toNat <= f.types.length := by omega
   have hpi : f.params = (f.params.toNat : Int) := by omega
   have hno : (decide (f.params > 8) || decide ((f.types.length : Int) > 20000) || f.types.any (fun t => !isTy t)) = false := by
     clear hpi
     simp_all
   refine tSk <| tQ <| tDr z15 (fun k => k < 3) <| wR 4 [0, 1, 2, 3, 4] kR0 h30 <| rV rfl rfl (lEA rfl rfl uT25 rfl tS25 (lb rfl)) <| rV rfl rfl (lEA rfl rfl Tryz.underlying51 rfl tS51 (lb rfl)) <| smR 2 rfl <| rV rfl rfl (oSm uT35 rfl) <| nR <| wO 5 kR0 <| wI rfl rfl nf (z10 rfl) (fun _ _ => z0y (k := 4) (s := ⟨3, 1⟩) rfl rfl rfl uT35 tZ3 tC3 rfl dC0 oM0 oM0 rfl rfl rfl rfl) <| wR 2 [6] kR0 h30 ?_
   refine rV rfl rfl (by exact z84 rfl rfl tZ101 tP101 rfl (z6a (by (simp [zu7, firm1, look, PV.one]; exact ⟨_, _, ⟨rfl, rfl⟩, by simp⟩)))) <| nR <| wO 7 kR0 <| wI rfl rfl nf (z10 rfl) (fun _ _ => z4j (k := 3) rfl rfl rfl rfl rfl rfl rfl) <| wR 0 [8] kR0 h30 <| smR 1 rfl <| nR <| wDn kR0 <| tQ <| tQ <| tG <| sm 3 rfl ?_
   refine nL <| tBk <| Tr.sub (Sub.of (fr' := [(31, iInt 0), (30, iInt f.params), (5, .ptr 3 0), (2, .pv (.ept [arrs u.arrays, flws u.flows] 0)), (3, .pv (.ept [vStr f.name, vInt f.ty, vInt f.params, ints f.types, z07 f.body] 0))]) ⟨rfl, rfl, rfl, rfl, rfl, trivial⟩) ?_
   refine Tr.heap (σ' := look (up (ckS u f 3 (z6l 0 f.types.length)))) (fun k => by
  rw [show (z6l 0 f.types.length) = List.replicate f.types.length 0 by simp [z6l]]
  simp only [ckS, up, List.map_cons, List.map_nil, look, List.length_map, List.length_replicate, List.map_replicate]
  by_cases h3 : 3 = k
  · subst h3; rfl
  · by_cases h4 : 4 = k
    · subst h4; rfl
    · simp [z00 h3, z00 h4]) ?_
   refine Tr.loop (fun fr σ m => ∃ (k : Nat), (k <= f.params.toNat) /\ fr = [(31, iInt k), (30, iInt f.params), (5, .ptr 3 0), (2, .pv (.ept [arrs u.arrays, flws u.flows] 0)), (3, .pv (.ept [vStr f.name, vInt f.ty, vInt f.params, ints f.types, z07 f.body] 0))] /\ σ = look (up (ckS u f 3 (z6l k f.types.length))) /\ m = f.params.toNat - k) (n := f.params.toNat - 0) ?_ ?_
   ·exact ⟨0, Nat.zero_le _, rfl, rfl, rfl⟩
   rintro fr σ m ⟨k, hI0, rfl, rfl, rfl⟩
   refine tQ <| tG <| sm 1 rfl <| nL <| tQ ?_
   refine tC rfl (fun hc32 => ?_) fun hc32 => ?_
   ·have hkp : k < f.params.toNat := by simp at hc32; omega
    have hkt : k < f.types.length := by omega
    have hst : ((z6l k f.types.length).map eInt)[k]? = some [vInt 0] := by
      rw [List.getElem?_map]
      simp only [z6l]
      rw [List.getElem?_append_right sI0]
      simp [List.getElem?_replicate, eInt]
      omega
    have hstl : k < ((z6l k f.types.length).map eInt).length := by rw [List.length_map, z6m oM0]; exact hkt
    refine tSk <| tQ <| tBk <| tQ <| tG <| sm 2 rfl <| nL <| tG <| sm 1 rfl <| cV rfl (nCk rfl rfl rfl) <| sm 3 rfl <| cV rfl (iRw rfl rfl rfl rfl rfl uT35 tS3 (by assumption) (by rfl)) ?_
    refine c0 (z1l rfl rfl rfl rfl rfl (Nat.add_zero _).symm (by assumption) sI0 tS3 rfl ((fun h => h))) <| nL <| tG <| cV rfl (oB rfl rfl (z05 rfl oM0)) <| sm 1 rfl <| nL ?_
    refine ⟨_, _, ?_, Sub.of (fr' := [(31, iInt (k + 1)), (30, iInt f.params), (5, .ptr 3 0), (2, .pv (.ept [arrs u.arrays, flws u.flows] 0)), (3, .pv (.ept [vStr f.name, vInt f.ty, vInt f.params, ints f.types, z07 f.body] 0))]) ⟨rfl, rfl, rfl, rfl, rfl, trivial⟩, (k + 1), ?_, rfl, (by rw [<- y2h hkt]; exact funext y0j), rfl⟩
    all_goals omega
   refine tEx <| tQ ?_
   have hkp : k = f.params.toNat := by simp at hc32; omega
   subst hkp
   refine tG <| sm 3 rfl <| cV rfl (bPu rfl rfl zt7 tP104 rfl (fbk rfl) rfl) <| cE rfl (cRr (y27 u f hg f.body 1 ⟨by omega, by omega⟩ z33 (z6l f.params.toNat f.types.length) (z6m hpt) oM0) ent61 rfl rfl (sSm rfl (sSm rfl (Subs.cons (fun _ _ _ _ h => z42 (q := whv z33) (PSub.agg (ps := [vBool false, vBool false, .val (.slice none 0 0), .val (.slice none 0 0), .val (.slice none 0 0)]) (And.intro (PSub.refl _) (And.intro (PSub.refl _) (And.intro PSub.nil (And.intro PSub.nil (And.intro PSub.nil trivial)))))) h) (sSm rfl Subs.nil)))) (po2 rfl rfl) (by rfl) (fun k (h : _) => (show False from h).elim) rfl (by rfl)) <| sm 1 rfl <| nL <| tRt <| rOk rfl ?_ nPo
   simp only [z77, hno, Bool.not_false, Bool.true_and]
theorem z8f {α : Type} {p : α -> Bool} : ∀ {l : List α} {k : Nat} {x : α}, (l.take k).all p = true -> l[k]? = some x -> p x = false -> (l.takeWhile p).length = k /\ l.all p = false
  | [], k, x, _, h, _ => by simp at h
  | a :: r, 0, x, _, h, hx => by
    simp only [List.getElem?_cons_zero, Option.some.injEq] at h
    subst h
    simp [hx]
  | a :: r, k + 1, x, h, hg, hx => by
    simp only [List.take_succ_cons, List.all_cons, Bool.and_eq_true] at h
    obtain ⟨h1, h2⟩ := z8f h.2 (by simpa using hg) hx
    simp [h.1, h1, h2]
def zy4 (s : ByteArray) : ByteArray := if s.toList.all isLD then s else s.extract 0 (s.toList.takeWhile isLD).length
theorem runOf_at {s : ByteArray} {k : Nat} {b : UInt8} (h : (s.toList.take k).all isLD = true) (hb : s.toList[k]? = some b) (hn : isLD b = false) : zy4 s = s.extract 0 k := by
  obtain ⟨h1, h2⟩ := z8f h hb hn
  simp [zy4, h1, h2]
theorem runOf_eq (s : ByteArray) : ((zy4 s).toList == s.toList) = s.toList.all isLD := by
  unfold zy4
  cases h : s.toList.all isLD with
  | true => simp
  | false =>
    simp only [Bool.false_eq_true, if_false]
    have hlt : (s.toList.takeWhile isLD).length < s.toList.length := by
      rcases Nat.lt_or_ge (s.toList.takeWhile isLD).length s.toList.length with h1 | h1
      ·exact h1
      have hp := List.takeWhile_prefix (l := s.toList) isLD
      have he := hp.eq_of_length_le h1
      have : s.toList.all isLD = true := by rw [<- he]; exact List.all_takeWhile
      rw [h] at this; cases this
    have hne : (s.extract 0 (s.toList.takeWhile isLD).length).toList ≠ s.toList := by
      intro he
      have := congrArg List.length he
      rw [z74, ByteArray.size_extract, z74] at this
      rw [z74] at hlt
      omega
    simpa using hne
theorem zw4 {s : ByteArray} {k : Nat} (h : k < s.toList.length) : ((s.toList[k]).toNat < 128 -> Utf8.decode s k = ((s.toList[k]).toNat, 1)) /\ (128 <= (s.toList[k]).toNat -> 128 <= (Utf8.decode s k).1) := by
  have hk : k < s.size := by rwa [z74] at h
  have e0 : s.get! (k + 0) = s.toList[k] := by
    have h2 := zu3 h
    rw [getElem?_pos s k hk] at h2
    rw [<- Option.some.inj h2]
    show s.get! k = _
    simp [ByteArray.get!, getElem!_pos, hk]
    rfl
  refine ⟨fun hb => ?_, fun hb => ?_⟩
  ·simp only [Utf8.decode, e0, hb, if_true]
  have hn : ¬ (s.toList[k]).toNat < 128 := by omega
  simp only [Utf8.decode, e0]
  rw [if_neg (by simpa using hn)]
  repeat' split
  all_goals first
    | (simp [Utf8.runeError]; done)
    | (rename_i hc; simp only [ge_iff_le, Bool.and_eq_true, decide_eq_true_eq] at hc; simp only; omega)
def ze5 (r : Int) : Bool := z1m r || z5k r
theorem zm1 {r : Int} (h : ze5 r = true) : r < 128 := by
  simp only [ze5, z1m, z5k, Bool.or_eq_true, Bool.and_eq_true, decide_eq_true_eq, beq_iff_eq] at h
  omega
theorem za0 {s : ByteArray} {k : Nat} (h : k < s.toList.length) : (ze5 (Utf8.decode s k).1 = true -> (Utf8.decode s k).2 = 1 /\ isLD s.toList[k] = true) /\ (ze5 (Utf8.decode s k).1 = false -> isLD s.toList[k] = false) := by
  obtain ⟨h1, h2⟩ := zw4 h
  by_cases hb : (s.toList[k]).toNat < 128
  ·rw [h1 hb]
   exact ⟨fun h => ⟨rfl, h⟩, fun h => h⟩
  have h3 := h2 oM0
  refine ⟨fun hl => ?_, fun _ => ?_⟩
  ·have := zm1 hl; omega
  cases hd : isLD s.toList[k] with
  | false => rfl
  | true => have := zm1 (r := ((s.toList[k]).toNat : Int)) hd; omega
theorem zd2 (n : Int) : SC Tryz.prog 79 [.pv (.val (.int .i32 n))] [] (fun _ => False) (iBool (z1m n)) [] := by
  refine SC.of Tryz.func79 rfl (lb rfl) fun F ρ w => ?_
  refine tQ <| tG <| sm 1 rfl <| nL <| tQ <| tG <| sm 3 rfl ?_
  refine wS 5 rfl (fun hb5 => ?_) fun hb5 => ?_
  ·refine sm 4 rfl ?_
   refine wS 9 rfl (fun hb9 => ?_) fun hb9 => ?_
   ·refine sm 3 rfl <| nUu rfl rfl rfl rfl rfl rfl <| nUu rfl rfl rfl rfl rfl rfl <| sm 7 rfl <| nL <| tRt <| rOk rfl ?_ nPo
    unfold z1m
    first | (simp_all; done) | (simp_all <;> omega)
   refine sm 3 rfl ?_
   refine wS 12 rfl (fun hb12 => ?_) fun hb12 => ?_
   ·refine sm 5 rfl ?_
    refine wS 17 rfl (fun hb17 => ?_) fun hb17 => ?_
    ·refine sm 4 rfl <| nL <| tRt <| rOk rfl ?_ nPo
     unfold z1m
     first | (simp_all; done) | (simp_all <;> omega)
    refine sm 4 rfl <| nL <| tRt <| rOk rfl ?_ nPo
    unfold z1m
    first | (simp_all; done) | (simp_all <;> omega)
   refine sm 9 rfl <| nL <| tRt <| rOk rfl ?_ nPo
   unfold z1m
   first | (simp_all; done) | (simp_all <;> omega)
  refine sm 7 rfl ?_
  refine wS 12 rfl (fun hb12 => ?_) fun hb12 => ?_
  ·refine sm 5 rfl ?_
   refine wS 17 rfl (fun hb17 => ?_) fun hb17 => ?_
   ·refine sm 4 rfl <| nL <| tRt <| rOk rfl ?_ nPo
    unfold z1m
    first | (simp_all; done) | (simp_all <;> omega)
   refine sm 4 rfl <| nL <| tRt <| rOk rfl ?_ nPo
   unfold z1m
   first | (simp_all; done) | (simp_all <;> omega)
  refine sm 9 rfl <| nL <| tRt <| rOk rfl ?_ nPo
  unfold z1m
  first | (simp_all; done) | (simp_all <;> omega)
theorem y03 (n : Int) : SC Tryz.prog 99 [.pv (.val (.int .i32 n))] [] (fun _ => False) (iBool (z5k n)) [] := by
  refine SC.of Tryz.func99 rfl (lb rfl) fun F ρ w => ?_
  refine tQ <| tG <| sm 1 rfl <| nL <| tQ <| tG <| sm 3 rfl ?_
  refine wS 5 rfl (fun hb5 => ?_) fun hb5 => ?_
  ·refine sm 4 rfl <| nL <| tRt <| rOk rfl ?_ nPo
   unfold z5k
   first | (simp_all; done) | (simp_all <;> omega)
  refine sm 4 rfl <| nL <| tRt <| rOk rfl ?_ nPo
  unfold z5k
  first | (simp_all; done) | (simp_all <;> omega)
theorem y2e (s : ByteArray) : SC Tryz.prog 81 [iStr s] [] (fun _ => False) (iBool (z0o s)) [] := by
  refine SC.of Tryz.func81 rfl (lb rfl) fun F ρ w => ?_
  refine tQ <| tG <| sm 1 rfl <| nL <| tQ <| tQ <| tG <| sm 1 rfl <| nL <| tBk <| tQ <| tQ ?_
  refine tG <| cV rfl (bSt rfl rfl rfl rfl) <| sm 1 rfl <| nL ?_
  refine tC rfl (fun hc4 => ?_) fun hc4 => ?_
  ·refine tSk ?_
   refine tC rfl (fun hc4 => ?_) fun hc4 => ?_
   ·refine tQ <| tG <| sm 1 rfl <| nL <| tRt <| rOk rfl ?_ nPo
    refine congrArg (fun b => iBool b) ?_
    simp_all [z0o]
   refine tSk <| tQ <| tG <| sm 1 rfl <| nL <| tRt <| rOk rfl ?_ nPo
   refine congrArg (fun b => iBool b) ?_
   simp_all [z0o]
  refine tQ <| tG <| cV rfl (bSt rfl rfl rfl rfl) <| sm 1 rfl <| nL ?_
  refine tC rfl (fun hc4 => ?_) fun hc4 => ?_
  ·refine tSk ?_
   refine tC rfl (fun hc4 => ?_) fun hc4 => ?_
   ·refine tQ <| tG <| sm 1 rfl <| nL <| tRt <| rOk rfl ?_ nPo
    refine congrArg (fun b => iBool b) ?_
    simp_all [z0o]
   refine tSk <| tQ <| tG <| sm 1 rfl <| nL <| tRt <| rOk rfl ?_ nPo
   refine congrArg (fun b => iBool b) ?_
   simp_all [z0o]
  refine tQ <| tG <| cV rfl (bSt rfl rfl rfl rfl) <| sm 1 rfl <| nL ?_
  refine tC rfl (fun hc4 => ?_) fun hc4 => ?_
  ·refine tSk ?_
   refine tC rfl (fun hc4 => ?_) fun hc4 => ?_
   ·refine tQ <| tG <| sm 1 rfl <| nL <| tRt <| rOk rfl ?_ nPo
    refine congrArg (fun b => iBool b) ?_
    simp_all [z0o]
   refine tSk <| tQ <| tG <| sm 1 rfl <| nL <| tRt <| rOk rfl ?_ nPo
   refine congrArg (fun b => iBool b) ?_
   simp_all [z0o]
  refine tQ <| tG <| cV rfl (bSt rfl rfl rfl rfl) <| sm 1 rfl <| nL ?_
  refine tC rfl (fun hc4 => ?_) fun hc4 => ?_
  ·refine tSk ?_
   refine tC rfl (fun hc4 => ?_) fun hc4 => ?_
   ·refine tQ <| tG <| sm 1 rfl <| nL <| tRt <| rOk rfl ?_ nPo
    refine congrArg (fun b => iBool b) ?_
    simp_all [z0o]
   refine tSk <| tQ <| tG <| sm 1 rfl <| nL <| tRt <| rOk rfl ?_ nPo
   refine congrArg (fun b => iBool b) ?_
   simp_all [z0o]
  refine tQ <| tG <| cV rfl (bSt rfl rfl rfl rfl) <| sm 1 rfl <| nL ?_
  refine tC rfl (fun hc4 => ?_) fun hc4 => ?_
  ·refine tSk ?_
   refine tC rfl (fun hc4 => ?_) fun hc4 => ?_
   ·refine tQ <| tG <| sm 1 rfl <| nL <| tRt <| rOk rfl ?_ nPo
    refine congrArg (fun b => iBool b) ?_
    simp_all [z0o]
   refine tSk <| tQ <| tG <| sm 1 rfl <| nL <| tRt <| rOk rfl ?_ nPo
   refine congrArg (fun b => iBool b) ?_
   simp_all [z0o]
  refine tQ <| tG <| cV rfl (bSt rfl rfl rfl rfl) <| sm 1 rfl <| nL ?_
  refine tC rfl (fun hc4 => ?_) fun hc4 => ?_
  ·refine tSk ?_
   refine tC rfl (fun hc4 => ?_) fun hc4 => ?_
   ·refine tQ <| tG <| sm 1 rfl <| nL <| tRt <| rOk rfl ?_ nPo
    refine congrArg (fun b => iBool b) ?_
    simp_all [z0o]
   refine tSk <| tQ <| tG <| sm 1 rfl <| nL <| tRt <| rOk rfl ?_ nPo
   refine congrArg (fun b => iBool b) ?_
   simp_all [z0o]
  refine tQ <| tG <| cV rfl (bSt rfl rfl rfl rfl) <| sm 1 rfl <| nL ?_
  refine tC rfl (fun hc4 => ?_) fun hc4 => ?_
  ·refine tSk ?_
   refine tC rfl (fun hc4 => ?_) fun hc4 => ?_
   ·refine tQ <| tG <| sm 1 rfl <| nL <| tRt <| rOk rfl ?_ nPo
    refine congrArg (fun b => iBool b) ?_
    simp_all [z0o]
   refine tSk <| tQ <| tG <| sm 1 rfl <| nL <| tRt <| rOk rfl ?_ nPo
   refine congrArg (fun b => iBool b) ?_
   simp_all [z0o]
  refine tQ <| tG <| cV rfl (bSt rfl rfl rfl rfl) <| sm 1 rfl <| nL ?_
  refine tC rfl (fun hc4 => ?_) fun hc4 => ?_
  ·refine tSk ?_
   refine tC rfl (fun hc4 => ?_) fun hc4 => ?_
   ·refine tQ <| tG <| sm 1 rfl <| nL <| tRt <| rOk rfl ?_ nPo
    refine congrArg (fun b => iBool b) ?_
    simp_all [z0o]
   refine tSk <| tQ <| tG <| sm 1 rfl <| nL <| tRt <| rOk rfl ?_ nPo
   refine congrArg (fun b => iBool b) ?_
   simp_all [z0o]
  refine tQ <| tG <| cV rfl (bSt rfl rfl rfl rfl) <| sm 1 rfl <| nL ?_
  refine tC rfl (fun hc4 => ?_) fun hc4 => ?_
  ·refine tSk ?_
   refine tC rfl (fun hc4 => ?_) fun hc4 => ?_
   ·refine tQ <| tG <| sm 1 rfl <| nL <| tRt <| rOk rfl ?_ nPo
    refine congrArg (fun b => iBool b) ?_
    simp_all [z0o]
   refine tSk <| tQ <| tG <| sm 1 rfl <| nL <| tRt <| rOk rfl ?_ nPo
   refine congrArg (fun b => iBool b) ?_
   simp_all [z0o]
  refine tQ <| tG <| cV rfl (bSt rfl rfl rfl rfl) <| sm 1 rfl <| nL ?_
  refine tC rfl (fun hc4 => ?_) fun hc4 => ?_
  ·refine tSk ?_
   refine tC rfl (fun hc4 => ?_) fun hc4 => ?_
   ·refine tQ <| tG <| sm 1 rfl <| nL <| tRt <| rOk rfl ?_ nPo
    refine congrArg (fun b => iBool b) ?_
    simp_all [z0o]
   refine tSk <| tQ <| tG <| sm 1 rfl <| nL <| tRt <| rOk rfl ?_ nPo
   refine congrArg (fun b => iBool b) ?_
   simp_all [z0o]
  refine tQ <| tG <| cV rfl (bSt rfl rfl rfl rfl) <| sm 1 rfl <| nL ?_
  refine tC rfl (fun hc4 => ?_) fun hc4 => ?_
  ·refine tSk ?_
   refine tC rfl (fun hc4 => ?_) fun hc4 => ?_
   ·refine tQ <| tG <| sm 1 rfl <| nL <| tRt <| rOk rfl ?_ nPo
    refine congrArg (fun b => iBool b) ?_
    simp_all [z0o]
   refine tSk <| tQ <| tG <| sm 1 rfl <| nL <| tRt <| rOk rfl ?_ nPo
   refine congrArg (fun b => iBool b) ?_
   simp_all [z0o]
  refine tQ <| tG <| cV rfl (bSt rfl rfl rfl rfl) <| sm 1 rfl <| nL ?_
  refine tC rfl (fun hc4 => ?_) fun hc4 => ?_
  ·refine tSk ?_
   refine tC rfl (fun hc4 => ?_) fun hc4 => ?_
   ·refine tQ <| tG <| sm 1 rfl <| nL <| tRt <| rOk rfl ?_ nPo
    refine congrArg (fun b => iBool b) ?_
    simp_all [z0o]
   refine tSk <| tQ <| tG <| sm 1 rfl <| nL <| tRt <| rOk rfl ?_ nPo
   refine congrArg (fun b => iBool b) ?_
   simp_all [z0o]
  refine tQ <| tG <| cV rfl (bSt rfl rfl rfl rfl) <| sm 1 rfl <| nL ?_
  refine tC rfl (fun hc4 => ?_) fun hc4 => ?_
  ·refine tSk ?_
   refine tC rfl (fun hc4 => ?_) fun hc4 => ?_
   ·refine tQ <| tG <| sm 1 rfl <| nL <| tRt <| rOk rfl ?_ nPo
    refine congrArg (fun b => iBool b) ?_
    simp_all [z0o]
   refine tSk <| tQ <| tG <| sm 1 rfl <| nL <| tRt <| rOk rfl ?_ nPo
   refine congrArg (fun b => iBool b) ?_
   simp_all [z0o]
  refine tQ <| tG <| cV rfl (bSt rfl rfl rfl rfl) <| sm 1 rfl <| nL ?_
  refine tC rfl (fun hc4 => ?_) fun hc4 => ?_
  ·refine tSk ?_
   refine tC rfl (fun hc4 => ?_) fun hc4 => ?_
   ·refine tQ <| tG <| sm 1 rfl <| nL <| tRt <| rOk rfl ?_ nPo
    refine congrArg (fun b => iBool b) ?_
    simp_all [z0o]
   refine tSk <| tQ <| tG <| sm 1 rfl <| nL <| tRt <| rOk rfl ?_ nPo
   refine congrArg (fun b => iBool b) ?_
   simp_all [z0o]
  refine tQ <| tG <| cV rfl (bSt rfl rfl rfl rfl) <| sm 1 rfl <| nL ?_
  refine tC rfl (fun hc4 => ?_) fun hc4 => ?_
  ·refine tSk ?_
   refine tC rfl (fun hc4 => ?_) fun hc4 => ?_
   ·refine tQ <| tG <| sm 1 rfl <| nL <| tRt <| rOk rfl ?_ nPo
    refine congrArg (fun b => iBool b) ?_
    simp_all [z0o]
   refine tSk <| tQ <| tG <| sm 1 rfl <| nL <| tRt <| rOk rfl ?_ nPo
   refine congrArg (fun b => iBool b) ?_
   simp_all [z0o]
  refine tQ <| tG <| cV rfl (bSt rfl rfl rfl rfl) <| sm 1 rfl <| nL ?_
  refine tC rfl (fun hc4 => ?_) fun hc4 => ?_
  ·refine tSk ?_
   refine tC rfl (fun hc4 => ?_) fun hc4 => ?_
   ·refine tQ <| tG <| sm 1 rfl <| nL <| tRt <| rOk rfl ?_ nPo
    refine congrArg (fun b => iBool b) ?_
    simp_all [z0o]
   refine tSk <| tQ <| tG <| sm 1 rfl <| nL <| tRt <| rOk rfl ?_ nPo
   refine congrArg (fun b => iBool b) ?_
   simp_all [z0o]
  refine tQ <| tG <| cV rfl (bSt rfl rfl rfl rfl) <| sm 1 rfl <| nL ?_
  refine tC rfl (fun hc4 => ?_) fun hc4 => ?_
  ·refine tSk ?_
   refine tC rfl (fun hc4 => ?_) fun hc4 => ?_
   ·refine tQ <| tG <| sm 1 rfl <| nL <| tRt <| rOk rfl ?_ nPo
    refine congrArg (fun b => iBool b) ?_
    simp_all [z0o]
   refine tSk <| tQ <| tG <| sm 1 rfl <| nL <| tRt <| rOk rfl ?_ nPo
   refine congrArg (fun b => iBool b) ?_
   simp_all [z0o]
  refine tG <| cV rfl (bSt rfl rfl rfl rfl) <| sm 1 rfl <| nL ?_
  refine tC rfl (fun hc4 => ?_) fun hc4 => ?_
  ·refine tQ <| tG <| sm 1 rfl <| nL <| tRt <| rOk rfl ?_ nPo
   refine congrArg (fun b => iBool b) ?_
   simp_all [z0o]
  refine tSk <| tQ <| tG <| sm 1 rfl <| nL <| tRt <| rOk rfl ?_ nPo
  refine congrArg (fun b => iBool b) ?_
  simp_all [z0o]
theorem sc_tkRun (s : ByteArray) : SC Tryz.prog 80 [iStr s] [] (fun _ => False) (iStr (zy4 s)) [] := by
  refine SC.of Tryz.func80 rfl (lb rfl) fun F ρ w => ?_
  refine tQ <| tG <| sm 1 rfl <| nL <| tQ ?_
  refine Tr.strRange rfl rfl rfl rfl rfl rfl rfl rfl uT9 rfl rfl rfl rfl rfl rfl rfl rfl rfl rfl rfl (fun _ h => h) (fun k fr => (k <= s.toList.length /\ (s.toList.take k).all isLD = true) /\ fr = [(0, iStr s)]) ⟨[(0, iStr s)], Sub.of ⟨rfl, trivial⟩, ⟨Nat.zero_le _, rfl⟩, rfl⟩ ?_ ?_
  ·rintro b0 k _ hk ⟨hI, rfl⟩
   refine tQ <| tG <| sm 2 rfl <| nL <| tRt <| rOk rfl ?_ nPo
   have hall : s.toList.all isLD = true := by
     have := hI.2
     rwa [List.take_of_length_le (by rw [z74]; exact hk)] at this
   simp [zy4, hall]
  rintro ρ2 w2 b0 k _ hk ⟨hI, rfl⟩
  have hlt : k < s.toList.length := by rw [z74]; exact hk
  refine tBk <| tQ <| tG <| cV rfl (z0d rfl rfl rfl) <| cV rfl (z0d rfl rfl rfl) <| sm 2 rfl <| nL <| tQ <| tG <| sm 1 rfl <| cE rfl (ocq (zd2 _) ent79 rfl rfl) <| sm 2 rfl ?_
  refine wS 14 rfl (fun hb14 => ?_) fun hb14 => ?_
  ·refine sm 1 rfl <| WL.yes rfl rfl rfl rfl rfl rfl (z0r (y03 _) ent99 rfl rfl (sRf _ _) rfl) <| sm 2 rfl <| nL ?_
   refine tC rfl (fun hc18 => ?_) fun hc18 => ?_
   ·refine tQ <| tG <| sm 2 rfl <| cV rfl (zn7 rfl rfl uT9 (.inl ⟨rfl, rfl⟩) (.inr ⟨_, _, rfl, rfl⟩) oM0 (Nat.le_of_lt (by assumption))) <| sm 1 rfl <| nL <| tRt <| rOk rfl ?_ nPo
    have hld : ze5 (Utf8.decode s k).1 = false := by
      simp only [ze5]
      simp_all
    rw [runOf_at hI.2 (List.getElem?_eq_getElem hlt) ((za0 hlt).2 hld)]
   refine tSk ?_
   refine ⟨rfl, [(0, iStr s)], Sub.of ⟨rfl, rfl, trivial⟩, ?_, rfl⟩
   have hld : ze5 (Utf8.decode s k).1 = true := by
     simp only [ze5]
     simp_all
   obtain ⟨hw1, hb1⟩ := (za0 hlt).1 hld
   rw [hw1]
   exact ⟨by omega, by rw [List.take_succ_eq_append_getElem hlt, List.all_append, hI.2]; simp [hb1]⟩
  refine sm 4 rfl <| nL <| Tr.condF rfl <| tSk ?_
  refine ⟨rfl, [(0, iStr s)], Sub.of ⟨rfl, rfl, trivial⟩, ?_, rfl⟩
  have hld : ze5 (Utf8.decode s k).1 = true := by
    simp only [ze5]
    simp_all
  obtain ⟨hw1, hb1⟩ := (za0 hlt).1 hld
  rw [hw1]
  exact ⟨by omega, by rw [List.take_succ_eq_append_getElem hlt, List.all_append, hI.2]; simp [hb1]⟩
theorem zp4 (s : ByteArray) : SC Tryz.prog 56 [iStr s] [] (fun _ => False) (iBool (z3r s)) [] := by
  refine SC.of Tryz.func56 rfl (lb rfl) fun F ρ w => ?_
  refine tQ <| tG <| sm 1 rfl <| nL <| tQ <| tG <| sm 1 rfl <| cV rfl (bSt rfl rfl rfl rfl) <| sm 1 rfl ?_
  refine wS 5 rfl (fun hb5 => ?_) fun hb5 => ?_
  ·have hne : s.toList ≠ [] := by simpa using hb5
   obtain ⟨b0, r0, hs0⟩ := List.exists_cons_of_ne_nil hne
   have hi0 : s[0]? = some b0 := by rw [zu3 (i := 0) (by rw [hs0]; simp)]; simp [hs0]
   have hw0 : IntKind.i32.wrap (b0.toNat : Int) = b0.toNat := by
     have : b0.toNat < 256 := b0.toNat_lt
     simp [IntKind.wrap, IntKind.bits, IntKind.signed]
     omega
   have hre := runOf_eq s
   refine sm 1 rfl <| yV rfl rfl (z4z rfl rfl rfl uT9 (by assumption) (by rfl)) <| yV rfl rfl (z4k rfl rfl ⟨_, Tryz.underlying5⟩ Tryz.underlying21) <| WL.yes rfl rfl rfl rfl rfl rfl (z0r (zd2 _) ent79 rfl rfl (sRf _ _) rfl) <| sm 2 rfl ?_
   refine wS 11 rfl (fun hb11 => ?_) fun hb11 => ?_
   ·refine sm 1 rfl <| WL.yes rfl rfl rfl rfl rfl rfl (z0r (sc_tkRun s) ent80 rfl rfl (sRf _ _) rfl) <| sm 1 rfl <| yV rfl rfl (bSt rfl rfl rfl rfl) <| sm 2 rfl ?_
    refine wS 17 rfl (fun hb17 => ?_) fun hb17 => ?_
    ·refine sm 1 rfl <| yV rfl rfl (z48 rfl rfl uT9) <| sm 3 rfl ?_
     refine wS 22 rfl (fun hb22 => ?_) fun hb22 => ?_
     ·refine sm 1 rfl <| WL.yes rfl rfl rfl rfl rfl rfl (z0r (y2e s) ent81 rfl rfl (sRf _ _) rfl) <| sm 3 rfl <| nL <| tRt <| rOk rfl ?_ nPo
      refine congrArg (fun b => iBool b) ?_
      simp_all [z3r]
     refine sm 5 rfl <| nL <| tRt <| rOk rfl ?_ nPo
     refine congrArg (fun b => iBool b) ?_
     (simp_all [z3r] <;> omega)
    refine sm 10 rfl <| nL <| tRt <| rOk rfl ?_ nPo
    refine congrArg (fun b => iBool b) ?_
    simp_all [z3r]
   refine sm 16 rfl <| nL <| tRt <| rOk rfl ?_ nPo
   refine congrArg (fun b => iBool b) ?_
   simp_all [z3r]
  refine sm 22 rfl <| nL <| tRt <| rOk rfl ?_ nPo
  refine congrArg (fun b => iBool b) ?_
  simp_all [z3r]
def Cnt (es : List (Value × PV)) : Prop := (∀ e ∈ es, z2e .string e.1 = true) /\ ∀ e ∈ es, ∃ n, e.2 = vInt n
theorem zi3 {k : Value} {v : PV} : ∀ {es : List (Value × PV)} {e : Value × PV}, e ∈ mput k v es -> e = (k, v) ∨ e ∈ es
  | [], e, h => by simp [mput] at h; exact .inl h
  | (a, p) :: r, e, h => by
    simp only [mput] at h
    split at h
    ·rcases List.mem_cons.1 h with rfl | h
     ·exact .inl rfl
     exact .inr (.tail _ h)
    rcases List.mem_cons.1 h with rfl | h
    ·exact .inr (.head _)
    rcases zi3 h with h | h
    ·exact .inl h
    exact .inr (.tail _ h)
theorem zn1 {k : Value} {p : PV} : ∀ {es : List (Value × PV)}, z3t k es = some p -> ∃ a, (a, p) ∈ es
  | (a, q) :: r, h => by
    simp only [z3t] at h
    split at h
    ·cases h; exact ⟨a, .head _⟩
    obtain ⟨b, hb⟩ := zn1 h; exact ⟨b, .tail _ hb⟩
theorem Cnt.find {es : List (Value × PV)} (h : Cnt es) (k : Value) : ∃ n, (z3t k es).getD (.val (.int .i64 0)) = vInt n := by
  cases hf : z3t k es with
  | none => exact ⟨0, rfl⟩
  | some p => obtain ⟨a, ha⟩ := zn1 hf; obtain ⟨n, hn⟩ := h.2 _ ha; exact ⟨n, hn⟩
theorem zh8 {es : List (Value × PV)} {s : ByteArray} {n : Int} (h : (z3t (.string s) es).getD (.val (.int .i64 0)) = vInt n) : bump s es = mput (.string s) (vInt (IntKind.i64.wrap (n + 1))) es := by
  unfold bump
  cases hf : z3t (.string s) es with
  | none =>
    rw [hf] at h
    simp only [Option.getD_none, vInt, PV.val.injEq, Value.int.injEq, true_and] at h
    subst h
    rfl
  | some p =>
    rw [hf] at h
    simp only [Option.getD_some] at h
    subst h
    rfl
theorem Cnt.bump {es : List (Value × PV)} (h : Cnt es) (s : ByteArray) : Cnt (bump s es) := by
  obtain ⟨n, hn⟩ := h.find (.string s)
  rw [zh8 hn]
  refine ⟨fun e he => ?_, fun e he => ?_⟩
  ·rcases zi3 he with rfl | he
   ·rfl
   exact h.1 e he
  rcases zi3 he with rfl | he
  ·exact ⟨_, rfl⟩
  exact h.2 e he
theorem Cnt.nil : Cnt [] := ⟨fun _ h => by simp at h, fun _ h => by simp at h⟩
theorem y26 (u : Un) (hW : z0x u <= 536870912) : SC Tryz.prog 37 [.pv u.enc] [] (fun _ => False) (iBool (z31 u)) [] := by
  refine SC.of Tryz.func37 rfl (lb rfl) fun F ρ w => ?_
  have hW2 : z0x u = u.arrays.length + u.flows.length + wtA u.arrays + wtF u.flows := rfl
  have hW3 : (u.arrays.length : Int) + u.flows.length <= 536870912 := by omega
  refine tQ <| tG <| cE rfl (z13 rfl rfl) <| sm 1 rfl <| nL <| tQ <| tG <| cE rfl (z5b (k := 109) rfl rfl rfl rfl rfl) <| sm 1 rfl <| nL <| tQ <| tQ ?_
  refine tG <| sm 2 rfl ?_
  refine WL.lenOf (t := 11) rfl (fun hl1 => ?_)
  simp only [List.length_map] at hl1
  refine cV rfl (oSm uT22 rfl) <| sm 1 rfl <| nL <| tBk <| Tr.sub (Sub.of (fr' := [(13, iInt 0), (12, iInt u.arrays.length), (11, .pv (arrs u.arrays)), (3, .mp 109), (1, .pv (.ept [arrs u.arrays, flws u.flows] 0))]) ⟨rfl, rfl, rfl, rfl, rfl, trivial⟩) ?_
  refine Tr.loop (fun fr σ m => ∃ (k : Nat) (es : List (Value × PV)), (k <= u.arrays.length) /\ (u.arrays.all z67 = (u.arrays.drop k).all z67) /\ (z93 [] u.arrays = z93 es (u.arrays.drop k)) /\ (Cnt es) /\ fr = [(13, iInt k), (12, iInt u.arrays.length), (11, .pv (arrs u.arrays)), (3, .mp 109), (1, .pv (.ept [arrs u.arrays, flws u.flows] 0))] /\ σ = look [(109, some (.map es))] /\ m = u.arrays.length - k) (n := u.arrays.length - 0) ?_ ?_
  ·exact ⟨0, [], Nat.zero_le _, rfl, rfl, Cnt.nil, rfl, rfl, rfl⟩
  rintro fr σ m ⟨k, es, hI0, hI1, hI2, hI3, rfl, rfl, rfl⟩
  refine tQ <| tG <| sm 1 rfl <| nL <| tQ ?_
  refine tC rfl (fun hc14 => ?_) fun hc14 => ?_
  ·have hlt : k < u.arrays.length := by simpa using hc14
   have hd := List.drop_eq_getElem_cons hlt
   have hm := List.getElem_mem hlt
   have hi := z0c (f := Ar.enc) (List.getElem?_eq_getElem hlt)
   generalize u.arrays[k] = x at hd hm hi
   refine tSk <| tQ <| tBk <| tQ <| tG <| cV rfl (iSq rfl rfl rfl uT22 hi tS49 rfl (by rfl)) <| cV rfl (lEA rfl rfl Tryz.underlying49 rfl tS49 (lb rfl)) <| cE rfl (aLc (k := 105) rfl tZ49 rfl rfl rfl rfl) <| c0 (sBA rfl rfl rfl rfl rfl ((fun h => h)) tS49 (flk rfl) (lb rfl)) <| nL <| tQ <| Tr.freezeBox (t := 5) (k := 105) rfl rfl rfl ?_
   refine Tr.heap (σ' := look [(109, some (.map es))]) (fun k => by
     simp only [look]
     by_cases h : 105 = k
     · subst h; rfl
     · simp [z00 h]) ?_
   obtain ⟨n, hn⟩ := hI3.find (.string x.name)
   have hbump := zh8 hn
   have hes := hI3.1
   refine tG <| sm 3 rfl <| cV rfl (zb3 rfl rfl rfl rfl Tryz.underlying96 uT9 rfl (by assumption) tZ3 trivial) <| WL.sub (Sub.of (fr' := [(20, iInt n), (19, iStr x.name), (17, .mp 109), (5, .pv (.ept [vStr x.name, vInt x.size] 0)), (13, iInt k), (12, iInt u.arrays.length), (11, .pv (arrs u.arrays)), (3, .mp 109), (1, .pv (.ept [arrs u.arrays, flws u.flows] 0))]) ⟨congrArg (fun p => some (IV.pv p)) hn, rfl, rfl, rfl, rfl, rfl, rfl, rfl, rfl, trivial⟩) <| sm 1 rfl <| c0 (z3u rfl rfl rfl rfl rfl ((fun h => h)) Tryz.underlying96 uT9 rfl (by assumption)) <| nL <| tQ <| tG <| sm 2 rfl <| cE rfl (ocq (zp4 _) ent56 rfl rfl) <| sm 2 rfl ?_
   refine wS 26 rfl (fun hb26 => ?_) fun hb26 => ?_
   ·refine sm 9 rfl <| nL <| Tr.condT rfl <| tQ <| tG <| sm 1 rfl <| nL <| tRt <| rOk rfl ?_ nPo
    have hx : z67 x = false := by
      clear hd hm hi hI1 hI2 hn
      simp_all [z67]
    have hA : u.arrays.all z67 = false := by rw [hI1, hd]; simp only [List.all_cons, hx, Bool.false_and]
    simp only [z31, hA, Bool.false_and]
   refine sm 5 rfl ?_
   refine wS 31 rfl (fun hb31 => ?_) fun hb31 => ?_
   ·refine sm 4 rfl <| nL <| Tr.condT rfl <| tQ <| tG <| sm 1 rfl <| nL <| tRt <| rOk rfl ?_ nPo
    have hx : z67 x = false := by
      clear hd hm hi hI1 hI2 hn
      simp_all [z67]
    have hA : u.arrays.all z67 = false := by rw [hI1, hd]; simp only [List.all_cons, hx, Bool.false_and]
    simp only [z31, hA, Bool.false_and]
   refine sm 4 rfl <| nL ?_
   refine tC rfl (fun hc35 => ?_) fun hc35 => ?_
   ·refine tQ <| tG <| sm 1 rfl <| nL <| tRt <| rOk rfl ?_ nPo
    have hx : z67 x = false := by
      clear hd hm hi hI1 hI2 hn
      simp_all [z67]
    have hA : u.arrays.all z67 = false := by rw [hI1, hd]; simp only [List.all_cons, hx, Bool.false_and]
    simp only [z31, hA, Bool.false_and]
   refine tSk <| tG <| cV rfl (oB rfl rfl (z05 rfl oM0)) <| sm 1 rfl <| nL ?_
   refine ⟨_, _, ?_, Sub.of (fr' := [(13, iInt (k + 1)), (12, iInt u.arrays.length), (11, .pv (arrs u.arrays)), (3, .mp 109), (1, .pv (.ept [arrs u.arrays, flws u.flows] 0))]) ⟨rfl, rfl, rfl, rfl, rfl, trivial⟩, (k + 1), (bump x.name es), ?_, ?_, ?_, ?_, rfl, (funext fun j => by
   simp only [look, <- hbump]
   by_cases h : 109 = j
   · subst h; rfl
   · simp [z00 h]), rfl⟩
   ·omega
   ·omega
   ·rw [hI1, hd]
    have hx : z67 x = true := by
      clear hd hm hi hI1 hI2 hn
      simp_all [z67]
    simp only [List.all_cons, hx, Bool.true_and]
   ·rw [hI2, hd]; rfl
   exact hI3.bump _
  refine tEx <| tQ <| tQ ?_
  have hA : u.arrays.all z67 = true := by
    rw [hI1, List.drop_eq_nil_of_le (by simpa using hc14)]; rfl
  have hcA : z93 [] u.arrays = es := by
    rw [hI2, List.drop_eq_nil_of_le (by simpa using hc14)]; rfl
  generalize es = es0 at hcA hI3 ⊢
  refine tG <| sm 2 rfl ?_
  refine WL.lenOf (t := 38) rfl (fun hl2 => ?_)
  simp only [List.length_map] at hl2
  refine cV rfl (oSm uT23 rfl) <| sm 1 rfl <| nL <| tBk <| Tr.sub (Sub.of (fr' := [(40, iInt 0), (39, iInt u.flows.length), (38, .pv (flws u.flows)), (3, .mp 109), (1, .pv (.ept [arrs u.arrays, flws u.flows] 0))]) ⟨rfl, rfl, rfl, rfl, rfl, trivial⟩) ?_
  refine Tr.loop (fun fr σ m => ∃ (k : Nat) (es : List (Value × PV)), (k <= u.flows.length) /\ (u.flows.all z4w = (u.flows.drop k).all z4w) /\ (z9y es0 u.flows = z9y es (u.flows.drop k)) /\ (Cnt es) /\ fr = [(40, iInt k), (39, iInt u.flows.length), (38, .pv (flws u.flows)), (3, .mp 109), (1, .pv (.ept [arrs u.arrays, flws u.flows] 0))] /\ σ = look [(109, some (.map es))] /\ m = u.flows.length - k) (n := u.flows.length - 0) ?_ ?_
  ·exact ⟨0, es0, Nat.zero_le _, rfl, rfl, hI3, rfl, rfl, rfl⟩
  ·rintro fr σ m ⟨k, es, hJ0, hJ1, hJ2, hJ3, rfl, rfl, rfl⟩
   refine tQ <| tG <| sm 1 rfl <| nL <| tQ ?_
   refine tC rfl (fun hc41 => ?_) fun hc41 => ?_
   ·have hlt : k < u.flows.length := by simpa using hc41
    have hd := List.drop_eq_getElem_cons hlt
    have hm := List.getElem_mem hlt
    have hi := z0c (f := Fl.enc) (List.getElem?_eq_getElem hlt)
    generalize u.flows[k] = x at hd hm hi
    refine tSk <| tQ <| tBk <| tQ <| tG <| cV rfl (iSq rfl rfl rfl uT23 hi tS51 rfl (by rfl)) <| cV rfl (lEA rfl rfl Tryz.underlying51 rfl tS51 (lb rfl)) <| cE rfl (aLc (k := 107) rfl tZ51 rfl rfl rfl rfl) <| c0 (sBA rfl rfl rfl rfl rfl ((fun h => h)) tS51 (flk rfl) (lb rfl)) <| nL <| tQ <| Tr.freezeBox (t := 7) (k := 107) rfl rfl rfl ?_
    refine Tr.heap (σ' := look [(109, some (.map es))]) (fun k => by
      simp only [look]
      by_cases h : 107 = k
      · subst h; rfl
      · simp [z00 h]) ?_
    obtain ⟨n, hn⟩ := hJ3.find (.string x.name)
    have hbump := zh8 hn
    have hes := hJ3.1
    refine tG <| sm 3 rfl <| cV rfl (zb3 rfl rfl rfl rfl Tryz.underlying96 uT9 rfl (by assumption) tZ3 trivial) <| WL.sub (Sub.of (fr' := [(47, iInt n), (46, iStr x.name), (44, .mp 109), (7, .pv (.ept [vStr x.name, vInt x.ty, vInt x.params, ints x.types, z07 x.body] 0)), (40, iInt k), (39, iInt u.flows.length), (38, .pv (flws u.flows)), (3, .mp 109), (1, .pv (.ept [arrs u.arrays, flws u.flows] 0))]) ⟨congrArg (fun p => some (IV.pv p)) hn, rfl, rfl, rfl, rfl, rfl, rfl, rfl, rfl, trivial⟩) <| sm 1 rfl <| c0 (z3u rfl rfl rfl rfl rfl ((fun h => h)) Tryz.underlying96 uT9 rfl (by assumption)) <| nL <| tQ <| tG <| sm 2 rfl <| cE rfl (ocq (zp4 _) ent56 rfl rfl) <| sm 2 rfl ?_
    refine wS 53 rfl (fun hb53 => ?_) fun hb53 => ?_
    ·refine sm 18 rfl <| nL <| Tr.condT rfl <| tQ <| tG <| sm 1 rfl <| nL <| tRt <| rOk rfl ?_ nPo
     have hx : z4w x = false := by
       clear hd hm hi hJ1 hJ2 hn
       simp_all [z4w]
     have hF : u.flows.all z4w = false := by rw [hJ1, hd]; simp only [List.all_cons, hx, Bool.false_and]
     simp only [z31, hF, Bool.false_and, Bool.and_false]
    refine sm 2 rfl <| WL.yes rfl rfl rfl rfl rfl rfl (z0r (y1w _) ent57 rfl rfl (sRf _ _) rfl) <| sm 3 rfl ?_
    refine wS 59 rfl (fun hb59 => ?_) fun hb59 => ?_
    ·refine sm 12 rfl <| nL <| Tr.condT rfl <| tQ <| tG <| sm 1 rfl <| nL <| tRt <| rOk rfl ?_ nPo
     have hx : z4w x = false := by
       clear hd hm hi hJ1 hJ2 hn
       simp_all [z4w]
     have hF : u.flows.all z4w = false := by rw [hJ1, hd]; simp only [List.all_cons, hx, Bool.false_and]
     simp only [z31, hF, Bool.false_and, Bool.and_false]
    refine sm 5 rfl ?_
    refine wS 64 rfl (fun hb64 => ?_) fun hb64 => ?_
    ·refine sm 7 rfl <| nL <| Tr.condT rfl <| tQ <| tG <| sm 1 rfl <| nL <| tRt <| rOk rfl ?_ nPo
     have hx : z4w x = false := by
       clear hd hm hi hJ1 hJ2 hn
       simp_all [z4w]
     have hF : u.flows.all z4w = false := by rw [hJ1, hd]; simp only [List.all_cons, hx, Bool.false_and]
     simp only [z31, hF, Bool.false_and, Bool.and_false]
    refine sm 4 rfl <| yV rfl rfl (oSm uT35 rfl) <| sm 2 rfl <| nL ?_
    refine tC rfl (fun hc71 => ?_) fun hc71 => ?_
    ·refine tQ <| tG <| sm 1 rfl <| nL <| tRt <| rOk rfl ?_ nPo
     have hx : z4w x = false := by
       clear hd hm hi hJ1 hJ2 hn
       simp_all [z4w]
     have hF : u.flows.all z4w = false := by rw [hJ1, hd]; simp only [List.all_cons, hx, Bool.false_and]
     simp only [z31, hF, Bool.false_and, Bool.and_false]
    refine tSk <| tG <| cV rfl (oB rfl rfl (z05 rfl oM0)) <| sm 1 rfl <| nL ?_
    refine ⟨_, _, ?_, Sub.of (fr' := [(40, iInt (k + 1)), (39, iInt u.flows.length), (38, .pv (flws u.flows)), (3, .mp 109), (1, .pv (.ept [arrs u.arrays, flws u.flows] 0))]) ⟨rfl, rfl, rfl, rfl, rfl, trivial⟩, (k + 1), (bump x.name es), ?_, ?_, ?_, ?_, rfl, (funext fun j => by
  simp only [look, <- hbump]
  by_cases h : 109 = j
  · subst h; rfl
  · simp [z00 h]), rfl⟩
    ·omega
    ·omega
    ·rw [hJ1, hd]
     have hx : z4w x = true := by
       clear hd hm hi hJ1 hJ2 hn
       simp_all [z4w]
     simp only [List.all_cons, hx, Bool.true_and]
    ·rw [hJ2, hd]; rfl
    exact hJ3.bump _
   refine tEx <| tQ ?_
   have hF : u.flows.all z4w = true := by
     rw [hJ1, List.drop_eq_nil_of_le (by simpa using hc41)]; rfl
   have hcF : z9y (z93 [] u.arrays) u.flows = es := by
     rw [hcA, hJ2, List.drop_eq_nil_of_le (by simpa using hc41)]; rfl
   clear hJ1 hJ2 hI1 hI2
   refine tG <| cV rfl (lEA rfl rfl uT25 rfl tS25 (lb rfl)) <| cE rfl (ocq (z8r u z1g) ent58 rfl rfl) <| sm 1 rfl <| nL <| tQ <| tG <| sm 1 rfl <| cV rfl (zy1 rfl rfl rfl Tryz.underlying96 trivial) <| sm 2 rfl <| cV rfl (oSm uT22 rfl) ?_
   refine WL.lenOf (t := 78) rfl (fun hl1 => ?_)
   simp only [List.length_map] at hl1
   refine sm 2 rfl <| cV rfl (oSm uT23 rfl) ?_
   refine WL.lenOf (t := 81) rfl (fun hl2 => ?_)
   simp only [List.length_map] at hl2
   refine cV rfl (oB rfl rfl (z05 rfl oM0)) <| sm 2 rfl ?_
   refine wS 85 rfl (fun hb85 => ?_) fun hb85 => ?_
   ·refine sm 4 rfl ?_
    refine wS 89 rfl (fun hb89 => ?_) fun hb89 => ?_
    ·have hk0 : z0a z1g u.flows 0 ≥ 0 := by simp_all
     obtain ⟨g, hgk, _⟩ := z5d hk0
     have hgi : (u.flows.map Fl.enc)[(z0a z1g u.flows 0).toNat]? = some g.enc := z0c hgk
     have hgd : u.flows.getD (z0a z1g u.flows 0).toNat zl6 = g := by simp [List.getD, hgk]
     refine sm 3 rfl <| yV rfl rfl (iSq rfl rfl rfl uT23 hgi tS51 rfl oM0) <| sm 5 rfl ?_
     refine wS 98 rfl (fun hb98 => ?_) fun hb98 => ?_
     ·refine sm 3 rfl <| yV rfl rfl (iSq rfl rfl rfl uT23 hgi tS51 rfl oM0) <| sm 5 rfl <| nL <| tRt <| rOk rfl ?_ nPo
      refine congrArg (fun b => iBool b) ?_
      simp only [z31, hA, hF, hcF, z76, Bool.true_and]
      simp_all
     refine sm 9 rfl <| nL <| tRt <| rOk rfl ?_ nPo
     refine congrArg (fun b => iBool b) ?_
     simp only [z31, hA, hF, hcF, z76, Bool.true_and]
     simp_all
    refine sm 18 rfl <| nL <| tRt <| rOk rfl ?_ nPo
    refine congrArg (fun b => iBool b) ?_
    simp only [z31, hA, hF, hcF, z76, Bool.true_and]
    (simp_all <;> omega)
   refine sm 22 rfl <| nL <| tRt <| rOk rfl ?_ nPo
   refine congrArg (fun b => iBool b) ?_
   simp only [z31, hA, hF, hcF, z76, Bool.true_and]
   simp_all
theorem y01 (u : Un) (hW : z0x u <= 536870912) : SC Tryz.prog 22 [.pv u.enc] [] (fun _ => False) (.tup [iInt (z2m u).1, iInt (z2m u).2]) [] := by
  refine SC.of Tryz.func22 rfl (lb rfl) fun F ρ w => ?_
  refine tQ <| tG <| cE rfl (z13 rfl rfl) <| sm 2 rfl <| nL <| tQ <| tQ <| tG <| cV rfl (lEA rfl rfl uT25 rfl tS25 (lb rfl)) <| cE rfl (ocq (y26 u hW) ent37 rfl rfl) <| sm 1 rfl <| nL ?_
  refine tC rfl (fun hc8 => ?_) fun hc8 => ?_
  ·refine tQ <| tG <| sm 2 rfl <| nL <| tRt <| rOk rfl ?_ nPo
   have hg : z31 u = false := by simpa using hc8
   simp [z2m, hg]
  have hg : z31 u = true := by simpa using hc8
  refine tSk <| tQ <| tQ <| tG <| sm 2 rfl ?_
  refine WL.lenOf (t := 10) rfl (fun hl1 => ?_)
  simp only [List.length_map] at hl1
  refine cV rfl (oSm uT23 rfl) <| sm 1 rfl <| nL <| tBk <| Tr.sub (Sub.of (fr' := [(12, iInt 0), (11, iInt u.flows.length), (10, .pv (flws u.flows)), (1, .pv (.ept [arrs u.arrays, flws u.flows] 0))]) ⟨rfl, rfl, rfl, rfl, trivial⟩) ?_
  refine Tr.loop (fun fr σ m => ∃ (k : Nat), (k <= u.flows.length) /\ (z5v u u.flows 0 = z5v u (u.flows.drop k) k) /\ fr = [(12, iInt k), (11, iInt u.flows.length), (10, .pv (flws u.flows)), (1, .pv (.ept [arrs u.arrays, flws u.flows] 0))] /\ σ = look [] /\ m = u.flows.length - k) (n := u.flows.length - 0) ?_ ?_
  ·exact ⟨0, Nat.zero_le _, rfl, rfl, rfl, rfl⟩
  rintro fr σ m ⟨k, hI0, hI1, rfl, rfl, rfl⟩
  refine tQ <| tG <| sm 1 rfl <| nL <| tQ ?_
  refine tC rfl (fun hc13 => ?_) fun hc13 => ?_
  ·have hlt : k < u.flows.length := by simpa using hc13
   have hd := List.drop_eq_getElem_cons hlt
   have hm := List.getElem_mem hlt
   have hi := z0c (f := Fl.enc) (List.getElem?_eq_getElem hlt)
   generalize u.flows[k] = x at hd hm hi
   refine tSk <| tQ <| tBk <| tQ <| tG <| sm 1 rfl <| cV rfl (iSq rfl rfl rfl uT23 hi tS51 rfl (by rfl)) <| cV rfl (lEA rfl rfl Tryz.underlying51 rfl tS51 (lb rfl)) <| cE rfl (aLc (k := 105) rfl tZ51 rfl rfl rfl rfl) <| sm 1 rfl <| c0 (sBA rfl rfl rfl rfl rfl ((fun h => h)) tS51 (flk rfl) (lb rfl)) <| nL ?_
   refine tQ <| Tr.freezeBox (t := 5) (k := 105) rfl rfl rfl <| Tr.heap (σ' := look []) (fun k => by simp only [look]; cases Nat.beq 105 k <;> rfl) <| tG <| cV rfl (lEA rfl rfl uT25 rfl tS25 (lb rfl)) <| cV rfl (lEA rfl rfl Tryz.underlying51 rfl tS51 (lb rfl)) <| cE rfl (ocq (y24 u x (z5r hg) (z5r hg x hm) (zh9 hW hm)) ent38 rfl rfl) <| sm 1 rfl <| nL ?_
   refine tC rfl (fun hc20 => ?_) fun hc20 => ?_
   ·refine tQ <| tG <| sm 3 rfl <| nL <| tRt <| rOk rfl ?_ nPo
    have hx : z77 u x = false := by simpa using hc20
    simp only [z2m, hg, if_true, hI1, hd, z5v, hx, Bool.false_eq_true, if_false]
   refine tSk <| tG <| cV rfl (oB rfl rfl (z05 rfl oM0)) <| sm 1 rfl <| nL ?_
   refine ⟨_, _, ?_, Sub.of (fr' := [(12, iInt (k + 1)), (11, iInt u.flows.length), (10, .pv (flws u.flows)), (1, .pv (.ept [arrs u.arrays, flws u.flows] 0))]) ⟨rfl, rfl, rfl, rfl, trivial⟩, (k + 1), ?_, ?_, rfl, rfl, rfl⟩
   ·omega
   ·omega
   rw [hI1, hd]
   have hx : z77 u x = true := by simpa using hc20
   simp only [z5v, hx, if_true]
   rfl
  refine tEx <| tQ <| tG <| sm 2 rfl <| nL <| tRt <| rOk rfl ?_ nPo
  have hge : u.flows.length <= k := by simpa using hc13
  simp only [z2m, hg, if_true, hI1, List.drop_eq_nil_of_le hge, z5v]
section
def sw (a b k : Nat) : Nat := bif Nat.beq k a then b else bif Nat.beq k b then a else k
theorem sw_sw (a b k : Nat) : sw a b (sw a b k) = k := by
  unfold sw
  by_cases h1 : k = a
  ·subst h1
   have e1 : Nat.beq k k = true := Nat.beq_refl k
   simp only [e1, cond_true]
   by_cases h2 : b = k
   ·subst h2; simp
   have e2 : Nat.beq b k = false := z00 h2
   have e3 : Nat.beq b b = true := Nat.beq_refl b
   simp [e2, e3]
  have e1 : Nat.beq k a = false := z00 h1
  simp only [e1, cond_false]
  by_cases h2 : k = b
  ·subst h2
   simp
  have e2 : Nat.beq k b = false := z00 h2
  simp [e1, e2]
mutual
def IV.ren (p : Nat -> Nat) : IV -> IV
  | .pv x => .pv x
  | .ptr k off => .ptr (p k) off
  | .sl k len => .sl (p k) len
  | .rpt k len off => .rpt (p k) len off
  | .mp k => .mp (p k)
  | .agg cs => .agg (renL p cs)
  | .tup cs => .tup (renL p cs)
  | .fn f xs ys => .fn f (renL p xs) (renL p ys)
def renL (p : Nat -> Nat) : List IV -> List IV
  | [] => []
  | x :: r => x.ren p :: renL p r
end
theorem z9q (p : Nat -> Nat) : ∀ xs : List IV, renL p xs = xs.map (IV.ren p)
  | [] => rfl
  | x :: r => by simp [renL, z9q p r]
theorem z3o {p : Nat -> Nat} {xs : List IV} {j : Nat} {c : IV} (h : (renL p xs)[j]? = some c) : ∃ x, xs[j]? = some x /\ c = x.ren p := by
  rw [z9q, List.getElem?_map, Option.map_eq_some_iff] at h
  obtain ⟨x, h1, rfl⟩ := h
  exact ⟨x, h1, rfl⟩
theorem z6y (p : Nat -> Nat) (xs : List IV) : (renL p xs).length = xs.length := by rw [z9q, List.length_map]
def HO.ren (p : Nat -> Nat) : HO -> HO
  | .box cs => .box (renL p cs)
  | .row s els => .row s els
  | .map es => .map es
def renP (p : Nat -> Nat) (l : List (Nat × HO)) : List (Nat × HO) := l.map fun x => (p x.1, x.2.ren p)
section
variable {p : Nat -> Nat} (hp : ∀ k, p (p k) = k) {F : Nat -> Prop} {ρ : Loc} {σ σ' : Heap'} {w : World}
include hp
theorem zb5 {b : Nat} : owned F (fun k => ρ (p k)) b ↔ owned F ρ b := by
  constructor
  ·rintro (h | ⟨k, c, h⟩)
   ·exact .inl h
   exact .inr ⟨p k, c, h⟩
  rintro (h | ⟨k, c, h⟩)
  ·exact .inl h
  exact .inr ⟨p k, c, by show ρ (p (p k)) = _; rw [hp]; exact h⟩
theorem zj0 (hσ : ∀ k, σ' (p k) = (σ k).map (HO.ren p)) {x : IV} {v : Value} (h : RepI F ρ σ w x v) : RepI F (fun k => ρ (p k)) σ' w (x.ren p) v := by
  induction h with
  | pv q v h => exact .pv q v (h.own fun b hb => (zb5 hp).1 hb)
  | ptr k off v h =>
    refine .ptr _ off v fun cs' h' => ?_
    rw [hσ, Option.map_eq_some_iff] at h'
    obtain ⟨o, h1, h2⟩ := h'
    cases o with
    | box cs => obtain ⟨b, c, h3, h4⟩ := h cs h1; exact ⟨b, c, by rw [hp]; exact h3, h4⟩
    | row => cases h2
    | map => cases h2
  | sl k len v h =>
    refine .sl _ len v fun s els h' => ?_
    rw [hσ, Option.map_eq_some_iff] at h'
    obtain ⟨o, h1, h2⟩ := h'
    cases o with
    | row s' els' => cases h2; rw [hp]; exact h _ _ h1
    | box => cases h2
    | map => cases h2
  | rpt k len off v h =>
    refine .rpt _ len off v fun s els h' => ?_
    rw [hσ, Option.map_eq_some_iff] at h'
    obtain ⟨o, h1, h2⟩ := h'
    cases o with
    | row s' els' => cases h2; rw [hp]; exact h _ _ h1
    | box => cases h2
    | map => cases h2
  | mp k v h =>
    refine .mp _ v fun es h' => ?_
    rw [hσ, Option.map_eq_some_iff] at h'
    obtain ⟨o, h1, h2⟩ := h'
    cases o with
    | map es' => cases h2; rw [hp]; exact h _ h1
    | row => cases h2
    | box => cases h2
  | agg cs vs u hl hv _ ih =>
    refine .agg _ vs u (by rw [z6y]; exact hl) (fun j c hj => ?_) fun j c hj => ?_
    ·obtain ⟨x, h1, rfl⟩ := z3o hj; exact hv j x h1
    obtain ⟨x, h1, rfl⟩ := z3o hj; exact ih j x h1
  | tup cs vs u hl hv _ ih =>
    refine .tup _ vs u (by rw [z6y]; exact hl) (fun j c hj => ?_) fun j c hj => ?_
    ·obtain ⟨x, h1, rfl⟩ := z3o hj; exact hv j x h1
    obtain ⟨x, h1, rfl⟩ := z3o hj; exact ih j x h1
  | fn f xs ys vs ws u t hl hv _ hl' hv' _ ih ih' =>
    refine .fn f _ _ vs ws u t (by rw [z6y]; exact hl) (fun j c hj => ?_) (fun j c hj => ?_) (by rw [z6y]; exact hl') (fun j c hj => ?_) fun j c hj => ?_
    ·obtain ⟨x, h1, rfl⟩ := z3o hj; exact hv j x h1
    ·obtain ⟨x, h1, rfl⟩ := z3o hj; exact ih j x h1
    ·obtain ⟨x, h1, rfl⟩ := z3o hj; exact hv' j x h1
    obtain ⟨x, h1, rfl⟩ := z3o hj; exact ih' j x h1
mutual
theorem y1q : ∀ x : IV, (x.ren p).ren p = x
  | .pv _ => rfl
  | .ptr k off => by simp only [IV.ren, hp]
  | .sl k len => by simp only [IV.ren, hp]
  | .rpt k len off => by simp only [IV.ren, hp]
  | .mp k => by simp only [IV.ren, hp]
  | .agg cs => by simp only [IV.ren, z5e cs]
  | .tup cs => by simp only [IV.ren, z5e cs]
  | .fn f xs ys => by simp only [IV.ren, z5e xs, z5e ys]
theorem z5e : ∀ xs : List IV, renL p (renL p xs) = xs
  | [] => rfl
  | x :: r => by simp only [renL, y1q x, z5e r]
end
theorem HO.ren_ren (o : HO) : (o.ren p).ren p = o := by cases o <;> simp [HO.ren, z5e hp]
theorem repO_ren (hσ : ∀ k, σ' (p k) = (σ k).map (HO.ren p)) {b c : Nat} {o : HO} (h : RepO F ρ σ w b c o) : RepO F (fun k => ρ (p k)) σ' w b c (o.ren p) := by
  cases h with
  | box cs e a u h1 h2 h3 h4 =>
    refine .box _ e a u h1 (by rw [z6y]; exact h2) (fun j x hj => ?_) fun j x hj => ?_
    ·obtain ⟨y, h5, rfl⟩ := z3o hj; exact h3 j y h5
    obtain ⟨y, h5, rfl⟩ := z3o hj; exact zj0 hp hσ (h4 j y h5)
  | row s els a u h1 h2 h3 h4 h5 h6 h7 => exact .row s els a u h1 h2 h3 h4 h5 h6 fun i el hi j x hj => (h7 i el hi j x hj).own fun b hb => (zb5 hp).1 hb
  | map es a t u h1 h2 h3 h4 => exact .map es a t u h1 h2 h3 fun i k q hi => (h4 i k q hi).own fun b hb => (zb5 hp).1 hb
theorem zv7 (hσ : ∀ k, σ' (p k) = (σ k).map (HO.ren p)) (h : RelH F ρ σ w) : RelH F (fun k => ρ (p k)) σ' w where
  inj k k' b c c' h1 h2 := by
    have := h.inj _ _ _ _ _ h1 h2
    rw [<- hp k, this, hp]
  apart k b c h1 := h.apart _ _ _ h1
  old := h.old
  obj k b c h1 := by
    obtain ⟨o, h2, h3⟩ := h.obj _ _ _ h1
    refine ⟨o.ren p, ?_, repO_ren hp hσ h3⟩
    have := hσ (p k)
    rw [hp, h2] at this
    exact this
  real k o h1 h2 := by
    have h3 := hσ (p k)
    rw [hp, h1] at h3
    obtain ⟨o', h4, h5⟩ := Option.map_eq_some_iff.1 h3.symm
    obtain ⟨s, rfl⟩ := h.real _ _ h4 h2
    exact ⟨s, h5.symm⟩
end
theorem y2p {p : Nat -> Nat} (hp : ∀ k, p (p k) = k) {F R : Nat -> Prop} {ρ ρ1 : Loc} {σ σ1 τ τ1 : Heap'} {w w' : World} (hσ : ∀ k, τ (p k) = (σ k).map (HO.ren p)) (hσ1 : ∀ k, τ1 (p k) = (σ1 k).map (HO.ren p)) (t : Trans F R ρ σ w ρ1 σ1 w') :
    Trans F (fun k => R (p k)) (fun k => ρ (p k)) τ w (fun k => ρ1 (p k)) τ1 w' where
  os := t.os
  tape := t.tape
  output := t.output
  size := t.size
  blk b hb h := t.blk b hb fun k c hk => by
    have := h (p k) c (by rw [hp]; exact hk)
    rwa [hp] at this
  own k b c h hb := t.own _ b c h hb
  box k cs cs' h h' := by
    have e := hσ (p k); have e' := hσ1 (p k)
    rw [hp, h] at e; rw [hp, h'] at e'
    obtain ⟨o, h1, h2⟩ := Option.map_eq_some_iff.1 e.symm
    obtain ⟨o', h3, h4⟩ := Option.map_eq_some_iff.1 e'.symm
    cases o with
    | box cs0 => cases o' with
      | box cs1 => exact t.box _ _ _ h1 h3
      | row => cases h4
      | map => cases h4
    | row => cases h2
    | map => cases h2
  map k cs cs' h h' := by
    have e := hσ (p k); have e' := hσ1 (p k)
    rw [hp, h] at e; rw [hp, h'] at e'
    obtain ⟨o, h1, h2⟩ := Option.map_eq_some_iff.1 e.symm
    obtain ⟨o', h3, h4⟩ := Option.map_eq_some_iff.1 e'.symm
    cases o with
    | map cs0 => cases o' with
      | map cs1 => exact t.map _ _ _ h1 h3
      | row => cases h4
      | box => cases h4
    | row => cases h2
    | box => cases h2
  row k s s' els els' h h' hl := by
    have e := hσ (p k); have e' := hσ1 (p k)
    rw [hp, h] at e; rw [hp, h'] at e'
    obtain ⟨o, h1, h2⟩ := Option.map_eq_some_iff.1 e.symm
    obtain ⟨o', h3, h4⟩ := Option.map_eq_some_iff.1 e'.symm
    cases o with
    | row s0 cs0 => cases o' with
      | row s1 cs1 => cases h2; cases h4; exact t.row _ _ _ _ _ h1 h3 hl
      | map => cases h4
      | box => cases h4
    | map => cases h2
    | box => cases h2
  grow k s s' els els' h h' := by
    have e := hσ (p k); have e' := hσ1 (p k)
    rw [hp, h] at e; rw [hp, h'] at e'
    obtain ⟨o, h1, h2⟩ := Option.map_eq_some_iff.1 e.symm
    obtain ⟨o', h3, h4⟩ := Option.map_eq_some_iff.1 e'.symm
    cases o with
    | row s0 cs0 => cases o' with
      | row s1 cs1 => cases h2; cases h4; exact t.grow _ _ _ _ _ h1 h3
      | map => cases h4
      | box => cases h4
    | map => cases h2
    | box => cases h2
  kindB k cs' h' := by
    have e' := hσ1 (p k); have e := hσ (p k)
    rw [hp, h'] at e'; rw [hp] at e
    obtain ⟨o', h3, h4⟩ := Option.map_eq_some_iff.1 e'.symm
    cases o' with
    | box cs1 =>
      rcases t.kindB _ _ h3 with h5 | ⟨cs, h5⟩
      ·rw [h5] at e; exact .inl e
      rw [h5] at e; exact .inr ⟨_, e⟩
    | row => cases h4
    | map => cases h4
  kindM k cs' h' := by
    have e' := hσ1 (p k); have e := hσ (p k)
    rw [hp, h'] at e'; rw [hp] at e
    obtain ⟨o', h3, h4⟩ := Option.map_eq_some_iff.1 e'.symm
    cases o' with
    | map cs1 =>
      rcases t.kindM _ _ h3 with h5 | ⟨cs, h5⟩
      ·rw [h5] at e; exact .inl e
      rw [h5] at e; exact .inr ⟨_, e⟩
    | row => cases h4
    | box => cases h4
  kindR k s cs' h' := by
    have e' := hσ1 (p k); have e := hσ (p k)
    rw [hp, h'] at e'; rw [hp] at e
    obtain ⟨o', h3, h4⟩ := Option.map_eq_some_iff.1 e'.symm
    cases o' with
    | row s1 cs1 =>
      cases h4
      rcases t.kindR _ _ _ h3 with h5 | ⟨cs, h5⟩
      ·rw [h5] at e; exact .inl e
      rw [h5] at e; exact .inr ⟨_, e⟩
    | map => cases h4
    | box => cases h4
theorem beq_ren {p : Nat -> Nat} (hp : ∀ k, p (p k) = k) (a k : Nat) : Nat.beq (p a) (p k) = Nat.beq a k := by
  by_cases h : a = k
  ·subst h; simp
  rw [z00 h, z00 fun e => h (by rw [<- hp a, e, hp])]
theorem z6s {p : Nat -> Nat} (hp : ∀ k, p (p k) = k) : ∀ (l : List (Nat × HO)) (k : Nat), look (up (renP p l)) (p k) = (look (up l) k).map (HO.ren p)
  | [], _ => rfl
  | (a, o) :: r, k => by
    simp only [renP, up, List.map_cons, look]
    rw [beq_ren hp]
    cases Nat.beq a k with
    | true => rfl
    | false => exact z6s hp r k
theorem SC.ren {P : Program} {p : Nat -> Nat} (hp : ∀ k, p (p k) = k) {f : FuncId} {args : List IV} {pre post : List (Nat × HO)} {R : Nat -> Prop} {r : IV} (h : SC P f args pre R r post) : SC P f (renL p args) (renP p pre) (fun k => R (p k)) (r.ren p) (renP p post) := by
  intro F ρ w vs hrel hargs
  have hb : ∀ (l : List (Nat × HO)) (k : Nat), look (up l) (p k) = (look (up (renP p l)) k).map (HO.ren p) := by
    intro l k
    have := z6s hp l (p k)
    rw [hp] at this
    rw [this]
    cases look (up l) (p k) with
    | none => rfl
    | some o => exact congrArg some (HO.ren_ren hp o).symm
  have h1 : RelH F (fun k => ρ (p k)) (look (up pre)) w := zv7 hp (hb pre) hrel
  have h2 : RepL F (fun k => ρ (p k)) (look (up pre)) w args vs := by
    refine ⟨by rw [<- hargs.1, z6y], fun j x hj => ?_⟩
    obtain ⟨v, h3, h4⟩ := hargs.2 j (x.ren p) (by rw [z9q, List.getElem?_map, hj]; rfl)
    have h5 := zj0 hp (hb pre) h4
    rw [y1q hp] at h5
    exact ⟨v, h3, h5⟩
  refine Calls.mono (h F _ w vs h1 h2) fun e w' hq => ?_
  obtain ⟨ρ', v, h3, h4, h5, h6⟩ := hq
  refine ⟨fun k => ρ' (p k), v, h3, zj0 hp (z6s hp post) h4, zv7 hp (z6s hp post) h5, ?_⟩
  have := y2p hp (z6s hp pre) (z6s hp post) h6
  simpa only [hp] using this
theorem SC.sw {P : Program} {f : FuncId} {args : List IV} {pre post : List (Nat × HO)} {R : Nat -> Prop} {r : IV} (a b : Nat) (h : SC P f args pre R r post) : SC P f (renL (sw a b) args) (renP (sw a b) pre) (fun k => R (Proofs.YthbcibeddfacbaaGreat.sw a b k)) (r.ren (Proofs.YthbcibeddfacbaaGreat.sw a b)) (renP (Proofs.YthbcibeddfacbaaGreat.sw a b) post) := h.ren (sw_sw a b)
end
structure Rl (n : Nat) (st : List Int) (set : List Bool) (seen : List Int) : Prop where
  l1 : st.length = n
  l2 : set.length = n
  s : ∀ v : Nat, v < n -> set.getD v false = !(st.getD v 0 == 0)
  u : ∀ v : Nat, v < n -> seen.contains (v : Int) = (st.getD v 0 == 1)
theorem z7t {α : Type} {l : List α} {i j : Nat} {a d : α} : (l.set i a).getD j d = if i = j /\ i < l.length then a else l.getD j d := by
  simp only [List.getD_eq_getElem?_getD, List.getElem?_set]
  by_cases h : i = j
  ·subst h
   by_cases h2 : i < l.length
   ·simp [h2]
   simp [h2]
  simp [h]
theorem use_rl {tys st : List Int} {set : List Bool} {seen : List Int} (h : Rl tys.length st set seen) (v w : Int) : z55 tys seen v w = (z8v tys st v w).1 := by
  unfold z55 z8v z4q
  by_cases h0 : 0 <= v
  ·by_cases h1 : v < tys.length
   ·have hv : v = (v.toNat : Int) := by omega
    have hu := h.u v.toNat oM0
    rw [<- hv] at hu
    have e1 : decide (v < 0) = false := by simpa using h0
    have e2 : decide (v ≥ tys.length) = false := by simpa using h1
    have e3 : decide (0 <= v) = true := by simpa using h0
    have e4 : decide (v < tys.length) = true := by simpa using h1
    simp only [e1, e2, e3, e4, hu, Bool.false_or, Bool.true_and]
    clear hv e1 e2 e3 e4
    cases hw : (w == 0) <;> cases ht : (tys.getD v.toNat 0 == w) <;> cases hs : (st.getD v.toNat 0 == 1) <;> simp_all [bne]
   have e2 : decide (v ≥ tys.length) = true := by simp; omega
   have e4 : decide (v < tys.length) = false := by simp; omega
   simp [e2, e4]
  have e1 : decide (v < 0) = true := by simp; omega
  have e3 : decide (0 <= v) = false := by simp; omega
  simp [e1, e3]
theorem zq4 {tys st : List Int} {set : List Bool} {seen : List Int} (h : Rl tys.length st set seen) : ∀ (a b : List Int), z17 tys seen a b = (eqGo (z8v tys) st a b).1
  | [], _ => by simp [z17, eqGo]
  | _ :: _, [] => by simp [z17, eqGo]
  | x :: a, y :: b => by
    simp only [z17, eqGo, use_rl h x y]
    have h2 : (z8v tys st x y).2 = st := rfl
    cases hx : (z8v tys st x y).1 with
    | true => simp [h2, zq4 h a b]
    | false => simp
theorem zt8 {tys st : List Int} {set : List Bool} {seen : List Int} (h : Rl tys.length st set seen) (a b : List Int) : z0h tys seen a b = z12 tys st a b := by
  unfold z0h z12 eqf
  by_cases hl : (a.length : Int) = b.length
  ·rw [if_pos hl]
   have : ((a.length : Int) == b.length) = true := by simpa using hl
   rw [this, Bool.true_and, zq4 h]
  rw [if_neg hl]
  have : ((a.length : Int) == b.length) = false := by simpa using hl
  rw [this, Bool.false_and]
theorem set1_rl {tys st : List Int} {set : List Bool} {seen : List Int} (h : Rl tys.length st set seen) (v w : Int) :
    z66 tys set v w = !(z2o tys st v w).1 /\ ((z2o tys st v w).1 = true -> Rl tys.length (z2o tys st v w).2 (set.set v.toNat true) (seen ++ [v]) /\ 0 <= v /\ v < tys.length /\ seen.contains v = false) := by
  unfold z66 z2o z4q
  by_cases h0 : 0 <= v
  ·by_cases h1 : v < tys.length
   ·have hv : v = (v.toNat : Int) := by omega
    have hn : v.toNat < tys.length := by omega
    have hs := h.s v.toNat hn
    have hu := h.u v.toNat hn
    rw [<- hv] at hu
    have e1 : decide (v < 0) = false := by simpa using h0
    have e2 : decide (v ≥ tys.length) = false := by simpa using h1
    have e3 : decide (0 <= v) = true := by simpa using h0
    have e4 : decide (v < tys.length) = true := by simpa using h1
    simp only [e1, e2, e3, e4, hs, Bool.false_or, Bool.true_and]
    refine ⟨by clear hv e1 e2 e3 e4; cases hw : (w == 0) <;> cases ht : (tys.getD v.toNat 0 == w) <;> cases hz : (st.getD v.toNat 0 == 0) <;> simp_all [bne], fun hc => ?_⟩
    split at hc
    ·rename_i hif
     rw [if_pos hif]
     simp only [Bool.and_eq_true] at hif
     have hz : st.getD v.toNat 0 = 0 := by simpa using hif.2
     refine ⟨⟨by simpa using h.l1, by simpa using h.l2, fun j hj => ?_, fun j hj => ?_⟩, h0, h1, by rw [hu, hz]; rfl⟩
     ·rw [z7t, z7t]
      by_cases e : v.toNat = j
      ·subst e; simp [h.l1, h.l2, hn]
      simp only [e, false_and, if_false]; exact h.s j hj
     rw [z7t]
     simp only [List.contains_append, List.contains_cons, List.contains_nil, Bool.or_false]
     by_cases e : v.toNat = j
     ·subst e
      have : ((v.toNat : Int) == v) = true := by simpa using hv.symm
      rw [this, Bool.or_true, if_pos ⟨rfl, by rw [h.l1]; exact hn⟩]; rfl
     have : ((j : Int) == v) = false := by simp; omega
     simp only [e, false_and, if_false, this, Bool.or_false]
     exact h.u j hj
    cases hc
   have e2 : decide (v ≥ tys.length) = true := by simp; omega
   have e4 : decide (v < tys.length) = false := by simp; omega
   simp [e2, e4]
  have e1 : decide (v < 0) = true := by simp; omega
  have e3 : decide (0 <= v) = false := by simp; omega
  simp [e1, e3]
theorem zp5 {tys : List Int} : ∀ (a b st : List Int) (set : List Bool) (seen : List Int), a.length = b.length -> Rl tys.length st set seen ->
    (z1e tys set a b).1 = (eqGo (z2o tys) st a b).1 /\ ((eqGo (z2o tys) st a b).1 = true -> Rl tys.length (eqGo (z2o tys) st a b).2 (z1e tys set a b).2 (seen ++ a) /\ ∀ v ∈ a, 0 <= v /\ v < tys.length /\ seen.contains v = false)
  | [], _, st, set, seen, _, h => by simp [z1e, eqGo]; exact h
  | _ :: _, [], _, _, _, hl, _ => by simp at hl
  | x :: a, y :: b, st, set, seen, hl, h => by
    obtain ⟨h1, h2⟩ := set1_rl h x y
    simp only [z1e, eqGo, h1]
    cases hx : (z2o tys st x y).1 with
    | false => simp
    | true =>
      obtain ⟨h3, h4, h5, h6⟩ := h2 hx
      obtain ⟨ih1, ih2⟩ := zp5 a b _ _ _ (by simpa using hl) h3
      simp only [Bool.not_true, Bool.false_eq_true, if_false, if_true]
      refine ⟨ih1, fun hc => ?_⟩
      obtain ⟨h7, h8⟩ := ih2 hc
      refine ⟨by simpa using h7, fun v hv => ?_⟩
      rcases List.mem_cons.1 hv with rfl | hv
      ·exact ⟨h4, h5, h6⟩
      obtain ⟨g1, g2, g3⟩ := h8 v hv
      refine ⟨g1, g2, ?_⟩
      rw [List.contains_append, Bool.or_eq_false_iff] at g3
      exact g3.1
theorem y2i {tys st : List Int} {set : List Bool} {seen : List Int} (h : Rl tys.length st set seen) (a b : List Int) :
    (z0j tys set a b).1 = (z0q tys st a b).1 /\ ((z0q tys st a b).1 = true -> Rl tys.length (z0q tys st a b).2 (z0j tys set a b).2 (seen ++ a) /\ ∀ v ∈ a, 0 <= v /\ v < tys.length /\ seen.contains v = false) := by
  unfold z0j z0q eqf
  by_cases hl : (a.length : Int) = b.length
  ·have e : ((a.length : Int) == b.length) = true := by simpa using hl
   rw [if_pos hl, if_pos e]
   exact zp5 a b st set seen oM0 h
  have e : ¬ ((a.length : Int) == b.length) = true := by simpa using hl
  rw [if_neg hl, if_neg e]
  simp
theorem y0x {n : Nat} : ∀ (l st : List Int) (set : List Bool) (seen rest : List Int), (∀ v ∈ l, 0 <= v /\ v < n /\ rest.contains v = false) -> (∀ v ∈ l, st.getD v.toNat 0 ≠ 0) -> st.length = n -> set.length = n ->
    (∀ v : Nat, v < n -> set.getD v false = !(st.getD v 0 == 0)) -> (∀ v : Nat, v < n -> l.contains (v : Int) = false -> rest.contains (v : Int) = (st.getD v 0 == 1)) -> Rl n (z1v st l) set rest
  | [], st, set, _, rest, _, _, h1, h2, h3, h4 => ⟨h1, h2, h3, fun v hv => h4 v hv rfl⟩
  | x :: l, st, set, seen, rest, hin, hnz, h1, h2, h3, h4 => by
    obtain ⟨hx0, hx1, hx2⟩ := hin x (.head _)
    have hxn : x.toNat < n := by omega
    show Rl n (z1v (st.set x.toNat 2) l) set rest
    have hg : ∀ j, (st.set x.toNat 2).getD j 0 = if x.toNat = j then 2 else st.getD j 0 := fun j => by
      rw [z7t]; simp [h1, hxn]
    -- hidden values are no more among the seen
    have key : ∀ v : Nat, v < n -> l.contains (v : Int) = false -> rest.contains (v : Int) = ((st.set x.toNat 2).getD v 0 == 1) := by
      intro v hv hl
      rw [hg]
      by_cases e : x.toNat = v
      ·have hv2 : (v : Int) = x := by omega
       rw [if_pos e, hv2, hx2]; rfl
      rw [if_neg e]
      refine h4 v hv ?_
      have : ((v : Int) == x) = false := by simp; omega
      rw [List.contains_cons, this, hl]; rfl
    refine y0x l (st.set x.toNat 2) set seen rest (fun v hv => hin v (.tail _ hv)) (fun v hv => ?_) (by simpa using h1) h2 (fun v hv => ?_) key
    ·rw [hg]; split
     ·decide
     exact hnz v (.tail _ hv)
    rw [hg, h3 v hv]
    split
    ·rename_i e
     have := hnz x (.head _)
     rw [e] at this
     have hb : (st.getD v 0 == 0) = false := by simpa using this
     rw [hb]; rfl
    rfl
def PR (n : Nat) (seen outs : List Int) (r : Bool × List Int) (q : Bool × List Bool) : Prop :=
  q.1 = r.1 /\ (r.1 = true -> Rl n r.2 q.2 (seen ++ outs) /\ ∀ v ∈ outs, 0 <= v /\ v < n /\ seen.contains v = false)
theorem PR.no {n : Nat} {seen outs : List Int} {st : List Int} {set : List Bool} : PR n seen outs (false, st) (false, set) := ⟨rfl, fun h => by cases h⟩
theorem z94 {tys st : List Int} {set : List Bool} {seen : List Int} (h : Rl tys.length st set seen) {b b' : Bool} (hb : b = b') (outs want : List Int) : PR tys.length seen outs (andP b st (z0q tys st outs want)) (andS b' set (z0j tys set outs want)) := by
  subst hb
  cases b with
  | false => exact .no
  | true => exact y2i h outs want
theorem nil_rl {tys st : List Int} {set : List Bool} {seen : List Int} (h : Rl tys.length st set seen) {b b' : Bool} (hb : b = b') (outs : List Int) : PR tys.length seen outs (andP b st (z0q tys st outs [])) (b' && (outs.length : Int) == 0, set) := by
  subst hb
  cases b with
  | false => exact .no
  | true =>
    cases outs with
    | nil => exact ⟨rfl, fun _ => ⟨by rw [List.append_nil]; exact h, fun v hv => by simp at hv⟩⟩
    | cons v r =>
      have e : ¬ (((v :: r).length : Int) = (([] : List Int).length : Int)) := by simp; omega
      have e2 : (((v :: r).length : Int) == 0) = false := by simp; omega
      simp only [andP, if_true, z0q, eqf, if_neg e, e2, Bool.and_false]
      exact .no
theorem zu5 {n : Nat} {st : List Int} {set : List Bool} {seen : List Int} (h : Rl n st set seen) {b b' : Bool} (hb : b = b') {outs : List Int} (ho : b = true -> outs = []) : PR n seen outs (b, st) (b', set) := by
  subst hb
  refine ⟨rfl, fun hb => ?_⟩
  rw [ho hb]
  exact ⟨by simpa using h, fun v hv => by simp at hv⟩
theorem zs1 {op : Int} (h : z2v op = true) : z06 op = z08 op := by
  simp only [z2v, Bool.and_eq_true, decide_eq_true_eq] at h
  have h18 : (op == 18) = false := by simp; omega
  have h19 : (op == 19) = false := by simp; omega
  have h22 : (op == 22) = false := by simp; omega
  simp only [z06, z08, h18, h19, h22, Bool.or_false, Bool.false_eq_true, if_false]
theorem zs0 {op : Int} (h : z24 op = true) : z06 op = z08 op := by
  simp only [z24, Bool.and_eq_true, decide_eq_true_eq] at h
  have h18 : (op == 18) = false := by simp; omega
  have h19 : (op == 19) = false := by simp; omega
  simp only [z06, z08, h18, h19, Bool.false_or]
theorem y12 (op : Int) : (decide (z79 op > 0) && decide (op <= 17)) = z2v op := by
  by_cases h0 : op < 0
  ·have : z79 op = 0 := by simp [z79, h0]
   have h2 : z2v op = false := by simp [z2v]; omega
   rw [this, h2]; rfl
  by_cases h1 : op ≥ 29
  ·have : z79 op = 0 := by simp [z79, h1]
   have h2 : z2v op = false := by simp [z2v]; omega
   rw [this, h2]; rfl
  rcases y0f (op := op) oM0 oM0 with rfl | rfl | rfl | rfl | rfl | rfl | rfl | rfl | rfl | rfl | rfl | rfl | rfl | rfl | rfl | rfl | rfl | rfl | rfl | rfl | rfl | rfl | rfl | rfl | rfl | rfl | rfl | rfl | rfl <;> rfl
theorem y2m (u : Un) (f : Fl) {st : List Int} {set : List Bool} {seen : List Int} (h : Rl f.types.length st set seen) (x : Nd) (w : Wh) :
    PR f.types.length seen x.outs (if z1d x.kind then (z68 f st x w, st) else z02 u f st x) (z01 u f set x seen w) := by
  have U := fun want => (zt8 h x.args want).symm
  have hlen : ∀ b, z12 f.types st x.args [] = b -> ((x.args.length : Int) == 0) = b := fun b hb => by
    rw [<- hb]
    unfold z12 eqf
    cases x.args with
    | nil => rfl
    | cons a r =>
      have e : ¬ (((a :: r).length : Int) = (([] : List Int).length : Int)) := by simp; omega
      have e2 : (((a :: r).length : Int) == 0) = false := by simp; omega
      rw [if_neg e, e2]
  unfold z01 z02 z68 z2g z3y z0k
  by_cases k1 : x.kind = 1
  ·simp only [k1, z1d]; exact z94 h (U _) _ _
  by_cases k2 : x.kind = 2
  ·simp only [k2, z1d]; exact z94 h (by rw [U]) _ _
  by_cases k3 : x.kind = 3
  ·simp only [k3, z1d]
   cases ho : z24 x.op with
   | false => exact .no
   | true => rw [zs0 ho]; exact z94 h (by rw [U]) _ _
  by_cases k4 : x.kind = 4
  ·simp only [k4, z1d, y12]
   cases ho : z2v x.op with
   | false => exact .no
   | true => rw [zs1 ho]; exact z94 h (by rw [U]) _ _
  by_cases k5 : x.kind = 5
  ·simp only [k5, z1d]; exact z94 h (by rw [U]) _ _
  by_cases k6 : x.kind = 6
  ·simp only [k6, z1d]; exact nil_rl h (by rw [U]) _
  by_cases k7 : x.kind = 7
  ·simp only [k7, z1d]
   by_cases hp : z0a x.name u.flows 0 < 0
   ·have e : ¬ (decide (z0a x.name u.flows 0 ≥ 0)) = true := by simp; omega
    simp only [if_pos hp, if_neg e]
    exact .no
   have e : (decide (z0a x.name u.flows 0 ≥ 0)) = true := by simp; omega
   simp only [if_neg hp, if_pos e]
   cases u.flows[(z0a x.name u.flows 0).toNat]? with
   | none => exact .no
   | some g => exact z94 h (U _) _ _
  by_cases k8 : x.kind = 8
  ·simp only [k8, z1d]; exact z94 h (hlen _ rfl).symm _ _
  by_cases k9 : x.kind = 9
  ·simp only [k9, z1d]; exact nil_rl h (U _) _
  have out0 : ∀ c : Bool, ((x.outs.length : Int) == 0 && c) = true -> x.outs = [] := fun c hc => by
    simp only [Bool.and_eq_true, beq_iff_eq] at hc
    exact List.eq_nil_of_length_eq_zero oM0
  by_cases k12 : x.kind = 12
  ·simp only [k12, z1d]
   show PR _ _ _ ((x.outs.length : Int) == 0 && w.If && z12 f.types st x.args w.Yield, st) (w.If && z0h f.types seen x.args w.Yield && (x.outs.length : Int) == 0, set)
   exact zu5 h (by rw [<- U]; cases (w.If) <;> cases ((x.outs.length : Int) == 0) <;> simp) (fun hb => by rw [Bool.and_assoc] at hb; exact out0 _ hb)
  by_cases k13 : x.kind = 13
  ·simp only [k13, z1d]
   show PR _ _ _ ((x.outs.length : Int) == 0 && w.Loop && z12 f.types st x.args w.Next, st) (w.Loop && z0h f.types seen x.args w.Next && (x.outs.length : Int) == 0, set)
   exact zu5 h (by rw [<- U]; cases (w.Loop) <;> cases ((x.outs.length : Int) == 0) <;> simp) (fun hb => by rw [Bool.and_assoc] at hb; exact out0 _ hb)
  by_cases k14 : x.kind = 14
  ·simp only [k14, z1d]
   show PR _ _ _ ((x.outs.length : Int) == 0 && w.Loop && z12 f.types st x.args w.Left, st) (w.Loop && z0h f.types seen x.args w.Left && (x.outs.length : Int) == 0, set)
   exact zu5 h (by rw [<- U]; cases (w.Loop) <;> cases ((x.outs.length : Int) == 0) <;> simp) (fun hb => by rw [Bool.and_assoc] at hb; exact out0 _ hb)
  by_cases k15 : x.kind = 15
  ·simp only [k15, z1d]
   show PR _ _ _ ((x.outs.length : Int) == 0 && z12 f.types st x.args [f.ty], st) (z0h f.types seen x.args [f.ty] && (x.outs.length : Int) == 0, set)
   exact zu5 h (by rw [<- U]; exact Bool.and_comm _ _) (fun hb => out0 _ hb)
  have e1 : (x.kind == 1) = false := by simpa using k1
  have e2 : (x.kind == 2) = false := by simpa using k2
  have e3 : (x.kind == 3) = false := by simpa using k3
  have e4 : (x.kind == 4) = false := by simpa using k4
  have e5 : (x.kind == 5) = false := by simpa using k5
  have e6 : (x.kind == 6) = false := by simpa using k6
  have e7 : (x.kind == 7) = false := by simpa using k7
  have e8 : (x.kind == 8) = false := by simpa using k8
  have e9 : (x.kind == 9) = false := by simpa using k9
  have e12 : (x.kind == 12) = false := by simpa using k12
  have e13 : (x.kind == 13) = false := by simpa using k13
  have e14 : (x.kind == 14) = false := by simpa using k14
  have e15 : (x.kind == 15) = false := by simpa using k15
  have ee : z1d x.kind = false := by simp [z1d]; omega
  simp only [e1, e2, e3, e4, e5, e6, e7, e8, e9, e12, e13, e14, e15, ee, Bool.false_eq_true, if_false, Bool.or_false]
  exact .no
theorem zg0 : ∀ (l : List Nd) (st : List Int), z4p st l = z1v st (l.flatMap Nd.outs)
  | [], _ => rfl
  | x :: r, st => by
    have := zg0 r (z1v st x.outs)
    simp only [z4p, List.foldl_cons, List.flatMap_cons, z1v, List.foldl_append] at this ⊢
    exact this
theorem zl9 {n : Nat} {st : List Int} {set : List Bool} {all l : List Int} (h : Rl n st set (all ++ l)) (hl : ∀ v ∈ l, 0 <= v /\ v < n /\ all.contains v = false) : Rl n (z1v st l) set all := by
  refine y0x l st set [] all hl (fun v hv => ?_) h.l1 h.l2 h.s (fun v hv hc => ?_)
  ·obtain ⟨h0, h1, _⟩ := hl v hv
   have hu := h.u v.toNat oM0
   have hc : (all ++ l).contains ((v.toNat : Nat) : Int) = true := by
     rw [show ((v.toNat : Nat) : Int) = v by omega]
     simp [hv]
   rw [hc] at hu
   have : st.getD v.toNat 0 = 1 := by simpa using hu.symm
   rw [this]; decide
  have hu := h.u v hv
  rw [List.contains_append, hc, Bool.or_false] at hu
  exact hu
def LR (u : Un) (f : Fl) (l : List Nd) : Prop := ∀ (deep : Int) (w : Wh) (st : List Int) (set : List Bool) (seen : List Int), Rl f.types.length st set seen ->
  (z0f u f deep w seen set l).1 = (z0n u f deep w st l).1 /\ ((z0n u f deep w st l).1 = true -> Rl f.types.length (z0n u f deep w st l).2 (z0f u f deep w seen set l).2 seen)
theorem z9u {n : Nat} {seen outs : List Int} {r : Bool × List Int} {q : Bool × List Bool} {k : List Int -> Bool × List Int} {k' : List Bool -> Bool × List Bool} (h : q.1 = r.1) (hk : r.1 = true -> PR n seen outs (k r.2) (k' q.2)) : PR n seen outs (andQ r k) (andT q k') := by
  unfold andQ andT
  rw [h]
  cases hr : r.1 with
  | false => exact .no
  | true => exact hk hr
theorem y2o {f : Fl} {x : Nd} {st : List Int} {set : List Bool} {seen : List Int} (h : Rl f.types.length st set seen) : PR f.types.length seen x.outs (z18 f x st) (z14 f x set) := z94 h rfl _ _
theorem node_rl (u : Un) (f : Fl) (x : Nd) (ih : ∀ q ∈ x.kids, LR u f q) (deep : Int) (w : Wh) {st : List Int} {set : List Bool} {seen : List Int} (h : Rl f.types.length st set seen) :
    PR f.types.length seen x.outs (z2n u f deep w st x) (z0v u f deep w seen set x) := by
  cases hb : z0m x with
  | false => rw [z7k _ _ _ _ _ hb, z7h _ _ _ _ _ _ hb]; exact .no
  | true =>
    by_cases h10 : x.kind = 10
    ·obtain ⟨a, b, hk⟩ := z30 hb h10
     rw [zd3 _ _ _ _ _ hb h10 hk, z0z _ _ _ _ _ _ hb h10 hk, zt8 h]
     split
     ·obtain ⟨h1, h2⟩ := ih a (by rw [hk]; simp) (deep + 1) ⟨true, w.Loop, r8of f.types x.outs, w.Next, w.Left⟩ st set seen h
      refine z9u h1 fun ht => ?_
      obtain ⟨h3, h4⟩ := ih b (by rw [hk]; simp) (deep + 1) ⟨true, w.Loop, r8of f.types x.outs, w.Next, w.Left⟩ _ _ seen (h2 ht)
      exact z9u h3 fun ht2 => y2o (h4 ht2)
     exact .no
    by_cases h11 : x.kind = 11
    ·obtain ⟨a, hk⟩ := z22 hb h11
     rw [z7l _ _ _ _ _ hb h11 hk, z0b _ _ _ _ _ _ hb h11 hk, zt8 h]
     split
     ·obtain ⟨h1, h2⟩ := y2i h x.params (List.replicate x.params.length 0)
      refine z9u h1 fun ht => ?_
      obtain ⟨h3, h4⟩ := h2 ht
      obtain ⟨h5, h6⟩ := ih a (by rw [hk]; simp) (deep + 1) ⟨false, true, [], r8of f.types x.params, r8of f.types x.outs⟩ _ _ _ h3
      exact z9u h5 fun ht2 => y2o (zl9 (h6 ht2) h4)
     exact .no
    have e10 : (x.kind == 10) = false := by simpa using h10
    have e11 : (x.kind == 11) = false := by simpa using h11
    rw [z5q _ _ _ _ _ _ hb e10 e11]
    have hs := y2m u f h x w
    cases he : z1d x.kind with
    | true => rw [z8u _ _ _ _ _ hb e10 e11 he]; rw [if_pos he] at hs; exact hs
    | false => rw [z5t _ _ _ _ _ hb e10 e11 he]; rw [if_neg (by simp [he])] at hs; exact hs
theorem go_rl (u : Un) (f : Fl) (deep : Int) (w : Wh) : ∀ (l : List Nd), (∀ x ∈ l, ∀ q ∈ x.kids, LR u f q) -> ∀ (st : List Int) (set : List Bool) (all : List Int), Rl f.types.length st set all ->
    PR f.types.length all (l.flatMap Nd.outs) (shGo u f deep w st l) (r8go u f deep w all set l)
  | [], _, st, set, all, h => by
    unfold shGo r8go
    exact ⟨rfl, fun _ => ⟨by simpa using h, fun v hv => by simp at hv⟩⟩
  | x :: r, ih, st, set, all, h => by
    unfold shGo r8go
    by_cases hd : deep > 100
    ·rw [if_pos hd, if_pos hd]; exact .no
    rw [if_neg hd, if_neg hd]
    obtain ⟨h1, h2⟩ := node_rl u f x (ih x (.head _)) deep w h
    refine z9u h1 fun ht => ?_
    obtain ⟨h3, h4⟩ := h2 ht
    by_cases hc : (z0e x != r.isEmpty) = true
    ·rw [if_pos hc, if_pos hc]; exact .no
    rw [if_neg hc, if_neg hc]
    obtain ⟨h5, h6⟩ := go_rl u f deep w r (fun y hy => ih y (.tail _ hy)) _ _ _ h3
    refine ⟨h5, fun ht2 => ?_⟩
    obtain ⟨h7, h8⟩ := h6 ht2
    refine ⟨by simpa using h7, fun v hv => ?_⟩
    rw [List.flatMap_cons, List.mem_append] at hv
    rcases hv with hv | hv
    ·exact h4 v hv
    obtain ⟨g1, g2, g3⟩ := h8 v hv
    rw [List.contains_append, Bool.or_eq_false_iff] at g3
    exact ⟨g1, g2, g3.1⟩
theorem y13 (u : Un) (f : Fl) : ∀ (N : Nat) (l : List Nd), SizeOf.sizeOf l < N -> LR u f l
  | 0, _, h => absurd h (Nat.not_lt_zero _)
  | N + 1, l, hN => by
    intro deep w st set seen h
    have ih : ∀ x ∈ l, ∀ q ∈ x.kids, LR u f q := fun x hx q hq => y13 u f N q (Nat.lt_of_lt_of_le (z62 hx rfl hq) (Nat.le_of_lt_succ hN))
    obtain ⟨h1, h2⟩ := go_rl u f deep w l ih st set seen h
    unfold z0f z0n ne andQ
    cases l with
    | nil =>
      simp only [List.isEmpty_nil, if_true]
      unfold shGo
      simp [zp7]
    | cons x r =>
      simp only [List.isEmpty_cons, Bool.false_eq_true, if_false]
      rw [h1]
      cases hg : (shGo u f deep w st (x :: r)).1 with
      | false => simp [hg]
      | true =>
        obtain ⟨h3, h4⟩ := h2 hg
        simp only [if_true, zp7]
        refine ⟨by simp, fun _ => ?_⟩
        rw [zg0]
        exact zl9 h3 h4
theorem y2l (u : Un) (f : Fl) (deep : Int) (w : Wh) {st : List Int} {set : List Bool} {seen : List Int} (h : Rl f.types.length st set seen) (l : List Nd) : (z0n u f deep w st l).1 = (z0f u f deep w seen set l).1 :=
  ((y13 u f _ l (Nat.lt_succ_self _)) deep w st set seen h).1.symm
theorem start_rl {k n : Nat} (h : k <= n) : Rl n (z6l k n) (z2h k n) (iota k) := by
  refine ⟨z6m h, z2q h, fun v hv => ?_, fun v hv => ?_⟩
  ·simp only [z2h, z6l, List.getD_eq_getElem?_getD]
   by_cases e : v < k
   ·rw [List.getElem?_append_left (by simpa using e), List.getElem?_append_left (by simpa using e)]
    simp [List.getElem?_replicate, e]
   rw [List.getElem?_append_right (by simpa using e), List.getElem?_append_right (by simpa using e)]
   simp only [List.length_replicate, List.getElem?_replicate]
   rw [if_pos oM0, if_pos oM0]
   rfl
  have hc : (iota k).contains (v : Int) = decide (v < k) := by
    simp only [iota]
    by_cases e : v < k
    ·simp [e]
     exact ⟨v, e, rfl⟩
    simp [e]
    intro x hx; omega
  rw [hc]
  simp only [z6l, List.getD_eq_getElem?_getD]
  by_cases e : v < k
  ·rw [List.getElem?_append_left (by simpa using e)]
   simp [List.getElem?_replicate, e]
  rw [List.getElem?_append_right (by simpa using e)]
  simp only [List.length_replicate, List.getElem?_replicate]
  rw [if_pos oM0]
  simp [e]
theorem zu2 : ∀ l : List Int, l.any (fun t => !isTy t) = !l.all (fun t => t == 1 || t == 2)
  | [] => rfl
  | t :: r => by rw [List.any_cons, List.all_cons, zu2 r, Bool.not_and]; rfl
theorem y2j (u : Un) (f : Fl) (h0 : 0 <= f.params) (h1 : f.params <= f.types.length) : z77 u f = z2f u f := by
  unfold z77 z2f
  rw [y2l u f 1 z33 (start_rl (k := f.params.toNat) oM0) f.body]
  have e1 : decide (f.params < 0) = false := by simp; omega
  have e2 : decide (f.params > f.types.length) = false := by simp; omega
  have e3 := zu2 f.types
  rw [e1, e2, e3]
  cases decide (f.params > 8) <;> cases decide ((f.types.length : Int) > 20000) <;> cases f.types.all (fun t => t == 1 || t == 2) <;> simp
def nmA (l : List Ar) : List (List UInt8) := l.map fun a => a.name.toList
def nmF (l : List Fl) : List (List UInt8) := l.map fun a => a.name.toList
theorem z9v (nm : ByteArray) : ∀ (pre l : List Ar) (i : Int), (nm.toList ∈ nmA pre -> i <= z1h nm (pre ++ l) i /\ z1h nm (pre ++ l) i < i + pre.length) /\ (nm.toList ∉ nmA pre -> z1h nm (pre ++ l) i = z1h nm l (i + pre.length))
  | [], l, i => by simp [nmA]
  | a :: pre, l, i => by
    obtain ⟨h1, h2⟩ := z9v nm pre l (i + 1)
    rw [List.cons_append, show z1h nm (a :: (pre ++ l)) i = if (a.name.toList == nm.toList) = true then i else z1h nm (pre ++ l) (i + 1) from rfl]
    by_cases e : a.name.toList = nm.toList
    ·have eb : (a.name.toList == nm.toList) = true := by simpa using e
     rw [if_pos eb]
     refine ⟨fun _ => ⟨Int.le_refl _, by simp; omega⟩, fun h => absurd (by simp [nmA, e]) h⟩
    have eb : ¬ (a.name.toList == nm.toList) = true := by simpa using e
    rw [if_neg eb]
    refine ⟨fun h => ?_, fun h => ?_⟩
    ·have : nm.toList ∈ nmA pre := by
       simp only [nmA, List.map_cons, List.mem_cons] at h
       exact h.resolve_left fun h => e h.symm
     have := h1 this
     simp only [List.length_cons]; omega
    have : nm.toList ∉ nmA pre := fun hm => h (by simp only [nmA, List.map_cons, List.mem_cons]; exact .inr hm)
    rw [h2 this]
    congr 1
    simp only [List.length_cons]; omega
theorem z7f (nm : ByteArray) : ∀ (pre l : List Fl) (i : Int), (nm.toList ∈ nmF pre -> i <= z0a nm (pre ++ l) i /\ z0a nm (pre ++ l) i < i + pre.length) /\ (nm.toList ∉ nmF pre -> z0a nm (pre ++ l) i = z0a nm l (i + pre.length))
  | [], l, i => by simp [nmF]
  | a :: pre, l, i => by
    obtain ⟨h1, h2⟩ := z7f nm pre l (i + 1)
    rw [List.cons_append, show z0a nm (a :: (pre ++ l)) i = if (a.name.toList == nm.toList) = true then i else z0a nm (pre ++ l) (i + 1) from rfl]
    by_cases e : a.name.toList = nm.toList
    ·have eb : (a.name.toList == nm.toList) = true := by simpa using e
     rw [if_pos eb]
     refine ⟨fun _ => ⟨Int.le_refl _, by simp; omega⟩, fun h => absurd (by simp [nmF, e]) h⟩
    have eb : ¬ (a.name.toList == nm.toList) = true := by simpa using e
    rw [if_neg eb]
    refine ⟨fun h => ?_, fun h => ?_⟩
    ·have : nm.toList ∈ nmF pre := by
       simp only [nmF, List.map_cons, List.mem_cons] at h
       exact h.resolve_left fun h => e h.symm
     have := h1 this
     simp only [List.length_cons]; omega
    have : nm.toList ∉ nmF pre := fun hm => h (by simp only [nmF, List.map_cons, List.mem_cons]; exact .inr hm)
    rw [h2 this]
    congr 1
    simp only [List.length_cons]; omega
theorem y1h (nm : ByteArray) (l : List Fl) : z0a nm l 0 ≥ 0 ↔ nm.toList ∈ nmF l := by
  obtain ⟨h1, h2⟩ := z7f nm l [] 0
  rw [List.append_nil] at h1 h2
  by_cases h : nm.toList ∈ nmF l
  ·exact ⟨fun _ => h, fun h => (h1 h).1⟩
  refine ⟨fun h3 => ?_, fun h4 => absurd h4 h⟩
  rw [h2 h] at h3
  simp [z0a] at h3
theorem array_at (nm : ByteArray) (pre r : List Ar) (a : Ar) (h : a.name.toList = nm.toList) : z1h nm (pre ++ a :: r) 0 = pre.length ↔ nm.toList ∉ nmA pre := by
  obtain ⟨h1, h2⟩ := z9v nm pre (a :: r) 0
  by_cases e : nm.toList ∈ nmA pre
  ·have := h1 e
   exact ⟨fun h => by omega, fun h => absurd e h⟩
  refine ⟨fun _ => e, fun _ => ?_⟩
  rw [h2 e]
  have eb : (a.name.toList == nm.toList) = true := by simpa using h
  rw [show z1h nm (a :: r) (0 + pre.length) = if (a.name.toList == nm.toList) = true then (0 + pre.length : Int) else z1h nm r (0 + pre.length + 1) from rfl, if_pos eb]
  omega
theorem place_at (nm : ByteArray) (pre r : List Fl) (a : Fl) (h : a.name.toList = nm.toList) : z0a nm (pre ++ a :: r) 0 = pre.length ↔ nm.toList ∉ nmF pre := by
  obtain ⟨h1, h2⟩ := z7f nm pre (a :: r) 0
  by_cases e : nm.toList ∈ nmF pre
  ·have := h1 e
   exact ⟨fun h => by omega, fun h => absurd e h⟩
  refine ⟨fun _ => e, fun _ => ?_⟩
  rw [h2 e]
  have eb : (a.name.toList == nm.toList) = true := by simpa using h
  rw [show z0a nm (a :: r) (0 + pre.length) = if (a.name.toList == nm.toList) = true then (0 + pre.length : Int) else z0a nm r (0 + pre.length + 1) from rfl, if_pos eb]
  omega
theorem gA_iff (u : Un) : ∀ (pre l : List Ar), u.arrays = pre ++ l -> (r8gA u l pre.length = true ↔ (∀ a ∈ l, z67 a = true /\ a.name.toList ∉ nmF u.flows /\ a.name.toList ∉ nmA pre) /\ (nmA l).Nodup)
  | pre, [], _ => by simp [r8gA, nmA]
  | pre, a :: r, hu => by
    have ih := gA_iff u (pre ++ [a]) r (by simp [hu])
    have hlen : (((pre ++ [a]).length : Nat) : Int) = (pre.length : Int) + 1 := by simp
    rw [hlen] at ih
    rw [r8gA, Bool.and_eq_true, ih]
    have ha : gArr u a pre.length = true ↔ z67 a = true /\ a.name.toList ∉ nmA pre /\ a.name.toList ∉ nmF u.flows := by
      have h1 := array_at a.name pre r a rfl
      have h2 := y1h a.name u.flows
      rw [<- hu] at h1
      unfold gArr z67
      simp only [Bool.and_eq_true, Bool.not_eq_true', decide_eq_false_iff_not, beq_iff_eq, h1, h2]
      constructor
      ·rintro ⟨⟨⟨⟨a1, a2⟩, a3⟩, a4⟩, a5⟩; exact ⟨⟨⟨a1, a2⟩, a3⟩, a4, a5⟩
      rintro ⟨⟨⟨a1, a2⟩, a3⟩, a4, a5⟩; exact ⟨⟨⟨⟨a1, a2⟩, a3⟩, a4⟩, a5⟩
    rw [ha]
    constructor
    ·rintro ⟨⟨b1, b2, b3⟩, b4, b5⟩
     refine ⟨fun x hx => ?_, ?_⟩
     ·rcases List.mem_cons.1 hx with rfl | hx
      ·exact ⟨b1, b3, b2⟩
      obtain ⟨c1, c2, c3⟩ := b4 x hx
      exact ⟨c1, c2, fun h => c3 (by simp only [nmA, List.map_append, List.mem_append]; exact .inl h)⟩
     refine List.nodup_cons.2 ⟨fun h => ?_, b5⟩
     obtain ⟨x, hx, e⟩ := List.mem_map.1 h
     exact (b4 x hx).2.2 (by simp only [nmA, List.map_append, List.mem_append, List.map_cons, List.map_nil, List.mem_singleton]; exact .inr e)
    rintro ⟨b1, b2⟩
    have b3 := List.nodup_cons.1 b2
    obtain ⟨c1, c2, c3⟩ := b1 a (.head _)
    refine ⟨⟨c1, c3, c2⟩, fun x hx => ?_, b3.2⟩
    obtain ⟨d1, d2, d3⟩ := b1 x (.tail _ hx)
    refine ⟨d1, d2, fun h => ?_⟩
    simp only [nmA, List.map_append, List.mem_append, List.map_cons, List.map_nil, List.mem_singleton] at h
    rcases h with h | h
    ·exact d3 h
    exact b3.1 (List.mem_map.2 ⟨x, hx, h⟩)
theorem gF_iff (u : Un) : ∀ (pre l : List Fl), u.flows = pre ++ l -> (r8gF u l pre.length = true ↔ (∀ a ∈ l, z4w a = true /\ a.name.toList ∉ nmF pre) /\ (nmF l).Nodup)
  | pre, [], _ => by simp [r8gF, nmF]
  | pre, a :: r, hu => by
    have ih := gF_iff u (pre ++ [a]) r (by simp [hu])
    have hlen : (((pre ++ [a]).length : Nat) : Int) = (pre.length : Int) + 1 := by simp
    rw [hlen] at ih
    rw [r8gF, Bool.and_eq_true, ih]
    have ha : gFlw u a pre.length = true ↔ z4w a = true /\ a.name.toList ∉ nmF pre := by
      have h1 := place_at a.name pre r a rfl
      rw [<- hu] at h1
      unfold gFlw z4w isTy
      simp only [Bool.and_eq_true, Bool.not_eq_true', decide_eq_false_iff_not, beq_iff_eq, h1]
      constructor
      ·rintro ⟨⟨⟨⟨a1, a2⟩, a3⟩, a4⟩, a5⟩; exact ⟨⟨⟨⟨a1, a3⟩, a4⟩, a5⟩, a2⟩
      rintro ⟨⟨⟨⟨a1, a3⟩, a4⟩, a5⟩, a2⟩; exact ⟨⟨⟨⟨a1, a2⟩, a3⟩, a4⟩, a5⟩
    rw [ha]
    constructor
    ·rintro ⟨⟨b1, b2⟩, b4, b5⟩
     refine ⟨fun x hx => ?_, ?_⟩
     ·rcases List.mem_cons.1 hx with rfl | hx
      ·exact ⟨b1, b2⟩
      obtain ⟨c1, c3⟩ := b4 x hx
      exact ⟨c1, fun h => c3 (by simp only [nmF, List.map_append, List.mem_append]; exact .inl h)⟩
     refine List.nodup_cons.2 ⟨fun h => ?_, b5⟩
     obtain ⟨x, hx, e⟩ := List.mem_map.1 h
     exact (b4 x hx).2 (by simp only [nmF, List.map_append, List.mem_append, List.map_cons, List.map_nil, List.mem_singleton]; exact .inr e)
    rintro ⟨b1, b2⟩
    have b3 := List.nodup_cons.1 b2
    obtain ⟨c1, c3⟩ := b1 a (.head _)
    refine ⟨⟨c1, c3⟩, fun x hx => ?_, b3.2⟩
    obtain ⟨d1, d3⟩ := b1 x (.tail _ hx)
    refine ⟨d1, fun h => ?_⟩
    simp only [nmF, List.map_append, List.mem_append, List.map_cons, List.map_nil, List.mem_singleton] at h
    rcases h with h | h
    ·exact d3 h
    exact b3.1 (List.mem_map.2 ⟨x, hx, h⟩)
def z1t (es : List (Value × PV)) : List (List UInt8) := es.map fun e => match e.1 with
  | .string s => s.toList
  | _ => []
theorem zb0 (s : ByteArray) (v : PV) : ∀ (es : List (Value × PV)), Cnt es -> (s.toList ∈ z1t es -> z1t (mput (.string s) v es) = z1t es) /\ (s.toList ∉ z1t es -> z1t (mput (.string s) v es) = z1t es ++ [s.toList])
  | [], _ => by simp [z1t, mput]
  | (a, p) :: r, h => by
    have ha := h.1 (a, p) (.head _)
    have hr : Cnt r := ⟨fun e he => h.1 e (.tail _ he), fun e he => h.2 e (.tail _ he)⟩
    obtain ⟨h1, h2⟩ := zb0 s v r hr
    cases a with
    | string t =>
      simp only [mput]
      by_cases e : s.toList = t.toList
      ·have eb : keyB (.string s) (.string t) = true := by simpa [keyB] using e
       rw [if_pos eb]
       exact ⟨fun _ => by simp [z1t, e], fun h => absurd (by simp [z1t, e]) h⟩
      have eb : ¬ keyB (.string s) (.string t) = true := by simpa [keyB] using e
      rw [if_neg eb]
      refine ⟨fun h => ?_, fun h => ?_⟩
      ·have : s.toList ∈ z1t r := by
         simp only [z1t, List.map_cons, List.mem_cons] at h
         exact h.resolve_left e
       have h3 := h1 this
       simp only [z1t, List.map_cons] at h3 ⊢
       rw [h3]
      have : s.toList ∉ z1t r := fun hm => h (by simp only [z1t, List.map_cons, List.mem_cons]; exact .inr hm)
      have h3 := h2 this
      simp only [z1t, List.map_cons, List.cons_append] at h3 ⊢
      rw [h3]
    | _ => simp [z2e] at ha
theorem zr0 (s : ByteArray) {es : List (Value × PV)} (h : Cnt es) : (s.toList ∈ z1t es -> z1t (bump s es) = z1t es) /\ (s.toList ∉ z1t es -> z1t (bump s es) = z1t es ++ [s.toList]) := by
  obtain ⟨n, hn⟩ := h.find (.string s)
  rw [zh8 hn]
  exact zb0 s _ es h
def z9z (es : List (Value × PV)) (l : List ByteArray) : List (Value × PV) := l.foldl (fun e s => bump s e) es
def nmS (l : List ByteArray) : List (List UInt8) := l.map ByteArray.toList
theorem zf5 : ∀ (l : List ByteArray) (es : List (Value × PV)), Cnt es -> (z1t (z9z es l)).length <= (z1t es).length + l.length /\
    ((z1t (z9z es l)).length = (z1t es).length + l.length ↔ (∀ s ∈ l, s.toList ∉ z1t es) /\ (nmS l).Nodup)
  | [], es, _ => by simp [z9z, nmS]
  | s :: r, es, h => by
    obtain ⟨ih1, ih2⟩ := zf5 r (bump s es) (h.bump s)
    obtain ⟨h1, h2⟩ := zr0 s h
    show (z1t (z9z (bump s es) r)).length <= _ /\ ((z1t (z9z (bump s es) r)).length = _ ↔ _)
    by_cases e : s.toList ∈ z1t es
    ·rw [h1 e] at ih1
     refine ⟨by simp only [List.length_cons]; omega, fun hl => by simp only [List.length_cons] at hl; omega, fun hb => absurd e (hb.1 s (.head _))⟩
    have hk := h2 e
    rw [hk] at ih1 ih2
    simp only [List.length_append, List.length_cons, List.length_nil] at ih1 ih2 ⊢
    refine ⟨by omega, ?_⟩
    rw [show (z1t es).length + (r.length + 1) = (z1t es).length + (0 + 1) + r.length by omega, ih2]
    constructor
    ·rintro ⟨b1, b2⟩
     refine ⟨fun x hx => ?_, List.nodup_cons.2 ⟨fun hm => ?_, b2⟩⟩
     ·rcases List.mem_cons.1 hx with rfl | hx
      ·exact e
      exact fun hm => b1 x hx (List.mem_append.2 (.inl hm))
     obtain ⟨x, hx, he⟩ := List.mem_map.1 hm
     exact b1 x hx (by rw [he]; simp)
    rintro ⟨b1, b2⟩
    have b3 := List.nodup_cons.1 b2
    refine ⟨fun x hx hm => ?_, b3.2⟩
    rcases List.mem_append.1 hm with hm | hm
    ·exact b1 x (.tail _ hx) hm
    exact b3.1 (List.mem_map.2 ⟨x, hx, by simpa using hm⟩)
theorem y0l (u : Un) : ((z9y (z93 [] u.arrays) u.flows).length : Int) = u.arrays.length + u.flows.length ↔ (nmA u.arrays ++ nmF u.flows).Nodup := by
  have e : z9y (z93 [] u.arrays) u.flows = z9z [] (u.arrays.map Ar.name ++ u.flows.map Fl.name) := by
    simp only [z9y, z93, z9z, List.foldl_append, List.foldl_map]
  have hn : nmS (u.arrays.map Ar.name ++ u.flows.map Fl.name) = nmA u.arrays ++ nmF u.flows := by
    simp only [nmS, nmA, nmF, List.map_append, List.map_map]
    rfl
  obtain ⟨_, h2⟩ := zf5 (u.arrays.map Ar.name ++ u.flows.map Fl.name) [] .nil
  rw [e]
  simp only [z1t, List.length_map, List.length_append, List.length_nil, Nat.zero_add] at h2
  rw [<- hn]
  constructor
  ·intro h; exact (h2.1 oM0).2
  intro h
  have := h2.2 ⟨fun s _ => by simp, h⟩
  omega
theorem y2k (u : Un) : z31 u = z0s u := by
  have hA := gA_iff u [] u.arrays rfl
  have hF := gF_iff u [] u.flows rfl
  simp only [List.length_nil] at hA hF
  rw [Bool.eq_iff_iff]
  unfold z31 z0s
  simp only [Bool.and_eq_true, List.all_eq_true, beq_iff_eq, y0l]
  rw [show ((0 : Nat) : Int) = 0 from rfl] at hA hF
  rw [hA, hF, List.nodup_append]
  constructor
  ·rintro ⟨⟨⟨a1, a2⟩, a3, a4, a5⟩, a6⟩
   exact ⟨⟨⟨fun a ha => ⟨a1 a ha, fun hm => a5 _ (List.mem_map.2 ⟨a, ha, rfl⟩) _ hm rfl, by simp [nmA]⟩, a3⟩, fun f hf => ⟨a2 f hf, by simp [nmF]⟩, a4⟩, a6⟩
  rintro ⟨⟨⟨a1, a3⟩, a2, a4⟩, a6⟩
  refine ⟨⟨⟨fun a ha => (a1 a ha).1, fun f hf => (a2 f hf).1⟩, a3, a4, fun x hx y hy e => ?_⟩, a6⟩
  obtain ⟨a, ha, rfl⟩ := List.mem_map.1 hx
  exact (a1 a ha).2.1 (e ▸ hy)
theorem zh3 (u : Un) : ∀ (l : List Fl) (i : Int), (∀ f ∈ l, 0 <= f.params /\ f.params <= f.types.length) -> z5v u l i = z3f u l i
  | [], _, _ => rfl
  | f :: r, i, h => by
    obtain ⟨h1, h2⟩ := h f (.head _)
    simp only [z5v, z3f, y2j u f h1 h2, zh3 u r (i + 1) (fun f hf => h f (.tail _ hf))]
theorem z3b (u : Un) : z2m u = z1i u := by
  unfold z2m z1i
  rw [y2k]
  cases h : z0s u with
  | false => rfl
  | true => simp only [if_true]; exact zh3 u _ _ (z63 h)
theorem Nd.enc_one (x : Nd) : ∀ y ∈ x.enc, y.one = true := by
  rw [Nd.enc_eq, Nd.cells_eta]
  intro y hy
  simp only [List.mem_cons, List.not_mem_nil, or_false] at hy
  rcases hy with rfl | rfl | rfl | rfl | rfl | rfl | rfl | rfl <;> rfl
def vKey (v : Int) : Value := .int .i64 v
theorem z7r (l : List Nd) (x : Nd) : (l ++ [x]).map Nd.enc = l.map Nd.enc ++ [[vInt x.kind, vInt x.op, vInt x.n, vStr x.name, ints x.args, ints x.outs, ints x.params, kids x.kids]] := by
  rw [List.map_append, List.map_cons, List.map_nil, Nd.enc_eq, Nd.cells_eta]
theorem zx0 (x : Nd) : ∀ el ∈ z09 8 1 [vInt x.kind, vInt x.op, vInt x.n, vStr x.name, ints x.args, ints x.outs, ints x.params, kids x.kids], ∀ y ∈ el, y.one = true := by
  intro el hel
  have : el = x.enc := by
    rw [Nd.enc_eq, Nd.cells_eta]
    exact List.mem_singleton.1 hel
  subst this
  exact x.enc_one
theorem z4f (a b c : Int) (s : ByteArray) (l1 l2 l3 : List Int) (ks : List (List Nd)) : ∀ el ∈ z09 8 1 [vInt a, vInt b, vInt c, vStr s, ints l1, ints l2, ints l3, kids ks], ∀ y ∈ el, y.one = true := zx0 (.mk a b c s l1 l2 l3 ks)
theorem kd_len : ∀ ks : List (List Nd), ks.length <= kdW ks
  | [] => by simp
  | l :: r => by have := kd_len r; simp only [kdW, List.length_cons]; omega
theorem zx1 (a : ByteArray) (b c : Int) (l : List Int) (ns : List Nd) : ∀ el ∈ z09 5 1 [vStr a, vInt b, vInt c, ints l, z07 ns], ∀ y ∈ el, y.one = true := by
  intro el hel y hy
  rw [List.mem_singleton.1 hel] at hy
  simp only [List.take, List.mem_cons, List.not_mem_nil, or_false] at hy
  rcases hy with rfl | rfl | rfl | rfl | rfl <;> rfl
theorem z8i {F : Nat -> Prop} {ρ : Loc} {σ : Heap'} {w : World} {v : Value} (h : RepI F ρ σ w (.pv (.agg [.val (.slice none 0 0), .val (.slice none 0 0)])) v) : RepI F ρ σ w (.pv (Un.enc ⟨[], []⟩)) v :=
  z42 (PSub.agg (ps := [.val (.slice none 0 0), .val (.slice none 0 0)]) (qs := [.seq [], .seq []]) (And.intro PSub.nil (And.intro PSub.nil trivial))) h
def z2r (a b : List Int) (k : Nat) : Bool := decide (k < a.length) && decide (k < b.length) && a.getD k 0 == b.getD k 0
def z75 (a b : List Int) (n : Int) : Bool := (List.range n.toNat).all (z2r a b)
def z6b (f g : Fl) : Bool := f.name.toList == g.name.toList && f.ty == g.ty && f.params == g.params && z75 f.types g.types f.params
def z3a : List Fl -> List Fl -> Bool
  | [], [] => true
  | x :: a, y :: b => z6b x y && z3a a b
  | _, _ => false
def z1n (u v : Un) : Bool := u.arrays.length == v.arrays.length && u.flows.length == v.flows.length && z3w u.arrays v.arrays && z3a u.flows v.flows
theorem za4 {a b : List Int} {n : Int} {k : Nat} (h : (k : Int) < n) (hk : z2r a b k = false) : z75 a b n = false := by
  unfold z75
  rw [List.all_eq_false]
  exact ⟨k, by simp; omega, by simp [hk]⟩
theorem zf9 {a b : List Int} {n : Int} {k : Nat} (h : n <= k) (hk : ∀ i, i < k -> z2r a b i = true) : z75 a b n = true := by
  unfold z75
  rw [List.all_eq_true]
  intro i hi
  exact hk i (by simp at hi; omega)
theorem zy8 (a : Ar) : zc4 a a = true := by simp [zc4]
theorem zc5 : ∀ l : List Ar, z3w l l = true
  | [] => rfl
  | a :: r => by simp [z3w, zy8, zc5 r]
def inR (n : Nat) (ds : List Int) : Prop := ∀ v ∈ ds, 0 <= v /\ v < n
def Frs (set : List Bool) (ds : List Int) : Prop := ds.Nodup /\ ∀ v ∈ ds, set.getD v.toNat false = false
def z1z (set : List Bool) (ds : List Int) : List Bool := ds.foldl (fun s v => s.set v.toNat true) set
theorem z2j : ∀ (ds : List Int) (set : List Bool), (z1z set ds).length = set.length
  | [], _ => rfl
  | v :: r, set => by have := z2j r (set.set v.toNat true); simpa [z1z] using this
theorem z6d (set : List Bool) (a b : List Int) : z1z set (a ++ b) = z1z (z1z set a) b := by simp [z1z]
theorem za9 {n : Nat} : ∀ (ds : List Int) (set : List Bool), set.length = n -> inR n ds -> ∀ v : Int, 0 <= v -> v < n -> (z1z set ds).getD v.toNat false = (ds.contains v || set.getD v.toNat false)
  | [], set, _, _, v, _, _ => by simp [z1z]
  | d :: r, set, hn, hr, v, h0, h1 => by
    have ih := za9 r (set.set d.toNat true) (by simpa using hn) (fun v hv => hr v (.tail _ hv)) v h0 h1
    obtain ⟨d0, d1⟩ := hr d (.head _)
    show (z1z (set.set d.toNat true) r).getD v.toNat false = _
    rw [ih, z7t, List.contains_cons]
    by_cases e : v = d
    ·subst e
     rw [if_pos ⟨rfl, by omega⟩]; simp
    have e2 : ¬ (d.toNat = v.toNat /\ d.toNat < set.length) := by omega
    have e3 : (v == d) = false := by simpa using e
    rw [if_neg e2, e3, Bool.false_or]
theorem za3 {n : Nat} {set : List Bool} {a b : List Int} (hn : set.length = n) (ha : inR n a) (hb : inR n b) : Frs set (a ++ b) ↔ Frs set a /\ Frs (z1z set a) b := by
  unfold Frs
  rw [List.nodup_append]
  constructor
  ·rintro ⟨⟨h1, h2, h3⟩, h4⟩
   refine ⟨⟨h1, fun v hv => h4 v (by simp [hv])⟩, h2, fun v hv => ?_⟩
   rw [za9 a set hn ha v (hb v hv).1 (hb v hv).2, h4 v (by simp [hv])]
   have : a.contains v = false := by
     rw [<- Bool.not_eq_true, List.contains_iff_mem]
     exact fun hm => h3 v hm v hv rfl
   rw [this]; rfl
  rintro ⟨⟨h1, h2⟩, h3, h4⟩
  have hkey : ∀ v ∈ b, a.contains v = false /\ set.getD v.toNat false = false := fun v hv => by
    have := h4 v hv
    rw [za9 a set hn ha v (hb v hv).1 (hb v hv).2, Bool.or_eq_false_iff] at this
    exact this
  refine ⟨⟨h1, h3, fun x hx y hy e => ?_⟩, fun v hv => ?_⟩
  ·subst e
   have := (hkey x hy).1
   rw [<- Bool.not_eq_true, List.contains_iff_mem] at this
   exact this hx
  rcases List.mem_append.1 hv with hv | hv
  ·exact h2 v hv
  exact (hkey v hv).2
def z3j (tys : List Int) : List Int -> List Int -> Bool
  | [], [] => true
  | v :: r, w :: ws => z4q tys v w && z3j tys r ws
  | _, _ => false
theorem z34 {tys : List Int} : ∀ {l want : List Int}, z3j tys l want = true -> inR tys.length l
  | [], [], _ => fun v hv => by simp at hv
  | [], _ :: _, h => by simp [z3j] at h
  | _ :: _, [], h => by simp [z3j] at h
  | x :: r, w :: ws, h => by
    simp only [z3j, Bool.and_eq_true, z4q, decide_eq_true_eq] at h
    intro v hv
    rcases List.mem_cons.1 hv with rfl | hv
    ·exact ⟨h.1.1.1, h.1.1.2⟩
    exact z34 h.2 v hv
theorem zq5 {tys : List Int} : ∀ {l want : List Int}, z3j tys l want = true -> l.length = want.length
  | [], [], _ => rfl
  | [], _ :: _, h => by simp [z3j] at h
  | _ :: _, [], h => by simp [z3j] at h
  | x :: r, w :: ws, h => by
    simp only [z3j, Bool.and_eq_true] at h
    simp [zq5 h.2]
theorem y0e (tys : List Int) (set : List Bool) (v w : Int) : z66 tys set v w = false ↔ z4q tys v w = true /\ set.getD v.toNat false = false := by
  unfold z66 z4q
  simp only [Bool.or_eq_false_iff, decide_eq_false_iff_not, Bool.and_eq_true, decide_eq_true_eq, Bool.or_eq_true]
  constructor
  ·rintro ⟨⟨⟨h1, h2⟩, h3⟩, h4⟩
   refine ⟨⟨⟨by omega, by omega⟩, ?_⟩, h3⟩
   cases hw : (w == 0) with
   | true => exact .inl rfl
   | false => exact .inr (by simpa [bne, hw] using h4)
  rintro ⟨⟨⟨h1, h2⟩, h4⟩, h3⟩
  refine ⟨⟨⟨by omega, by omega⟩, h3⟩, ?_⟩
  rcases h4 with h4 | h4
  ·simp [bne, h4]
  rw [show (tys.getD v.toNat 0 != w) = false from by rw [bne, h4]; rfl, Bool.and_false]
theorem zh1 (tys : List Int) : ∀ (l want : List Int) (set : List Bool), l.length = want.length -> set.length = tys.length ->
    ((z1e tys set l want).1 = true ↔ z3j tys l want = true /\ Frs set l) /\ ((z1e tys set l want).1 = true -> (z1e tys set l want).2 = z1z set l)
  | [], [], set, _, _ => by simp [z1e, z3j, Frs, z1z]
  | [], _ :: _, _, h, _ => by simp at h
  | _ :: _, [], _, h, _ => by simp at h
  | x :: r, w :: ws, set, hl, hn => by
    obtain ⟨ih1, ih2⟩ := zh1 tys r ws (set.set x.toNat true) (by simpa using hl) (by simpa using hn)
    simp only [z1e]
    cases hb : z66 tys set x w with
    | true =>
      simp only [if_true, Bool.false_eq_true, false_iff, not_and, false_implies, and_true]
      intro h1 h2
      simp only [z3j, Bool.and_eq_true] at h1
      have := (y0e tys set x w).2 ⟨h1.1, h2.2 x (.head _)⟩
      rw [hb] at this; cases this
    | false =>
      obtain ⟨b1, b2⟩ := (y0e tys set x w).1 hb
      simp only [Bool.false_eq_true, if_false]
      refine ⟨?_, fun h => ih2 h⟩
      rw [ih1]
      simp only [z3j, b1, Bool.true_and]
      refine and_congr_right fun hv => ?_
      have hx : inR tys.length [x] := fun v hv => by
        obtain rfl := List.mem_singleton.1 hv
        simp only [z4q, Bool.and_eq_true, decide_eq_true_eq] at b1
        exact ⟨b1.1.1, b1.1.2⟩
      have := za3 (a := [x]) (b := r) hn hx (z34 hv)
      rw [show x :: r = [x] ++ r from rfl, this]
      exact ⟨fun h => ⟨⟨by simp, fun v hv => by obtain rfl := List.mem_singleton.1 hv; exact b2⟩, h⟩, fun h => h.2⟩
theorem zj6 (tys : List Int) (set : List Bool) (l want : List Int) (hn : set.length = tys.length) :
    ((z0j tys set l want).1 = true ↔ z3j tys l want = true /\ Frs set l) /\ ((z0j tys set l want).1 = true -> (z0j tys set l want).2 = z1z set l) := by
  unfold z0j
  by_cases hl : l.length = want.length
  ·have e : ((l.length : Int) == want.length) = true := by simp; omega
   rw [if_pos e]
   exact zh1 tys l want set hl hn
  have e : ¬ ((l.length : Int) == want.length) = true := by simp; omega
  rw [if_neg e]
  refine ⟨⟨fun h => (by cases h), fun h => absurd (zq5 h.1) hl⟩, fun h => by cases h⟩
structure SForm where
  b : Bool
  want : Option (List Int)
def SForm.run (s : SForm) (tys : List Int) (outs : List Int) (set : List Bool) : Bool × List Bool := match s.want with
  | some wt => andS s.b set (z0j tys set outs wt)
  | none => (s.b && (outs.length : Int) == 0, set)
def SForm.ok (s : SForm) (tys : List Int) (outs : List Int) : Bool := match s.want with
  | some wt => s.b && z3j tys outs wt
  | none => s.b && (outs.length : Int) == 0
def z6i (u : Un) (f : Fl) (x : Nd) (seen : List Int) (w : Wh) : SForm :=
  if x.kind == 1 then ⟨z0h f.types seen x.args [], some [1]⟩
  else if x.kind == 2 then ⟨(x.n == 0 || x.n == 1) && z0h f.types seen x.args [], some [2]⟩
  else if x.kind == 3 then ⟨z24 x.op && z0h f.types seen x.args [(z08 x.op).1], some [(z08 x.op).2]⟩
  else if x.kind == 4 then ⟨z2v x.op && z0h f.types seen x.args [(z08 x.op).1, (z08 x.op).1] && f.types.getD (x.args.getD 0 0).toNat 0 == f.types.getD (x.args.getD 1 0).toNat 0, some [(z08 x.op).2]⟩
  else if x.kind == 5 then ⟨decide (z1h x.name u.arrays 0 ≥ 0) && z0h f.types seen x.args [1], some [1]⟩
  else if x.kind == 6 then ⟨decide (z1h x.name u.arrays 0 ≥ 0) && z0h f.types seen x.args [1, 1], none⟩
  else if x.kind == 7 then (if decide (z0a x.name u.flows 0 ≥ 0) = true then match u.flows[(z0a x.name u.flows 0).toNat]? with
      | some g => ⟨z0h f.types seen x.args (g.types.take g.params.toNat), some [g.ty]⟩
      | none => ⟨false, none⟩
    else ⟨false, none⟩)
  else if x.kind == 8 then ⟨(x.args.length : Int) == 0, some [1]⟩
  else if x.kind == 9 then ⟨z0h f.types seen x.args [1], none⟩
  else if x.kind == 12 then ⟨w.If && z0h f.types seen x.args w.Yield, none⟩
  else if x.kind == 13 then ⟨w.Loop && z0h f.types seen x.args w.Next, none⟩
  else if x.kind == 14 then ⟨w.Loop && z0h f.types seen x.args w.Left, none⟩
  else if x.kind == 15 then ⟨z0h f.types seen x.args [f.ty], none⟩
  else ⟨false, none⟩
theorem zt5 (u : Un) (f : Fl) (set : List Bool) (x : Nd) (seen : List Int) (w : Wh) : z01 u f set x seen w = (z6i u f x seen w).run f.types x.outs set := by
  unfold z01 z6i z0k
  by_cases k1 : (x.kind == 1) = true
  ·rw [if_pos k1, if_pos k1]; rfl
  rw [if_neg k1, if_neg k1]
  by_cases k2 : (x.kind == 2) = true
  ·rw [if_pos k2, if_pos k2]; rfl
  rw [if_neg k2, if_neg k2]
  by_cases k3 : (x.kind == 3) = true
  ·rw [if_pos k3, if_pos k3]; rfl
  rw [if_neg k3, if_neg k3]
  by_cases k4 : (x.kind == 4) = true
  ·rw [if_pos k4, if_pos k4]; rfl
  rw [if_neg k4, if_neg k4]
  by_cases k5 : (x.kind == 5) = true
  ·rw [if_pos k5, if_pos k5]; rfl
  rw [if_neg k5, if_neg k5]
  by_cases k6 : (x.kind == 6) = true
  ·rw [if_pos k6, if_pos k6]; rfl
  rw [if_neg k6, if_neg k6]
  by_cases k7 : (x.kind == 7) = true
  ·rw [if_pos k7, if_pos k7]
   by_cases hp : decide (z0a x.name u.flows 0 ≥ 0) = true
   ·rw [if_pos hp, if_pos hp]
    cases u.flows[(z0a x.name u.flows 0).toNat]? with
    | none => rfl
    | some g => rfl
   rw [if_neg hp, if_neg hp]; rfl
  rw [if_neg k7, if_neg k7]
  by_cases k8 : (x.kind == 8) = true
  ·rw [if_pos k8, if_pos k8]; rfl
  rw [if_neg k8, if_neg k8]
  by_cases k9 : (x.kind == 9) = true
  ·rw [if_pos k9, if_pos k9]; rfl
  rw [if_neg k9, if_neg k9]
  by_cases k12 : (x.kind == 12) = true
  ·rw [if_pos k12, if_pos k12]; rfl
  rw [if_neg k12, if_neg k12]
  by_cases k13 : (x.kind == 13) = true
  ·rw [if_pos k13, if_pos k13]; rfl
  rw [if_neg k13, if_neg k13]
  by_cases k14 : (x.kind == 14) = true
  ·rw [if_pos k14, if_pos k14]; rfl
  rw [if_neg k14, if_neg k14]
  by_cases k15 : (x.kind == 15) = true
  ·rw [if_pos k15, if_pos k15]; rfl
  rw [if_neg k15, if_neg k15]
  rfl
theorem run_iff {tys outs : List Int} {set : List Bool} (s : SForm) (hn : set.length = tys.length) : ((s.run tys outs set).1 = true ↔ s.ok tys outs = true /\ Frs set outs) /\ ((s.run tys outs set).1 = true -> (s.run tys outs set).2 = z1z set outs) := by
  obtain ⟨b, want⟩ := s
  cases want with
  | some wt =>
    obtain ⟨h1, h2⟩ := zj6 tys set outs wt hn
    simp only [SForm.run, SForm.ok, andS]
    cases b with
    | false => simp
    | true => simp only [if_true, Bool.true_and]; exact ⟨h1, h2⟩
  | none =>
    simp only [SForm.run, SForm.ok]
    constructor
    ·constructor
     ·intro h
      refine ⟨h, ?_⟩
      simp only [Bool.and_eq_true, beq_iff_eq] at h
      have : outs = [] := List.eq_nil_of_length_eq_zero oM0
      subst this
      exact ⟨by simp, fun v hv => by simp at hv⟩
     exact fun h => h.1
    intro h
    simp only [Bool.and_eq_true, beq_iff_eq] at h
    have : outs = [] := List.eq_nil_of_length_eq_zero oM0
    subst this
    rfl
theorem ok_in {tys outs : List Int} {s : SForm} (h : s.ok tys outs = true) : inR tys.length outs := by
  obtain ⟨b, want⟩ := s
  cases want with
  | some wt => simp only [SForm.ok, Bool.and_eq_true] at h; exact z34 h.2
  | none =>
    simp only [SForm.ok, Bool.and_eq_true, beq_iff_eq] at h
    have : outs = [] := List.eq_nil_of_length_eq_zero oM0
    subst this
    exact fun v hv => by simp at hv
mutual
def dN : Nd -> List Int
  | .mk _ _ _ _ _ outs params ks => params ++ (dK ks ++ outs)
def dL : List Nd -> List Int
  | [] => []
  | x :: r => dN x ++ dL r
def dK : List (List Nd) -> List Int
  | [] => []
  | l :: r => dL l ++ dK r
end
theorem y0m (x : Nd) : dN x = x.params ++ (dK x.kids ++ x.outs) := by cases x; simp [dN, Nd.params, Nd.kids, Nd.outs]
def zer (l : List Int) : List Int := List.replicate l.length 0
def w1 (w : Wh) (f : Fl) (x : Nd) : Wh := ⟨true, w.Loop, r8of f.types x.outs, w.Next, w.Left⟩
def w2 (f : Fl) (x : Nd) : Wh := ⟨false, true, [], r8of f.types x.params, r8of f.types x.outs⟩
def zi8 (x : Nd) : Bool := (x.outs.length : Int) == 0 || !z0e x
mutual
def z5y (u : Un) (f : Fl) (deep : Int) (w : Wh) (seen : List Int) : Nd -> Bool
  | .mk kind op n name args outs params kids =>
    z0m (.mk kind op n name args outs params kids) &&
    (if kind == 10 then
      match kids with
      | a :: b :: _ => z0h f.types seen args [2] && (!a.isEmpty && vGo u f (deep + 1) (w1 w f (.mk kind op n name args outs params kids)) seen a) && (!b.isEmpty && vGo u f (deep + 1) (w1 w f (.mk kind op n name args outs params kids)) seen b) &&
          zi8 (.mk kind op n name args outs params kids) && z3j f.types outs (zer outs)
      | _ => false
    else if kind == 11 then
      match kids with
      | a :: _ => z0h f.types seen args (r8of f.types params) && z3j f.types params (zer params) && (!a.isEmpty && vGo u f (deep + 1) (w2 f (.mk kind op n name args outs params kids)) (seen ++ params) a) &&
          zi8 (.mk kind op n name args outs params kids) && z3j f.types outs (zer outs)
      | _ => false
    else (z6i u f (.mk kind op n name args outs params kids) seen w).ok f.types outs)
def vGo (u : Un) (f : Fl) (deep : Int) (w : Wh) (all : List Int) : List Nd -> Bool
  | [] => true
  | x :: r => !decide (deep > 100) && z5y u f deep w all x && (z0e x == r.isEmpty) && vGo u f deep w (all ++ x.outs) r
end
def z3n (u : Un) (f : Fl) (deep : Int) (w : Wh) (all : List Int) (l : List Nd) : Bool := !l.isEmpty && vGo u f deep w all l
theorem z5z (u : Un) (f : Fl) (deep : Int) (w : Wh) (seen : List Int) {x : Nd} {a b : List Nd} (h : z0m x = true) (hk : x.kind = 10) (hx : x.kids = [a, b]) :
    z5y u f deep w seen x = (z0h f.types seen x.args [2] && z3n u f (deep + 1) (w1 w f x) seen a && z3n u f (deep + 1) (w1 w f x) seen b && zi8 x && z3j f.types x.outs (zer x.outs)) := by
  cases x
  simp only [Nd.kind, Nd.kids] at hk hx
  subst hk hx
  unfold z5y
  simp only [h, Bool.true_and, Nd.args, Nd.outs]
  rfl
theorem z4b (u : Un) (f : Fl) (deep : Int) (w : Wh) (seen : List Int) {x : Nd} {a : List Nd} (h : z0m x = true) (hk : x.kind = 11) (hx : x.kids = [a]) :
    z5y u f deep w seen x = (z0h f.types seen x.args (r8of f.types x.params) && z3j f.types x.params (zer x.params) && z3n u f (deep + 1) (w2 f x) (seen ++ x.params) a && zi8 x && z3j f.types x.outs (zer x.outs)) := by
  cases x
  simp only [Nd.kind, Nd.kids] at hk hx
  subst hk hx
  unfold z5y
  simp only [h, Bool.true_and, Nd.args, Nd.outs, Nd.params]
  rfl
theorem z25 (u : Un) (f : Fl) (deep : Int) (w : Wh) (seen : List Int) {x : Nd} (h : z0m x = true) (h1 : (x.kind == 10) = false) (h2 : (x.kind == 11) = false) :
    z5y u f deep w seen x = (z6i u f x seen w).ok f.types x.outs := by
  cases x
  simp only [Nd.kind] at h1 h2
  unfold z5y
  simp only [h, Bool.true_and, Nd.outs, h1, h2, Bool.false_eq_true, if_false]
theorem z5g (u : Un) (f : Fl) (deep : Int) (w : Wh) (seen : List Int) {x : Nd} (h : z5y u f deep w seen x = true) : z0m x = true := by
  cases x
  unfold z5y at h
  simp only [Bool.and_eq_true] at h
  exact h.1
theorem z9x {x : Nd} (h : z0m x = true) (hk : (x.kind == 11) = false) : x.params = [] := by
  simp only [z0m, Bool.and_eq_true, hk, Bool.false_or, beq_iff_eq] at h
  exact List.eq_nil_of_length_eq_zero oM0
theorem z6q {x : Nd} (h : z0m x = true) (h1 : (x.kind == 10) = false) (h2 : (x.kind == 11) = false) : x.kids = [] := by
  have := z7g h
  simp only [r8kn, h1, h2, Bool.false_eq_true, if_false] at this
  exact List.eq_nil_of_length_eq_zero oM0
theorem zk9 {x : Nd} (h : z0m x = true) (h1 : (x.kind == 10) = false) (h2 : (x.kind == 11) = false) : dN x = x.outs := by
  rw [y0m, z9x h h2, z6q h h1 h2]; rfl
theorem dN_if {x : Nd} {a b : List Nd} (h : z0m x = true) (hk : x.kind = 10) (hx : x.kids = [a, b]) : dN x = dL a ++ (dL b ++ x.outs) := by
  rw [y0m, z9x h (by rw [hk]; rfl), hx]; simp [dK]
theorem y0n {x : Nd} {a : List Nd} (hx : x.kids = [a]) : dN x = x.params ++ (dL a ++ x.outs) := by
  rw [y0m, hx]; simp [dK]
theorem z8j {n : Nat} {a b : List Int} : inR n (a ++ b) ↔ inR n a /\ inR n b :=
  ⟨fun h => ⟨fun v hv => h v (by simp [hv]), fun v hv => h v (by simp [hv])⟩, fun h v hv => (List.mem_append.1 hv).elim (h.1 v) (h.2 v)⟩
theorem z9k {n : Nat} {set : List Bool} {a b d : List Int} (hn : set.length = n) (ha : inR n a) (hb : inR n b) (hd : inR n d) : Frs set (a ++ (b ++ d)) ↔ Frs set a /\ Frs (z1z set a) b /\ Frs (z1z (z1z set a) b) d := by
  rw [za3 hn ha (z8j.2 ⟨hb, hd⟩), za3 ((z2j a set).trans hn) hb hd]
def RG (u : Un) (f : Fl) (l : List Nd) : Prop := ∀ (deep : Int) (w : Wh) (all : List Int), vGo u f deep w all l = true -> inR f.types.length (dL l)
theorem zr6 (u : Un) (f : Fl) (x : Nd) (ih : ∀ q ∈ x.kids, RG u f q) (deep : Int) (w : Wh) (seen : List Int) (h : z5y u f deep w seen x = true) : inR f.types.length (dN x) := by
  have hb := z5g u f deep w seen h
  by_cases h10 : x.kind = 10
  ·obtain ⟨a, b, hk⟩ := z30 hb h10
   rw [z5z u f deep w seen hb h10 hk] at h
   simp only [Bool.and_eq_true, z3n] at h
   rw [dN_if hb h10 hk]
   exact z8j.2 ⟨ih a (by rw [hk]; simp) _ _ _ h.1.1.1.2.2, z8j.2 ⟨ih b (by rw [hk]; simp) _ _ _ h.1.1.2.2, z34 h.2⟩⟩
  by_cases h11 : x.kind = 11
  ·obtain ⟨a, hk⟩ := z22 hb h11
   rw [z4b u f deep w seen hb h11 hk] at h
   simp only [Bool.and_eq_true, z3n] at h
   rw [y0n hk]
   exact z8j.2 ⟨z34 h.1.1.1.2, z8j.2 ⟨ih a (by rw [hk]; simp) _ _ _ h.1.1.2.2, z34 h.2⟩⟩
  have e10 : (x.kind == 10) = false := by simpa using h10
  have e11 : (x.kind == 11) = false := by simpa using h11
  rw [z25 u f deep w seen hb e10 e11] at h
  rw [zk9 hb e10 e11]
  exact ok_in h
theorem go_in (u : Un) (f : Fl) : ∀ (l : List Nd), (∀ x ∈ l, ∀ q ∈ x.kids, RG u f q) -> RG u f l
  | [], _ => fun _ _ _ _ v hv => by simp [dL] at hv
  | x :: r, ih => fun deep w all h => by
    simp only [vGo, Bool.and_eq_true] at h
    exact z8j.2 ⟨zr6 u f x (ih x (.head _)) _ _ _ h.1.1.2, go_in u f r (fun y hy => ih y (.tail _ hy)) _ _ _ h.2⟩
theorem rg_all (u : Un) (f : Fl) : ∀ (N : Nat) (l : List Nd), SizeOf.sizeOf l < N -> RG u f l
  | 0, _, h => absurd h (Nat.not_lt_zero _)
  | N + 1, l, hN => go_in u f l fun x hx q hq => rg_all u f N q (Nat.lt_of_lt_of_le (z62 hx rfl hq) (Nat.le_of_lt_succ hN))
theorem rg (u : Un) (f : Fl) (l : List Nd) : RG u f l := rg_all u f _ l (Nat.lt_succ_self _)
def CH (u : Un) (f : Fl) (l : List Nd) : Prop := ∀ (deep : Int) (w : Wh) (seen : List Int) (set : List Bool), set.length = f.types.length ->
  ((z0f u f deep w seen set l).1 = true ↔ z3n u f deep w seen l = true /\ Frs set (dL l)) /\ ((z0f u f deep w seen set l).1 = true -> (z0f u f deep w seen set l).2 = z1z set (dL l))
theorem z32 {q : Bool × List Bool} {k : List Bool -> Bool × List Bool} : ((andT q k).1 = true ↔ q.1 = true /\ (k q.2).1 = true) /\ ((andT q k).1 = true -> (andT q k).2 = (k q.2).2) := by
  unfold andT
  cases q.1 with
  | false => simp
  | true => simp
theorem y0p (f : Fl) (x : Nd) (set : List Bool) (hn : set.length = f.types.length) : ((z14 f x set).1 = true ↔ (zi8 x = true /\ z3j f.types x.outs (zer x.outs) = true) /\ Frs set x.outs) /\ ((z14 f x set).1 = true -> (z14 f x set).2 = z1z set x.outs) := by
  obtain ⟨h1, h2⟩ := zj6 f.types set x.outs (zer x.outs) hn
  unfold z14 andS
  show ((if zi8 x = true then _ else _ : Bool × List Bool).1 = true ↔ _) /\ _
  by_cases ho : zi8 x = true
  ·simp only [ho, if_true, true_and]
   exact ⟨h1, fun h => by
     have ho2 : ((x.outs.length : Int) == 0 || !z0e x) = true := ho
     rw [if_pos ho2] at h ⊢
     exact h2 h⟩
  have ho2 : ¬ ((x.outs.length : Int) == 0 || !z0e x) = true := ho
  rw [if_neg ho, if_neg ho2]
  simp [ho]
theorem node_iff (u : Un) (f : Fl) (x : Nd) (ih : ∀ q ∈ x.kids, CH u f q) (deep : Int) (w : Wh) (seen : List Int) (set : List Bool) (hn : set.length = f.types.length) :
    ((z0v u f deep w seen set x).1 = true ↔ z5y u f deep w seen x = true /\ Frs set (dN x)) /\ ((z0v u f deep w seen set x).1 = true -> (z0v u f deep w seen set x).2 = z1z set (dN x)) := by
  cases hb : z0m x with
  | false =>
    rw [z7h _ _ _ _ _ _ hb]
    refine ⟨⟨fun h => (by cases h), fun h => ?_⟩, fun h => by cases h⟩
    have := z5g u f deep w seen h.1
    rw [hb] at this; cases this
  | true =>
    by_cases h10 : x.kind = 10
    ·obtain ⟨a, b, hk⟩ := z30 hb h10
     rw [z0z _ _ _ _ _ _ hb h10 hk, z5z u f deep w seen hb h10 hk, dN_if hb h10 hk, show (⟨true, w.Loop, r8of f.types x.outs, w.Next, w.Left⟩ : Wh) = w1 w f x from rfl]
     by_cases ht : z0h f.types seen x.args [2] = true
     ·rw [if_pos ht]
      obtain ⟨a1, a2⟩ := ih a (by rw [hk]; simp) (deep + 1) (w1 w f x) seen set hn
      have hna : (z1z set (dL a)).length = f.types.length := (z2j _ _).trans hn
      obtain ⟨b1, b2⟩ := ih b (by rw [hk]; simp) (deep + 1) (w1 w f x) seen (z1z set (dL a)) hna
      have hnb : (z1z (z1z set (dL a)) (dL b)).length = f.types.length := (z2j _ _).trans hna
      obtain ⟨e1, e2⟩ := y0p f x (z1z (z1z set (dL a)) (dL b)) hnb
      have key : (andT (z0f u f (deep + 1) (w1 w f x) seen set a) (fun s1 => andT (z0f u f (deep + 1) (w1 w f x) seen s1 b) fun s2 => z14 f x s2)).1 = true ↔
          (z0f u f (deep + 1) (w1 w f x) seen set a).1 = true /\ (z0f u f (deep + 1) (w1 w f x) seen (z1z set (dL a)) b).1 = true /\ (z14 f x (z1z (z1z set (dL a)) (dL b))).1 = true := by
        rw [z32.1]
        refine and_congr_right fun h => ?_
        rw [a2 h, z32.1]
        exact and_congr_right fun h2 => by rw [b2 h2]
      refine ⟨?_, fun h => ?_⟩
      ·rw [key, a1, b1, e1]
       simp only [ht, Bool.true_and, Bool.and_eq_true]
       constructor
       ·rintro ⟨⟨c1, c2⟩, ⟨c3, c4⟩, ⟨c5, c6⟩, c7⟩
        have ra := rg u f a _ _ _ (by simp only [z3n, Bool.and_eq_true] at c1; exact c1.2)
        have rb := rg u f b _ _ _ (by simp only [z3n, Bool.and_eq_true] at c3; exact c3.2)
        exact ⟨⟨⟨⟨c1, c3⟩, c5⟩, c6⟩, (z9k hn ra rb (z34 c6)).2 ⟨c2, c4, c7⟩⟩
       rintro ⟨⟨⟨⟨c1, c3⟩, c5⟩, c6⟩, c7⟩
       have ra := rg u f a _ _ _ (by simp only [z3n, Bool.and_eq_true] at c1; exact c1.2)
       have rb := rg u f b _ _ _ (by simp only [z3n, Bool.and_eq_true] at c3; exact c3.2)
       obtain ⟨d1, d2, d3⟩ := (z9k hn ra rb (z34 c6)).1 c7
       exact ⟨⟨c1, d1⟩, ⟨c3, d2⟩, ⟨c5, c6⟩, d3⟩
      obtain ⟨k1, k2, k3⟩ := key.1 h
      have h' := (z32.1.1 h).2
      rw [z32.2 h, a2 k1]
      rw [a2 k1] at h'
      rw [z32.2 h', b2 k2, e2 k3, z6d, z6d]
     rw [if_neg ht]
     refine ⟨⟨fun h => (by cases h), fun h => ?_⟩, fun h => by cases h⟩
     simp only [Bool.and_eq_true] at h
     exact absurd h.1.1.1.1.1 ht
    by_cases h11 : x.kind = 11
    ·obtain ⟨a, hk⟩ := z22 hb h11
     rw [z0b _ _ _ _ _ _ hb h11 hk, z4b u f deep w seen hb h11 hk, y0n hk, show (⟨false, true, [], r8of f.types x.params, r8of f.types x.outs⟩ : Wh) = w2 f x from rfl, show List.replicate x.params.length 0 = zer x.params from rfl]
     by_cases ht : z0h f.types seen x.args (r8of f.types x.params) = true
     ·rw [if_pos ht]
      obtain ⟨a1, a2⟩ := zj6 f.types set x.params (zer x.params) hn
      have hna : (z1z set x.params).length = f.types.length := (z2j _ _).trans hn
      obtain ⟨b1, b2⟩ := ih a (by rw [hk]; simp) (deep + 1) (w2 f x) (seen ++ x.params) (z1z set x.params) hna
      have hnb : (z1z (z1z set x.params) (dL a)).length = f.types.length := (z2j _ _).trans hna
      obtain ⟨e1, e2⟩ := y0p f x (z1z (z1z set x.params) (dL a)) hnb
      have key : (andT (z0j f.types set x.params (zer x.params)) (fun s1 => andT (z0f u f (deep + 1) (w2 f x) (seen ++ x.params) s1 a) fun s2 => z14 f x s2)).1 = true ↔
          (z0j f.types set x.params (zer x.params)).1 = true /\ (z0f u f (deep + 1) (w2 f x) (seen ++ x.params) (z1z set x.params) a).1 = true /\ (z14 f x (z1z (z1z set x.params) (dL a))).1 = true := by
        rw [z32.1]
        refine and_congr_right fun h => ?_
        rw [a2 h, z32.1]
        exact and_congr_right fun h2 => by rw [b2 h2]
      refine ⟨?_, fun h => ?_⟩
      ·rw [key, a1, b1, e1]
       simp only [ht, Bool.true_and, Bool.and_eq_true]
       constructor
       ·rintro ⟨⟨c1, c2⟩, ⟨c3, c4⟩, ⟨c5, c6⟩, c7⟩
        have rb := rg u f a _ _ _ (by simp only [z3n, Bool.and_eq_true] at c3; exact c3.2)
        exact ⟨⟨⟨⟨c1, c3⟩, c5⟩, c6⟩, (z9k hn (z34 c1) rb (z34 c6)).2 ⟨c2, c4, c7⟩⟩
       rintro ⟨⟨⟨⟨c1, c3⟩, c5⟩, c6⟩, c7⟩
       have rb := rg u f a _ _ _ (by simp only [z3n, Bool.and_eq_true] at c3; exact c3.2)
       obtain ⟨d1, d2, d3⟩ := (z9k hn (z34 c1) rb (z34 c6)).1 c7
       exact ⟨⟨c1, d1⟩, ⟨c3, d2⟩, ⟨c5, c6⟩, d3⟩
      obtain ⟨k1, k2, k3⟩ := key.1 h
      have h' := (z32.1.1 h).2
      rw [z32.2 h, a2 k1]
      rw [a2 k1] at h'
      rw [z32.2 h', b2 k2, e2 k3, z6d, z6d]
     rw [if_neg ht]
     refine ⟨⟨fun h => (by cases h), fun h => ?_⟩, fun h => by cases h⟩
     simp only [Bool.and_eq_true] at h
     exact absurd h.1.1.1.1.1 ht
    have e10 : (x.kind == 10) = false := by simpa using h10
    have e11 : (x.kind == 11) = false := by simpa using h11
    rw [z5q _ _ _ _ _ _ hb e10 e11, z25 u f deep w seen hb e10 e11, zk9 hb e10 e11, zt5]
    exact run_iff _ hn
theorem go_iff (u : Un) (f : Fl) (deep : Int) (w : Wh) : ∀ (l : List Nd), (∀ x ∈ l, ∀ q ∈ x.kids, CH u f q) -> ∀ (all : List Int) (set : List Bool), set.length = f.types.length ->
    ((r8go u f deep w all set l).1 = true ↔ vGo u f deep w all l = true /\ Frs set (dL l)) /\ ((r8go u f deep w all set l).1 = true -> (r8go u f deep w all set l).2 = z1z set (dL l))
  | [], _, all, set, _ => by simp [r8go, vGo, dL, Frs, z1z]
  | x :: r, ih, all, set, hn => by
    obtain ⟨n1, n2⟩ := node_iff u f x (ih x (.head _)) deep w all set hn
    have hm : (z1z set (dN x)).length = f.types.length := (z2j _ _).trans hn
    obtain ⟨r1, r2⟩ := go_iff u f deep w r (fun y hy => ih y (.tail _ hy)) (all ++ x.outs) (z1z set (dN x)) hm
    unfold r8go vGo
    by_cases hd : deep > 100
    ·rw [if_pos hd]
     simp [hd]
    rw [if_neg hd]
    have hdb : (!decide (deep > 100)) = true := by simpa using hd
    by_cases hc : (z0e x != r.isEmpty) = true
    ·have hcb : (z0e x == r.isEmpty) = false := by
       cases hcc : (z0e x == r.isEmpty) with
       | false => rfl
       | true => simp [bne, hcc] at hc
     simp only [if_pos hc, hcb, Bool.and_false, Bool.false_and, Bool.false_eq_true, false_and, iff_false, Bool.not_eq_true]
     have : (andT (z0v u f deep w all set x) fun s1 => (false, s1)).1 = false := by
       unfold andT; split <;> rfl
     exact ⟨this, fun h => by rw [this] at h; cases h⟩
    have hcb : (z0e x == r.isEmpty) = true := by
      cases hcc : (z0e x == r.isEmpty) with
      | true => rfl
      | false => simp [bne, hcc] at hc
    simp only [if_neg hc, hcb, hdb, Bool.true_and, Bool.and_true, Bool.and_eq_true]
    have key : (andT (z0v u f deep w all set x) fun s1 => r8go u f deep w (all ++ x.outs) s1 r).1 = true ↔ (z0v u f deep w all set x).1 = true /\ (r8go u f deep w (all ++ x.outs) (z1z set (dN x)) r).1 = true := by
      rw [z32.1]
      exact and_congr_right fun h => by rw [n2 h]
    refine ⟨?_, fun h => ?_⟩
    ·rw [key, n1, r1]
     constructor
     ·rintro ⟨⟨c1, c2⟩, c3, c4⟩
      exact ⟨⟨c1, c3⟩, (za3 hn (zr6 u f x (fun q _ => rg u f q) _ _ _ c1) (rg u f r _ _ _ c3)).2 ⟨c2, c4⟩⟩
     rintro ⟨⟨c1, c3⟩, c4⟩
     obtain ⟨d1, d2⟩ := (za3 hn (zr6 u f x (fun q _ => rg u f q) _ _ _ c1) (rg u f r _ _ _ c3)).1 c4
     exact ⟨⟨c1, d1⟩, c3, d2⟩
    obtain ⟨k1, k2⟩ := key.1 h
    rw [z32.2 h, n2 k1, r2 k2]
    show _ = z1z set (dN x ++ dL r)
    rw [z6d]
theorem ch_all (u : Un) (f : Fl) : ∀ (N : Nat) (l : List Nd), SizeOf.sizeOf l < N -> CH u f l
  | 0, _, h => absurd h (Nat.not_lt_zero _)
  | N + 1, l, hN => by
    intro deep w seen set hn
    obtain ⟨h1, h2⟩ := go_iff u f deep w l (fun x hx q hq => ch_all u f N q (Nat.lt_of_lt_of_le (z62 hx rfl hq) (Nat.le_of_lt_succ hN))) seen set hn
    unfold z0f ne z3n
    cases l with
    | nil => simp
    | cons x r => simpa using ⟨h1, h2⟩
theorem z8o (u : Un) (f : Fl) (l : List Nd) (deep : Int) (w : Wh) (seen : List Int) (set : List Bool) (hn : set.length = f.types.length) : (z0f u f deep w seen set l).1 = true ↔ z3n u f deep w seen l = true /\ Frs set (dL l) :=
  (ch_all u f _ l (Nat.lt_succ_self _) deep w seen set hn).1
theorem dL_app : ∀ (a b : List Nd), dL (a ++ b) = dL a ++ dL b
  | [], _ => rfl
  | x :: r, b => by simp only [List.cons_append, dL, dL_app r b, List.append_assoc]
theorem zg2 : ∀ (a b : List Nd), z11 (a ++ b) = (z11 a || z11 b)
  | [], b => by simp [z11]
  | x :: r, b => by simp only [List.cons_append, z11, zg2 r b, Bool.or_assoc]
theorem zq8 {kind op n : Int} {name : ByteArray} {args outs params : List Int} {ks ks' : List (List Nd)} (h : ks'.length = ks.length) : z0m (.mk kind op n name args outs params ks') = z0m (.mk kind op n name args outs params ks) := by
  unfold z0m r8op z1j z0w r8kn
  simp only [Nd.kind, Nd.op, Nd.n, Nd.name, Nd.kids, Nd.params]
  rw [h]
  rfl
theorem zl8 (u : Un) : ∀ (l : List Fl) (i : Int), (z3f u l i).1 = 0 ↔ ∀ f ∈ l, z2f u f = true
  | [], _ => by simp [z3f]
  | f :: r, i => by
    unfold z3f
    cases h : z2f u f with
    | false => simp [h]
    | true => simp [h, zl8 u r (i + 1)]
theorem zf7 (u : Un) : ∀ (l : List Fl) (i : Int), (∀ f ∈ l, z2f u f = true) -> z3f u l i = (0, 0)
  | [], _, _ => rfl
  | f :: r, i, h => by
    unfold z3f
    rw [if_pos (h f (.head _))]
    exact zf7 u r (i + 1) fun g hg => h g (.tail _ hg)
theorem z7p (u : Un) : (z1i u).1 = 0 ↔ z0s u = true /\ ∀ f ∈ u.flows, z2f u f = true := by
  unfold z1i
  cases h : z0s u with
  | false => simp
  | true => simp [zl8]
theorem y2y : ∀ (a b : List Nd), wtL (a ++ b) = wtL a + wtL b
  | [], b => by simp [wtL]
  | x :: r, b => by simp only [List.cons_append, wtL, y2y r b]; omega
section
def z2y (B : List Nd -> List Nd) (f : Fl) : Fl := ⟨f.name, f.ty, f.params, f.types, B f.body⟩
def z2u (B : List Nd -> List Nd) (u : Un) : Un := ⟨u.arrays, u.flows.map (z2y B)⟩
def z1u (B : List Nd -> List Nd) (u : Un) : Un × Int := if (z2m u).1 == 0 then (z2u B u, 0) else (⟨[], []⟩, 1)
section
variable (B : List Nd -> List Nd)
theorem zb6 (name : ByteArray) : ∀ (l : List Fl) (i : Int), z0a name (l.map (z2y B)) i = z0a name l i
  | [], _ => rfl
  | f :: r, i => by
    have ih := zb6 name r (i + 1)
    unfold z0a
    rw [List.map_cons]
    simp only [ih]
    rfl
theorem sForm_m (u : Un) (f : Fl) (x : Nd) (s : List Int) (w : Wh) : z6i (z2u B u) (z2y B f) x s w = z6i u f x s w := by
  unfold z6i
  simp only [z2u, z2y, zb6, List.getElem?_map]
  cases u.flows[(z0a x.name u.flows 0).toNat]? with
  | none => rfl
  | some g => rfl
mutual
theorem vNode_m (u : Un) (f : Fl) : ∀ (x : Nd) (deep : Int) (w : Wh) (s : List Int), z5y (z2u B u) (z2y B f) deep w s x = z5y u f deep w s x
  | .mk kind op n name args outs params ks, deep, w, s => by
    unfold z5y
    rw [sForm_m]
    match ks with
    | [] => rfl
    | [a] =>
      have h1 := y0c u f a (deep + 1) (w2 f (.mk kind op n name args outs params [a])) (s ++ params)
      simp only [show w2 (z2y B f) (.mk kind op n name args outs params [a]) = w2 f (.mk kind op n name args outs params [a]) from rfl, h1]
      rfl
    | a :: b :: r =>
      have h1 := y0c u f a (deep + 1) (w2 f (.mk kind op n name args outs params (a :: b :: r))) (s ++ params)
      have h2 := y0c u f a (deep + 1) (w1 w f (.mk kind op n name args outs params (a :: b :: r))) s
      have h3 := y0c u f b (deep + 1) (w1 w f (.mk kind op n name args outs params (a :: b :: r))) s
      simp only [show w2 (z2y B f) (.mk kind op n name args outs params (a :: b :: r)) = w2 f (.mk kind op n name args outs params (a :: b :: r)) from rfl, show w1 w (z2y B f) (.mk kind op n name args outs params (a :: b :: r)) = w1 w f (.mk kind op n name args outs params (a :: b :: r)) from rfl, h1, h2, h3]
      rfl
theorem y0c (u : Un) (f : Fl) : ∀ (l : List Nd) (deep : Int) (w : Wh) (s : List Int), vGo (z2u B u) (z2y B f) deep w s l = vGo u f deep w s l
  | [], _, _, _ => by simp [vGo]
  | x :: r, deep, w, s => by
    unfold vGo
    rw [vNode_m u f x, y0c u f r]
end
def z92 (u : Un) (f : Fl) (l : List Nd) : Prop := z3n u f 1 z33 (iota f.params.toNat) l = true /\ Frs (z2h f.params.toNat f.types.length) (dL l)
theorem z7d {u : Un} {f : Fl} (h : z2f u f = true) : f.params.toNat <= f.types.length := by
  unfold z2f at h
  simp only [Bool.and_eq_true] at h
  have a1 := h.1.1.1.1.1
  have a2 := h.1.1.1.2
  simp only [Bool.not_eq_true', decide_eq_false_iff_not] at a1 a2
  omega
theorem zl7 {u : Un} {f : Fl} (h : z2f u f = true) : z92 u f f.body := by
  have hn : (z2h f.params.toNat f.types.length).length = f.types.length := z2q (z7d h)
  unfold z2f at h
  simp only [Bool.and_eq_true] at h
  have h2 := h.2
  rw [z8o u f f.body 1 z33 _ _ hn] at h2
  exact h2
theorem flow_m {u : Un} {f : Fl} (h : z2f u f = true) (hB : z92 u f f.body -> z92 u f (B f.body)) : z2f (z2u B u) (z2y B f) = true := by
  have hb := hB (zl7 h)
  have hn : (z2h f.params.toNat f.types.length).length = f.types.length := z2q (z7d h)
  unfold z2f at h ⊢
  simp only [Bool.and_eq_true] at h ⊢
  refine ⟨h.1, ?_⟩
  show (z0f (z2u B u) (z2y B f) 1 z33 (iota f.params.toNat) (z2h f.params.toNat f.types.length) (B f.body)).1 = true
  rw [z8o (z2u B u) (z2y B f) (B f.body) 1 z33 _ _ hn]
  have hv := hb.1
  simp only [z3n, Bool.and_eq_true] at hv ⊢
  exact ⟨⟨hv.1, by rw [y0c]; exact hv.2⟩, hb.2⟩
theorem gA_m (u : Un) : ∀ (l : List Ar) (i : Int), r8gA (z2u B u) l i = r8gA u l i
  | [], _ => rfl
  | a :: r, i => by
    have h1 : gArr (z2u B u) a i = gArr u a i := by simp only [gArr, z2u, zb6]
    simp only [r8gA, gA_m u r, h1]
theorem gF_m (u : Un) : ∀ (l : List Fl) (i : Int), r8gF (z2u B u) (l.map (z2y B)) i = r8gF u l i
  | [], _ => rfl
  | a :: r, i => by
    have h1 : gFlw (z2u B u) (z2y B a) i = gFlw u a i := by
      simp only [gFlw, z2u, zb6]
      rfl
    simp only [List.map_cons, r8gF, gF_m u r, h1]
theorem zf8 (l : List Fl) (k : Nat) : ((l.map (z2y B)).getD k zl6).ty = (l.getD k zl6).ty /\ ((l.map (z2y B)).getD k zl6).params = (l.getD k zl6).params := by
  simp only [List.getD_eq_getElem?_getD, List.getElem?_map]
  cases l[k]? with
  | none => exact ⟨rfl, rfl⟩
  | some g => exact ⟨rfl, rfl⟩
theorem y0w (u : Un) : z0s (z2u B u) = z0s u := by
  unfold z0s
  rw [show (z2u B u).arrays = u.arrays from rfl, show (z2u B u).flows = u.flows.map (z2y B) from rfl, gA_m, gF_m]
  unfold z76
  rw [show (z2u B u).flows = u.flows.map (z2y B) from rfl, zb6, (zf8 B _ _).1, (zf8 B _ _).2]
theorem check_m {u : Un} (h : (z1i u).1 = 0) (hB : ∀ f ∈ u.flows, z92 u f f.body -> z92 u f (B f.body)) : z1i (z2u B u) = (0, 0) := by
  obtain ⟨h1, h2⟩ := (z7p u).1 h
  unfold z1i
  rw [y0w, h1, if_pos rfl]
  refine zf7 (z2u B u) _ 0 fun g hg => ?_
  obtain ⟨f, hf, rfl⟩ := List.mem_map.1 hg
  exact flow_m B (h2 f hf) (hB f hf)
theorem y0g {u : Un} (h : (z1i u).1 = 0) : ∀ f ∈ u.flows, z92 u f f.body := fun f hf => zl7 (((z7p u).1 h).2 f hf)
theorem headF_m {f : Fl} (h : 0 <= f.params /\ f.params <= f.types.length) : z6b f (z2y B f) = true := by
  have ht : z75 f.types f.types f.params = true := zf9 (k := f.params.toNat) oM0 (fun i hi => by simp [z2r]; omega)
  simp [z6b, z2y, ht]
theorem zu8 : ∀ {l : List Fl}, (∀ f ∈ l, 0 <= f.params /\ f.params <= f.types.length) -> z3a l (l.map (z2y B)) = true
  | [], _ => rfl
  | f :: r, h => by simp [z3a, headF_m B (h f (.head _)), zu8 (fun f hf => h f (.tail _ hf))]
theorem z7i {u : Un} (h : (z2m u).1 = 0) : z1n u (z2u B u) = true := by
  have hh : z31 u = true := by
    cases hh : z31 u with
    | true => rfl
    | false => simp [z2m, hh] at h
  simp [z1n, z2u, zc5, zu8 B (z5r hh)]
theorem wtF_m (hw : ∀ l, z1a (B l) <= z1a l) : ∀ l : List Fl, wtF (l.map (z2y B)) <= wtF l
  | [] => Nat.le_refl _
  | f :: r => by
    have h1 := hw f.body
    have h2 := wtF_m hw r
    simp only [List.map_cons, wtF, z2y] at h2 ⊢
    omega
theorem weight_m (hw : ∀ l, z1a (B l) <= z1a l) (u : Un) : z0x (z2u B u) <= z0x u := by
  have := wtF_m B hw u.flows
  unfold z0x
  rw [show (z2u B u).flows = u.flows.map (z2y B) from rfl, List.length_map, show (z2u B u).arrays = u.arrays from rfl]
  omega
theorem z6w {u : Un} (h : (z1i u).1 ≠ 0) : z1u B u = (⟨[], []⟩, 1) := by
  have : ((z2m u).1 == 0) = false := by rw [z3b]; simpa using h
  simp [z1u, this]
theorem z35 {u : Un} (h : (z1i u).1 = 0) : z1u B u = (z2u B u, 0) := by
  have : ((z2m u).1 == 0) = true := by rw [z3b]; simpa using h
  simp [z1u, this]
theorem z87 (hw : ∀ l, z1a (B l) <= z1a l) (u : Un) : z0x (z1u B u).1 <= z0x u := by
  unfold z1u
  split
  ·exact weight_m B hw u
  simp [z0x, wtA, wtF]
end
end
section
section
variable {α β : Type} [DecidableEq α]
def aGet (k : α) : List (α × β) -> Option β
  | [] => none
  | (a, b) :: r => if k = a then some b else aGet k r
def aPut (k : α) (v : β) : List (α × β) -> List (α × β)
  | [] => [(k, v)]
  | (a, b) :: r => if k = a then (k, v) :: r else (a, b) :: aPut k v r
theorem z6p (j k : α) (v : β) : ∀ es : List (α × β), aGet j (aPut k v es) = if j = k then some v else aGet j es
  | [] => by simp [aPut, aGet]
  | (a, b) :: r => by
    have ih := z6p j k v r
    unfold aPut
    by_cases h : k = a
    ·subst h
     rw [if_pos rfl]
     unfold aGet
     by_cases h2 : j = k
     ·rw [if_pos h2, if_pos h2]
     rw [if_neg h2, if_neg h2, if_neg h2]
    rw [if_neg h]
    unfold aGet
    rw [ih]
    by_cases h2 : j = a
    ·subst h2
     rw [if_pos rfl, if_neg (fun e => h e.symm), if_pos rfl]
    rw [if_neg h2, if_neg h2]
theorem zu0 {k : α} {v : β} {e : α × β} : ∀ {es : List (α × β)}, e ∈ aPut k v es -> e = (k, v) ∨ e ∈ es
  | [], h => by simp [aPut] at h; exact .inl h
  | (a, b) :: r, h => by
    unfold aPut at h
    split at h
    ·rcases List.mem_cons.1 h with h | h
     ·exact .inl h
     exact .inr (.tail _ h)
    rcases List.mem_cons.1 h with h | h
    ·exact .inr (h ▸ .head _)
    exact (zu0 h).imp id (.tail _)
theorem zt9 {k : α} {v : β} : ∀ {es : List (α × β)}, aGet k es = some v -> (k, v) ∈ es
  | [], h => by simp [aGet] at h
  | (a, b) :: r, h => by
    unfold aGet at h
    split at h
    ·rename_i e; subst e; cases h; exact .head _
    exact .tail _ (zt9 h)
end
structure Ky where
  kind : Int
  op : Int
  n : Int
  a : Int
  b : Int
  deriving DecidableEq
abbrev TT := List (Int × Int)
structure Tb where
  seen : List (Ky × Int)
  nums : TT
def z1s (to : TT) (v : Int) : Int := (aGet v to).getD v
def z4t (op : Int) : Bool := op == 1 || op == 3 || op == 6 || op == 7 || op == 8 || op == 16 || op == 17
def z3m (x : Nd) : Ky :=
  if x.kind == 3 then ⟨x.kind, x.op, x.n, x.args.getD 0 0, 0⟩
  else if x.kind == 4 then (if z4t x.op && decide (x.args.getD 0 0 > x.args.getD 1 0) then ⟨x.kind, x.op, x.n, x.args.getD 1 0, x.args.getD 0 0⟩ else ⟨x.kind, x.op, x.n, x.args.getD 0 0, x.args.getD 1 0⟩)
  else ⟨x.kind, x.op, x.n, 0, 0⟩
def z2w (op n : Int) : Bool :=
  if op == 1 || op == 2 || op == 7 || op == 8 || op == 9 || op == 10 || op == 11 then n == 0
  else if op == 3 || op == 4 then n == 1
  else if op == 6 then n == -1 else false
def y08 (nums : TT) (v : Int) (q : Int -> Bool) : Bool := match aGet v nums with
  | some m => q m
  | none => false
def z2c (nums : TT) (x : Nd) : Option Int :=
  if x.kind != 4 then none
  else if y08 nums (x.args.getD 1 0) (z2w x.op) then some (x.args.getD 0 0)
  else if y08 nums (x.args.getD 0 0) (fun m => z4t x.op && z2w x.op m) then some (x.args.getD 1 0)
  else none
def z1p (tb : Tb) (to : TT) (x : Nd) : Bool × Tb × TT := match z2c tb.nums x with
  | some y => (false, tb, aPut (x.outs.headD 0) y to)
  | none => match aGet (z3m x) tb.seen with
    | some y => (false, tb, aPut (x.outs.headD 0) y to)
    | none => (true, ⟨aPut (z3m x) (x.outs.headD 0) tb.seen, if x.kind == 1 then aPut (x.outs.headD 0) x.n tb.nums else tb.nums⟩, to)
def stK (kind : Int) : Bool := kind == 1 || kind == 2 || kind == 3 || kind == 4
mutual
def z03 (tb : Tb) (to : TT) : Nd -> List Nd × Tb × TT
  | .mk kind op n name args outs params ks =>
    if stK kind then
      (if (z1p tb (z0i tb to ks).2 (.mk kind op n name (args.map (z1s to)) outs params (z0i tb to ks).1)).1 then [.mk kind op n name (args.map (z1s to)) outs params (z0i tb to ks).1] else [],
        (z1p tb (z0i tb to ks).2 (.mk kind op n name (args.map (z1s to)) outs params (z0i tb to ks).1)).2)
    else ([.mk kind op n name (args.map (z1s to)) outs params (z0i tb to ks).1], tb, (z0i tb to ks).2)
def z0l (tb : Tb) (to : TT) : List Nd -> List Nd × Tb × TT
  | [] => ([], tb, to)
  | x :: r => ((z03 tb to x).1 ++ (z0l (z03 tb to x).2.1 (z03 tb to x).2.2 r).1, (z0l (z03 tb to x).2.1 (z03 tb to x).2.2 r).2)
def z0i (tb : Tb) (to : TT) : List (List Nd) -> List (List Nd) × TT
  | [] => ([], to)
  | l :: r => ((z0l tb to l).1 :: (z0i tb (z0l tb to l).2.2 r).1, (z0i tb (z0l tb to l).2.2 r).2)
end
def z0u (tb : Tb) (to : TT) (x : Nd) : Nd := .mk x.kind x.op x.n x.name (x.args.map (z1s to)) x.outs x.params (z0i tb to x.kids).1
theorem z4r (tb : Tb) (to : TT) (x : Nd) : z03 tb to x =
    if stK x.kind then (if (z1p tb (z0i tb to x.kids).2 (z0u tb to x)).1 then [z0u tb to x] else [], (z1p tb (z0i tb to x.kids).2 (z0u tb to x)).2)
    else ([z0u tb to x], tb, (z0i tb to x.kids).2) := by
  cases x; simp only [z03, z0u, Nd.kind, Nd.op, Nd.n, Nd.name, Nd.args, Nd.outs, Nd.params, Nd.kids]; rfl
def stB (l : List Nd) : List Nd := (z0l ⟨[], []⟩ [] l).1
mutual
def zf2 : Nd -> Bool
  | .mk kind _ _ _ args outs _ ks => (!stK kind || !outs.isEmpty) && (kind != 3 || decide (1 <= args.length)) && (kind != 4 || decide (2 <= args.length)) && zd8 ks
def z8y : List Nd -> Bool
  | [] => true
  | x :: r => zf2 x && z8y r
def zd8 : List (List Nd) -> Bool
  | [] => true
  | l :: r => z8y l && zd8 r
end
theorem zw2 (x : Nd) : zf2 x = ((!stK x.kind || !x.outs.isEmpty) && (x.kind != 3 || decide (1 <= x.args.length)) && (x.kind != 4 || decide (2 <= x.args.length)) && zd8 x.kids) := by
  cases x; simp only [zf2, Nd.kind, Nd.args, Nd.outs, Nd.kids]; rfl
theorem zq2 : ∀ {l : List Nd} {x : Nd}, z8y l = true -> x ∈ l -> zf2 x = true
  | y :: r, x, hh, hx => by
    simp only [z8y, Bool.and_eq_true] at hh
    rcases List.mem_cons.1 hx with rfl | hx
    ·exact hh.1
    exact zq2 hh.2 hx
theorem zq1 : ∀ {l : List (List Nd)} {x : List Nd}, zd8 l = true -> x ∈ l -> z8y x = true
  | y :: r, x, hh, hx => by
    simp only [zd8, Bool.and_eq_true] at hh
    rcases List.mem_cons.1 hx with rfl | hx
    ·exact hh.1
    exact zq1 hh.2 hx
theorem zh6 (tb : Tb) (to : TT) (x : Nd) : (z03 tb to x).1.length <= 1 := by
  rw [z4r]
  split
  ·dsimp only
   split <;> simp
  simp
theorem z72 : ∀ (l : List Nd) (tb : Tb) (to : TT), (z0l tb to l).1.length <= l.length
  | [], _, _ => by simp [z0l]
  | x :: r, tb, to => by
    have h1 := zh6 tb to x
    have h2 := z72 r (z03 tb to x).2.1 (z03 tb to x).2.2
    simp only [z0l, List.length_append, List.length_cons]
    omega
mutual
theorem y30 : ∀ (x : Nd) (tb : Tb) (to : TT), wtL (z03 tb to x).1 <= wtN x
  | .mk kind op n name args outs params ks, tb, to => by
    have hk := zq6 ks tb to
    unfold z03
    split
    ·dsimp only
     split
     ·simp only [wtL, wtN, List.length_map]; omega
     simp [wtL]
    simp only [wtL, wtN, List.length_map]; omega
theorem ze3 : ∀ (l : List Nd) (tb : Tb) (to : TT), wtL (z0l tb to l).1 <= wtL l
  | [], _, _ => by simp [z0l]
  | x :: r, tb, to => by
    have h1 := y30 x tb to
    have h2 := ze3 r (z03 tb to x).2.1 (z03 tb to x).2.2
    simp only [z0l, y2y, wtL]
    omega
theorem zq6 : ∀ (ks : List (List Nd)) (tb : Tb) (to : TT), wtK (z0i tb to ks).1 <= wtK ks
  | [], _, _ => by simp [z0i]
  | l :: r, tb, to => by
    have h1 := ze3 l tb to
    have h2 := zq6 r tb (z0l tb to l).2.2
    have h3 := z72 l tb to
    simp only [z0i, wtK]
    omega
end
theorem zg3 (l : List Nd) : z1a (stB l) <= z1a l := by
  have h1 := ze3 l ⟨[], []⟩ []
  have h2 := z72 l ⟨[], []⟩ []
  unfold z1a stB
  omega
theorem zh4 : ∀ (ks : List (List Nd)) (tb : Tb) (to : TT), (z0i tb to ks).1.length = ks.length
  | [], _, _ => by simp [z0i]
  | l :: r, tb, to => by simp [z0i, zh4 r]
mutual
theorem y09 : ∀ (x : Nd) (tb : Tb) (to : TT), List.Sublist (dL (z03 tb to x).1) (dN x)
  | .mk kind op n name args outs params ks, tb, to => by
    have hk := zh5 ks tb to
    have h1 : List.Sublist (params ++ (dK (z0i tb to ks).1 ++ outs)) (params ++ (dK ks ++ outs)) := (List.Sublist.refl _).append (hk.append (List.Sublist.refl _))
    unfold z03
    split
    ·dsimp only
     split
     ·simpa [dL, dN] using h1
     simp [dL]
    simpa [dL, dN] using h1
theorem z8w : ∀ (l : List Nd) (tb : Tb) (to : TT), List.Sublist (dL (z0l tb to l).1) (dL l)
  | [], _, _ => by simp [z0l, dL]
  | x :: r, tb, to => by
    simp only [z0l, dL_app, dL]
    exact (y09 x tb to).append (z8w r _ _)
theorem zh5 : ∀ (ks : List (List Nd)) (tb : Tb) (to : TT), List.Sublist (dK (z0i tb to ks).1) (dK ks)
  | [], _, _ => by simp [z0i, dK]
  | l :: r, tb, to => by
    simp only [z0i, dK]
    exact (z8w l tb to).append (zh5 r tb _)
end
mutual
theorem zj9 : ∀ (x : Nd) (tb : Tb) (to : TT), z11 (z03 tb to x).1 = z3e x
  | .mk kind op n name args outs params ks, tb, to => by
    have hk := z8e ks tb to
    unfold z03
    by_cases hK : stK kind = true
    ·have h14 : (kind == 14) = false := by
       simp only [stK, Bool.or_eq_true, beq_iff_eq] at hK; simp; omega
     have h10 : (kind == 10) = false := by
       simp only [stK, Bool.or_eq_true, beq_iff_eq] at hK; simp; omega
     rw [if_pos hK]
     dsimp only
     split <;> simp [z11, z3e, h14, h10]
    rw [if_neg hK]
    simp [z11, z3e, hk]
theorem z46 : ∀ (l : List Nd) (tb : Tb) (to : TT), z11 (z0l tb to l).1 = z11 l
  | [], _, _ => by simp [z0l]
  | x :: r, tb, to => by
    simp only [z0l, zg2, z11, zj9 x tb to, z46 r]
theorem z8e : ∀ (ks : List (List Nd)) (tb : Tb) (to : TT), z21 (z0i tb to ks).1 = z21 ks
  | [], _, _ => by simp [z0i]
  | l :: r, tb, to => by
    simp only [z0i, z21, z46 l tb to, z8e r]
end
theorem z8x (tb : Tb) (to : TT) (x : Nd) (h : stK x.kind = false) : z03 tb to x = ([z0u tb to x], tb, (z0i tb to x.kids).2) := by
  rw [z4r, h]; rfl
theorem z7a {x : Nd} (h : z0e x = true) : stK x.kind = false := by
  cases hK : stK x.kind with
  | false => rfl
  | true =>
    simp only [stK, Bool.or_eq_true, beq_iff_eq] at hK
    have h10 : (x.kind == 10) = false := by simp; omega
    have h11 : (x.kind == 11) = false := by simp; omega
    unfold z0e at h
    simp only [h10, h11, Bool.false_and, Bool.false_eq_true, if_false] at h
    rcases hK with ((e | e) | e) | e <;> (rw [e] at h; simp [z1d] at h)
theorem last_app {A B : List Nd} (h : B ≠ []) : (A ++ B).getLast? = B.getLast? := by
  rw [List.getLast?_append]
  cases hb : B.getLast? with
  | none => exact absurd (List.getLast?_eq_none_iff.1 hb) h
  | some z => rfl
theorem z36 {u : Un} {f : Fl} {deep : Int} {w : Wh} : ∀ {l : List Nd} {all : List Int} (tb : Tb) (to : TT), vGo u f deep w all l = true -> l ≠ [] -> (z0l tb to l).1 ≠ [] /\ z6f (z0l tb to l).1 = z6f l
  | [], _, _, _, _, h => absurd rfl h
  | [x], all, tb, to, hv, _ => by
    simp only [vGo, Bool.and_eq_true, beq_iff_eq, List.isEmpty_nil] at hv
    rw [show (z0l tb to [x]).1 = (z03 tb to x).1 by simp [z0l], z8x tb to x (z7a hv.1.2)]
    exact ⟨by simp, by cases x; rfl⟩
  | x :: y :: r, all, tb, to, hv, _ => by
    unfold vGo at hv
    simp only [Bool.and_eq_true] at hv
    obtain ⟨i1, i2⟩ := z36 (l := y :: r) (z03 tb to x).2.1 (z03 tb to x).2.2 hv.2 sI0
    have e : (z0l tb to (x :: y :: r)).1 = (z03 tb to x).1 ++ (z0l (z03 tb to x).2.1 (z03 tb to x).2.2 (y :: r)).1 := by rw [z0l]
    rw [e]
    refine ⟨fun h => i1 (List.append_eq_nil_iff.1 h).2, ?_⟩
    unfold z6f at i2 ⊢
    rw [last_app i1, i2]
    simp [List.getLast?_cons_cons]
end
section
variable {P : Program} {c : Cx} {R1 : Nat -> Prop} {o : Oper} {fr : Fr} {hp : Hp} {σ : Heap'} {Q : Exit -> Fr -> Heap' -> Prop}
theorem Names.one {Q : Nat -> Prop} {x : IV} (h : Names Q x) : ∃ k, Q k /\ Names (· = k) x := by
  induction h with
  | ptr h => exact ⟨_, h, .ptr rfl⟩
  | sl h => exact ⟨_, h, .sl rfl⟩
  | rpt h => exact ⟨_, h, .rpt rfl⟩
  | mp h => exact ⟨_, h, .mp rfl⟩
  | agg hc _ ih => obtain ⟨k, h1, h2⟩ := ih; exact ⟨k, h1, .agg hc h2⟩
  | tup hc _ ih => obtain ⟨k, h1, h2⟩ := ih; exact ⟨k, h1, .tup hc h2⟩
  | fn1 hc _ ih => obtain ⟨k, h1, h2⟩ := ih; exact ⟨k, h1, .fn1 hc h2⟩
  | fn2 hc _ ih => obtain ⟨k, h1, h2⟩ := ih; exact ⟨k, h1, .fn2 hc h2⟩
theorem mem2 {p : Nat -> Prop} {a b : Nat} (ha : p a) (hb : p b) : ∀ k ∈ [a, b], p k := fun k hk => by
  rcases List.mem_cons.1 hk with rfl | hk
  ·exact ha
  obtain rfl := List.mem_singleton.1 hk; exact hb
open Classical in
theorem SC.stepN {ns : List Nat} {f : FuncId} {args : List IV} {pre post : List (Nat × HO)} {R : Nat -> Prop} {r : IV} {hp : Hp} {ρ : Loc} {w : World} {a : Act} {vs : List Value} (hsc : SC P f args pre R r post)
    (h : All c ρ (look hp) w fr a) (hargs : RepL c.F ρ (look hp) w args vs) (hpre : ∀ k o, look (up pre) k = some o -> look hp k = some o) (hdom : post.map (·.1) = ns ++ pre.map (·.1)) (hσ0 : ∀ k ∈ ns, look hp k = none) (hc0 : ∀ k ∈ ns, c.σ k = none) (hfr0 : ∀ k ∈ ns, nmFr k fr = false) (hhp0 : ∀ k ∈ ns, nmHp k hp = false)
    (hR : ∀ k, c.R k -> look (up pre) k = none ∨ R k) (hr : only (post.map (·.1)) r = true) (hpost : z2k (post.map (·.1)) post = true) :
    Calls P f vs.toArray w fun e w' => ∃ ρ' v, e = .returned v /\ All c ρ' (look (up post ++ hp)) w' fr a /\ RepI c.F ρ' (look (up post ++ hp)) w' r v := by
  have hd : ∀ k, look (up post) k = none ↔ look (up pre) k = none /\ k ∉ ns := fun k => by
    rw [z1y, z1y, hdom, List.mem_append, not_or]
    exact And.comm
  have hpp : ∀ k, look (up post) k ≠ none -> look hp k ≠ none -> look (up pre) k ≠ none := fun k e e1 e2 => by
    by_cases e3 : k ∈ ns
    ·exact e1 (hσ0 k e3)
    exact e ((hd k).2 ⟨e2, e3⟩)
  let ρ1 : Loc := fun k => if look (up pre) k = none then none else ρ k
  let F1 : Nat -> Prop := fun b => c.F b ∨ ∃ k cc, ρ k = some (b, cc) /\ look (up pre) k = none
  have h1in : ∀ k, look (up pre) k ≠ none -> ρ1 k = ρ k := fun k hk => if_neg hk
  have h1out : ∀ k, look (up pre) k = none -> ρ1 k = none := fun k hk => if_pos hk
  have h1 : ∀ k l, ρ1 k = some l -> look (up pre) k ≠ none /\ ρ k = some l := fun k l hk => by
    by_cases e : look (up pre) k = none
    ·rw [h1out k e] at hk; cases hk
    exact ⟨e, (h1in k e) ▸ hk⟩
  have hown1 : ∀ b, owned F1 ρ1 b -> owned c.F ρ b := fun b hb => by
    rcases hb with (hb | ⟨k, cc, hk, _⟩) | ⟨k, cc, hk⟩
    ·exact .inl hb
    ·exact .inr ⟨k, cc, hk⟩
    exact .inr ⟨k, cc, (h1 k _ hk).2⟩
  have hconv : ∀ x : IV, ¬ Names (fun k => ¬ ∀ o, look (up pre) k = some o -> look hp k = some o /\ ρ1 k = ρ k) x := fun x hx => by
    obtain ⟨k, hk⟩ := hx.some
    exact hk fun o ho => ⟨hpre k o ho, h1in k (by simp [ho])⟩
  have hrel1 : RelH F1 ρ1 (look (up pre)) w := by
    refine ⟨fun k k' b cc cc' hk hk' => h.rel.inj k k' b cc cc' (h1 _ _ hk).2 (h1 _ _ hk').2, fun k b cc hk hb => ?_, fun b hb => ?_, fun k b cc hk => ?_, fun k o hk hρ => ?_⟩
    ·rcases hb with hb | ⟨k', cc', hk', hn⟩
     ·exact h.rel.apart k b cc (h1 _ _ hk).2 hb
     obtain rfl := h.rel.inj _ _ _ _ _ (h1 _ _ hk).2 hk'
     exact (h1 _ _ hk).1 hn
    ·rcases hb with hb | ⟨k', cc', hk', _⟩
     ·exact h.rel.old b hb
     exact h.rel.lt hk'
    ·obtain ⟨hne, hk2⟩ := h1 _ _ hk
     obtain ⟨o1, ho1, ho2⟩ := h.rel.obj k b cc hk2
     cases hl : look (up pre) k with
     | none => exact absurd hl hne
     | some o2 =>
       rw [hpre k o2 hl] at ho1; cases ho1
       exact ⟨_, rfl, ho2.conv hown1 fun x _ => hconv x⟩
    rw [h1in k (by simp [hk])] at hρ
    exact h.rel.real k o (hpre k o hk) hρ
  refine (hsc F1 ρ1 w vs hrel1 ⟨hargs.1, fun j x hj => ?_⟩).mono ?_
  ·obtain ⟨v, hv, hx⟩ := hargs.2 j x hj
   exact ⟨v, hv, hx.conv hown1 (hconv x)⟩
  rintro e w' ⟨ρ2, v, rfl, hv, hrel2, t⟩
  let ρ' : Loc := fun k => if look (up post) k = none then ρ k else ρ2 k
  have h2in : ∀ k, look (up post) k ≠ none -> ρ' k = ρ2 k := fun k hk => if_neg hk
  have h2out : ∀ k, look (up post) k = none -> ρ' k = ρ k := fun k hk => if_pos hk
  have h2none : ∀ k, look (up post) k = none -> ρ2 k = none := fun k hk => by
    cases h3 : ρ2 k with
    | none => rfl
    | some l =>
      obtain ⟨o1, ho1, _⟩ := hrel2.obj k l.1 l.2 h3
      rw [hk] at ho1; cases ho1
  have hσin : ∀ k, look (up post) k ≠ none -> look (up post ++ hp) k = look (up post) k := fun k hk => by
    rw [z28]
    cases h3 : look (up post) k with
    | none => exact absurd h3 hk
    | some o => rfl
  have hσout : ∀ k, look (up post) k = none -> look (up post ++ hp) k = look hp k := fun k hk => by
    rw [z28, hk]; rfl
  have hown2 : ∀ b, owned c.F ρ' b -> owned F1 ρ2 b := fun b hb => by
    rcases hb with hb | ⟨k, cc, hk⟩
    ·exact .inl (.inl hb)
    by_cases e : look (up post) k = none
    ·rw [h2out k e] at hk; exact .inl (.inr ⟨k, cc, hk, ((hd k).1 e).1⟩)
    rw [h2in k e] at hk; exact .inr ⟨k, cc, hk⟩
  have hconv2 : ∀ x : IV, only (post.map (·.1)) x = true -> ¬ Names (fun k => ¬ ∀ o, look (up post ++ hp) k = some o -> look (up post) k = some o /\ ρ' k = ρ2 k) x := fun x hx hn => by
    refine zg8 hx (hn.imp fun k hk hmem => hk fun o ho => ?_)
    have hne : look (up post) k ≠ none := fun e => (z1y.1 e) hmem
    rw [hσin k hne] at ho
    exact ⟨ho, h2in k hne⟩
  have T : Trans c.F (fun k => look (up pre) k = none ∨ R k) ρ (look hp) w ρ' (look (up post ++ hp)) w' := by
    refine ⟨t.os, t.tape, t.output, t.size, fun b hb hall => t.blk b hb fun k cc hk => ?_, fun k b cc hk hb => ?_, fun k cs cs' e1 e2 => ?_, fun k cs cs' e1 e2 => ?_, fun k s s' els els' e1 e2 hl => ?_, fun k s s' els els' e1 e2 => ?_, fun k cs' e2 => ?_, fun k cs' e2 => ?_, fun k s els' e2 => ?_⟩
    ·obtain ⟨hne, hk2⟩ := h1 _ _ hk
     exact (hall k cc hk2).resolve_left hne
    ·by_cases e : look (up post) k = none
     ·rwa [h2out k e] at hk
     rw [h2in k e] at hk; exact (h1 _ _ (t.own k b cc hk hb)).2
    all_goals by_cases e : look (up post) k = none
    ·exact h2out k e
    ·cases h3 : look (up pre) k with
     | none => exact absurd h3 (hpp k e (by simp [e1]))
     | some o =>
       rw [hpre k o h3] at e1; cases e1
       rw [hσin k e] at e2
       rw [h2in k e, t.box k _ _ h3 e2, h1in k (by simp [h3])]
    ·exact h2out k e
    ·cases h3 : look (up pre) k with
     | none => exact absurd h3 (hpp k e (by simp [e1]))
     | some o =>
       rw [hpre k o h3] at e1; cases e1
       rw [hσin k e] at e2
       rw [h2in k e, t.map k _ _ h3 e2, h1in k (by simp [h3])]
    ·exact h2out k e
    ·cases h3 : look (up pre) k with
     | none => exact absurd h3 (hpp k e (by simp [e1]))
     | some o =>
       rw [hpre k o h3] at e1; cases e1
       rw [hσin k e] at e2
       rw [h2in k e, t.row k _ _ _ _ h3 e2 hl, h1in k (by simp [h3])]
    ·rw [hσout k e, e1] at e2; cases e2; exact Nat.le_refl _
    ·cases h3 : look (up pre) k with
     | none => exact absurd h3 (hpp k e (by simp [e1]))
     | some o =>
       rw [hpre k o h3] at e1; cases e1
       rw [hσin k e] at e2
       exact t.grow k _ _ _ _ h3 e2
    ·rw [hσout k e] at e2; exact .inr ⟨_, e2⟩
    ·rw [hσin k e] at e2
     rcases t.kindB k _ e2 with h3 | ⟨cs, h3⟩
     ·by_cases e3 : k ∈ ns
      ·exact .inl (hσ0 k e3)
      exact absurd ((hd k).2 ⟨h3, e3⟩) e
     exact .inr ⟨cs, hpre k _ h3⟩
    ·rw [hσout k e] at e2; exact .inr ⟨_, e2⟩
    ·rw [hσin k e] at e2
     rcases t.kindM k _ e2 with h3 | ⟨cs, h3⟩
     ·by_cases e3 : k ∈ ns
      ·exact .inl (hσ0 k e3)
      exact absurd ((hd k).2 ⟨h3, e3⟩) e
     exact .inr ⟨cs, hpre k _ h3⟩
    ·rw [hσout k e] at e2; exact .inr ⟨_, e2⟩
    rw [hσin k e] at e2
    rcases t.kindR k _ _ e2 with h3 | ⟨cs, h3⟩
    ·by_cases e3 : k ∈ ns
     ·exact .inl (hσ0 k e3)
     exact absurd ((hd k).2 ⟨h3, e3⟩) e
    exact .inr ⟨cs, hpre k _ h3⟩
  have hnone : ∀ k, (look hp k = none /\ look (up post ++ hp) k ≠ none) -> k ∈ ns := fun k hk => by
    by_cases e : look (up post) k = none
    ·rw [hσout k e] at hk; exact absurd hk.1 hk.2
    refine Classical.byContradiction fun e3 => ?_
    have e4 : look (up pre) k ≠ none := fun h3 => e ((hd k).2 ⟨h3, e3⟩)
    cases h3 : look (up pre) k with
    | none => exact e4 h3
    | some o => rw [hpre k o h3] at hk; cases hk.1
  have hnn : ∀ x : IV, (∀ k ∈ ns, nm k x = false) -> ¬ Names (fun k => look hp k = none /\ look (up post ++ hp) k ≠ none) x := fun x hx hn => by
    obtain ⟨k, hk, hk2⟩ := (hn.imp hnone).one
    have := hx k hk
    rw [zi5 hk2] at this; cases this
  refine ⟨ρ', v, rfl, h.step T hR ⟨fun k k' b cc cc' hk hk' => ?_, fun k b cc hk hb => ?_, fun b hb => Nat.lt_of_lt_of_le (h.rel.old b hb) t.size, fun k b cc hk => ?_, fun k o hk hρ => ?_⟩ (fun k e1 e2 => hc0 k (hnone k ⟨e1, e2⟩)) fun _ x hx => hnn x fun k hk => z9o (hfr0 k hk) hx, hv.conv hown2 (hconv2 r hr)⟩
  ·by_cases e : look (up post) k = none <;> by_cases e' : look (up post) k' = none
   ·rw [h2out k e] at hk; rw [h2out k' e'] at hk'; exact h.rel.inj _ _ _ _ _ hk hk'
   ·rw [h2out k e] at hk; rw [h2in k' e'] at hk'
    exact absurd (.inr ⟨k, cc, hk, ((hd k).1 e).1⟩) (hrel2.apart _ _ _ hk')
   ·rw [h2in k e] at hk; rw [h2out k' e'] at hk'
    exact absurd (.inr ⟨k', cc', hk', ((hd k').1 e').1⟩) (hrel2.apart _ _ _ hk)
   rw [h2in k e] at hk; rw [h2in k' e'] at hk'; exact hrel2.inj _ _ _ _ _ hk hk'
  ·by_cases e : look (up post) k = none
   ·rw [h2out k e] at hk; exact h.rel.apart _ _ _ hk hb
   rw [h2in k e] at hk; exact hrel2.apart _ _ _ hk (.inl hb)
  ·by_cases e : look (up post) k = none
   ·rw [h2out k e] at hk
    obtain ⟨o1, ho1, ho2⟩ := h.rel.obj k b cc hk
    refine ⟨o1, (hσout k e).trans ho1, ho2.keep T (t.blk b (h.rel.lt hk) fun k' cc' hk' => ?_) fun x ⟨cs, h3, h4⟩ => hnn x fun k hk => by subst h3; exact z5m (z83 (hhp0 k hk) ho1) h4⟩
    obtain ⟨hne, hk2⟩ := h1 _ _ hk'
    obtain rfl := h.rel.inj _ _ _ _ _ hk hk2
    exact absurd ((hd _).1 e).1 hne
   rw [h2in k e] at hk
   obtain ⟨o1, ho1, ho2⟩ := hrel2.obj k b cc hk
   refine ⟨o1, (hσin k e).trans ho1, ho2.conv hown2 fun x ⟨cs, h3, h4⟩ => hconv2 x ?_⟩
   subst h3
   exact z4l (z5c hpost (z3k ho1)) h4
  by_cases e : look (up post) k = none
  ·rw [hσout k e] at hk; rw [h2out k e] at hρ; exact h.rel.real k o hk hρ
  rw [hσin k e] at hk; rw [h2in k e] at hρ; exact hrel2.real k o hk hρ
theorem y1d {ns : List Nat} {f : FuncId} {os : Array Operand} {tys : Array TypeId} {xs args : List IV} {pre post : List (Nat × HO)} {R : Nat -> Prop} {r : IV} {hp : Hp} (hsc : SC P f args pre R r post) (hf : z04 P f)
    (ho : o.op = .call { callee := .value (.func f), args := os, argTypes := tys }) (hx : evs fr os.toList = some xs) (hs : Subs (look hp) xs args) (hpre : ∀ k o, look (up pre) k = some o -> look hp k = some o) (hdom : post.map (·.1) = ns ++ pre.map (·.1)) (hσ0 : ∀ k ∈ ns, look hp k = none) (hc0 : ∀ k ∈ ns, c.σ k = none) (hfr0 : ∀ k ∈ ns, nmFr k fr = false) (hhp0 : ∀ k ∈ ns, nmHp k hp = false)
    (hR : ∀ k, c.R k -> look (up pre) k = none ∨ R k) (hr : only (post.map (·.1)) r = true) (hpost : z2k (post.map (·.1)) post = true) : Ok P c o fr (look hp) r (look (up post ++ hp)) := by
  intro ρ w a K Q h hK
  obtain ⟨fn, hfn, hname, hbody⟩ := hf
  have hargs := hs _ _ _ _ (z7c h hx)
  have hrun : (execOp a.eval o).run P w = .ok (.enter f (os.toList.map a.eval).toArray) w := by
    have hcall : (callFunc f (os.toList.map a.eval).toArray).run P w = .ok (.enter f (os.toList.map a.eval).toArray) w := by
      unfold callFunc
      simp only [Sem.run_bind]
      show (Result.andThen (.ok P w) _) = _
      simp only [Result.andThen_ok, hfn, hname, hbody]
      rfl
    simp only [execOp, ho, resolve, Act.eval, Deferred.ofValue, Sem.run_bind, Sem.run_pure, Result.andThen_ok, invoke]
    rw [<- hcall]
    congr 2
    apply Array.ext'
    simp
  unfold Oper.wp
  rw [hrun, Oper.upon_enter]
  refine (hsc.stepN h hargs hpre hdom hσ0 hc0 hfr0 hhp0 hR hr hpost).mono ?_
  rintro e w' ⟨ρ', v, rfl, h1, h2⟩
  exact hK ρ' w' v h1 h2
def kyV (k : Ky) : Value := .agg #[.int .i64 k.kind, .int .i64 k.op, .int .i64 k.n, .int .i64 k.a, .int .i64 k.b]
abbrev kyP (k : Ky) : PV := .agg [vInt k.kind, vInt k.op, vInt k.n, vInt k.a, vInt k.b]
def kyEs (l : List (Ky × Int)) : List (Value × PV) := l.map fun e => (kyV e.1, vInt e.2)
theorem y11 {own : Nat -> Prop} {w : World} {k : Ky} {v : Value} (h : RepP own w (kyP k) v) : v = kyV k := by
  cases h with
  | agg _ vs u hl hv hr =>
    have h0 := hv 0 _ rfl; have h1 := hv 1 _ rfl; have h2 := hv 2 _ rfl; have h3 := hv 3 _ rfl; have h4 := hv 4 _ rfl
    have r0 := hr 0 _ rfl; have r1 := hr 1 _ rfl; have r2 := hr 2 _ rfl; have r3 := hr 3 _ rfl; have r4 := hr 4 _ rfl
    cases hu0 : u 0 <;> rw [hu0] at r0 <;> cases r0
    cases hu1 : u 1 <;> rw [hu1] at r1 <;> cases r1
    cases hu2 : u 2 <;> rw [hu2] at r2 <;> cases r2
    cases hu3 : u 3 <;> rw [hu3] at r3 <;> cases r3
    cases hu4 : u 4 <;> rw [hu4] at r4 <;> cases r4
    rw [hu0] at h0; rw [hu1] at h1; rw [hu2] at h2; rw [hu3] at h3; rw [hu4] at h4
    unfold kyV
    congr 1
    apply Array.ext_getElem?
    intro i
    match i with
    | 0 => simpa using h0
    | 1 => simpa using h1
    | 2 => simpa using h2
    | 3 => simpa using h3
    | 4 => simpa using h4
    | i + 5 => rw [Array.getElem?_eq_none (by simp at hl; omega), Array.getElem?_eq_none sI0]
structure K5 (P : Program) (t : TypeId) (f0 f1 f2 f3 f4 : Field) : Prop where
  hu : P.underlying t = some (.struct #[f0, f1, f2, f3, f4])
  hs : P.stoodInHeld t = false
  t0 : P.underlying f0.type = some (.int .i64)
  t1 : P.underlying f1.type = some (.int .i64)
  t2 : P.underlying f2.type = some (.int .i64)
  t3 : P.underlying f3.type = some (.int .i64)
  t4 : P.underlying f4.type = some (.int .i64)
  n0 : f0.name ≠ "_"
  n1 : f1.name ≠ "_"
  n2 : f2.name ≠ "_"
  n3 : f3.name ≠ "_"
  n4 : f4.name ≠ "_"
  o0 : f0.offset = 0
  o1 : f1.offset = 1
  o2 : f2.offset = 2
  o3 : f3.offset = 3
  o4 : f4.offset = 4
section
variable {kt : TypeId} {f0 f1 f2 f3 f4 : Field}
theorem K5.part0 (K : K5 P kt f0 f1 f2 f3 f4) (w : World) (a b c d e : Int) : (part f0.type #[.int .i64 a, .int .i64 b, .int .i64 c, .int .i64 d, .int .i64 e] f0.offset).run P w = .ok (.int .i64 a) w := by simp [part, z2l K.t0, TypeDesc.isRow, K.o0, Sem.run_bind]
theorem K5.part1 (K : K5 P kt f0 f1 f2 f3 f4) (w : World) (a b c d e : Int) : (part f1.type #[.int .i64 a, .int .i64 b, .int .i64 c, .int .i64 d, .int .i64 e] f1.offset).run P w = .ok (.int .i64 b) w := by simp [part, z2l K.t1, TypeDesc.isRow, K.o1, Sem.run_bind]
theorem K5.part2 (K : K5 P kt f0 f1 f2 f3 f4) (w : World) (a b c d e : Int) : (part f2.type #[.int .i64 a, .int .i64 b, .int .i64 c, .int .i64 d, .int .i64 e] f2.offset).run P w = .ok (.int .i64 c) w := by simp [part, z2l K.t2, TypeDesc.isRow, K.o2, Sem.run_bind]
theorem K5.part3 (K : K5 P kt f0 f1 f2 f3 f4) (w : World) (a b c d e : Int) : (part f3.type #[.int .i64 a, .int .i64 b, .int .i64 c, .int .i64 d, .int .i64 e] f3.offset).run P w = .ok (.int .i64 d) w := by simp [part, z2l K.t3, TypeDesc.isRow, K.o3, Sem.run_bind]
theorem K5.part4 (K : K5 P kt f0 f1 f2 f3 f4) (w : World) (a b c d e : Int) : (part f4.type #[.int .i64 a, .int .i64 b, .int .i64 c, .int .i64 d, .int .i64 e] f4.offset).run P w = .ok (.int .i64 e) w := by simp [part, z2l K.t4, TypeDesc.isRow, K.o4, Sem.run_bind]
theorem K5.eq (K : K5 P kt f0 f1 f2 f3 f4) (w : World) (k k' : Ky) : (Op.equal kt (kyV k) (kyV k')).run P w = .ok (decide (k = k')) w := by
  have hfs : P.fieldsOf kt = #[f0, f1, f2, f3, f4] := by simp [Program.fieldsOf, K.hu]
  show (Op.equalIn (9999 + 1) kt (.agg _) (.agg _)).run P w = _
  rw [run_equalIn_struct w 9999 kt _ _ (by rw [hfs]; exact K.hu) K.hs, hfs]
  have e0 : ∀ a b : Int, (Op.equalIn 9999 f0.type (.int .i64 a) (.int .i64 b)).run P w = .ok (a == b) w := fun a b => run_equalIn_int w 9998 f0.type .i64 .i64 a b K.t0
  have e1 : ∀ a b : Int, (Op.equalIn 9999 f1.type (.int .i64 a) (.int .i64 b)).run P w = .ok (a == b) w := fun a b => run_equalIn_int w 9998 f1.type .i64 .i64 a b K.t1
  have e2 : ∀ a b : Int, (Op.equalIn 9999 f2.type (.int .i64 a) (.int .i64 b)).run P w = .ok (a == b) w := fun a b => run_equalIn_int w 9998 f2.type .i64 .i64 a b K.t2
  have e3 : ∀ a b : Int, (Op.equalIn 9999 f3.type (.int .i64 a) (.int .i64 b)).run P w = .ok (a == b) w := fun a b => run_equalIn_int w 9998 f3.type .i64 .i64 a b K.t3
  have e4 : ∀ a b : Int, (Op.equalIn 9999 f4.type (.int .i64 a) (.int .i64 b)).run P w = .ok (a == b) w := fun a b => run_equalIn_int w 9998 f4.type .i64 .i64 a b K.t4
  obtain ⟨a0, a1, a2, a3, a4⟩ := k
  obtain ⟨b0, b1, b2, b3, b4⟩ := k'
  have S : ∀ (f : Field) (fs : List Field) (xs ys : Array Value) (a b : Int), f.name ≠ "_" -> (part f.type xs f.offset).run P w = .ok (.int .i64 a) w -> (part f.type ys f.offset).run P w = .ok (.int .i64 b) w -> (Op.equalIn 9999 f.type (.int .i64 a) (.int .i64 b)).run P w = .ok (a == b) w ->
      (Op.eqFields 9999 xs ys (f :: fs)).run P w = if a = b then (Op.eqFields 9999 xs ys fs).run P w else .ok false w := fun f fs xs ys a b hn hx hy he => by
    simp only [Op.eqFields, hn, ne_eq, not_false_eq_true, if_true, Sem.run_bind, hx, hy, he, Result.andThen_ok]
    by_cases h : a = b
    ·simp [h]
    have : (a == b) = false := by simpa using h
    simp [h]
  rw [S f0 _ _ _ a0 b0 K.n0 (K.part0 ..) (K.part0 ..) (e0 ..), S f1 _ _ _ a1 b1 K.n1 (K.part1 ..) (K.part1 ..) (e1 ..), S f2 _ _ _ a2 b2 K.n2 (K.part2 ..) (K.part2 ..) (e2 ..), S f3 _ _ _ a3 b3 K.n3 (K.part3 ..) (K.part3 ..) (e3 ..), S f4 _ _ _ a4 b4 K.n4 (K.part4 ..) (K.part4 ..) (e4 ..)]
  have hn : (Op.eqFields 9999 #[.int .i64 a0, .int .i64 a1, .int .i64 a2, .int .i64 a3, .int .i64 a4] #[.int .i64 b0, .int .i64 b1, .int .i64 b2, .int .i64 b3, .int .i64 b4] []).run P w = .ok true w := by simp [Op.eqFields]
  rw [hn]
  by_cases h0 : a0 = b0 <;> by_cases h1 : a1 = b1 <;> by_cases h2 : a2 = b2 <;> by_cases h3 : a3 = b3 <;> by_cases h4 : a4 = b4 <;> simp [h0, h1, h2, h3, h4]
theorem K5.check (K : K5 P kt f0 f1 f2 f3 f4) (w : World) (em : Bool) (k : Ky) : (Instr.checkKey em 10000 kt (kyV k)).run P w = .ok () w := by
  show (Instr.checkKey em (9999 + 1) kt (.agg _)).run P w = _
  rw [Instr.checkKey]
  have c : ∀ (t : TypeId) (a : Int), P.underlying t = some (.int .i64) -> (Instr.checkKey em 9999 t (.int .i64 a)).run P w = .ok () w := fun t a h => MapKept.run_checkKey (w := w) h (k := .int .i64 a) (by simp [MapKept.IsKey]) em 9998
  simp only [Sem.run_bind, run_underlying K.hu, Result.andThen_ok]
  rw [<- Array.forIn_toList]
  simp [Sem.run_bind, K.n0, K.n1, K.n2, K.n3, K.n4, K.part0, K.part1, K.part2, K.part3, K.part4, c _ _ K.t0, c _ _ K.t1, c _ _ K.t2, c _ _ K.t3, c _ _ K.t4]
theorem K5.find (K : K5 P kt f0 f1 f2 f3 f4) (w : World) (k : Ky) : ∀ (l : List (Ky × Int)) (es : List MapEntry) (i : Nat), es.length = l.length -> (∀ (j : Nat) (a : Ky) (v : Int), l[j]? = some (a, v) -> ∃ m : MapEntry, es[j]? = some m /\ m.key = kyV a) ->
    ((Instr.findAsking kt (kyV k) es i).run P w = .ok none w /\ aGet k l = none) ∨ ∃ j m v, (Instr.findAsking kt (kyV k) es i).run P w = .ok (some (i + j, m.val)) w /\ es[j]? = some m /\ l[j]? = some (k, v) /\ aGet k l = some v
  | [], [], _, _, _ => .inl ⟨by simp [Instr.findAsking], rfl⟩
  | (a, v) :: l, m :: es, i, hl, h => by
    obtain ⟨m', hm', e⟩ := h 0 a v rfl
    cases hm'
    have hr := K.eq w k a
    rw [<- e] at hr
    by_cases hk : k = a
    ·subst hk
     exact .inr ⟨0, m, v, by simp [Instr.findAsking, hr], rfl, rfl, by simp [aGet]⟩
    rcases K.find w k l es (i + 1) (by simpa using hl) (fun j a v hj => by simpa using h (j + 1) a v (by simpa using hj)) with ⟨h1, h2⟩ | ⟨j, m', v', h1, h2, h3, h4⟩
    ·exact .inl ⟨by simp [Instr.findAsking, hr, hk, h1], by simp [aGet, hk, h2]⟩
    exact .inr ⟨j + 1, m', v', by simp [Instr.findAsking, hr, hk, h1, Nat.add_assoc, Nat.add_comm 1 j], by simpa using h2, by simpa using h3, by simp [aGet, hk, h4]⟩
theorem z9m {l : List (Ky × Int)} {j : Nat} {a : Ky} {v : Int} (h : l[j]? = some (a, v)) : (kyEs l)[j]? = some (kyV a, vInt v) := by
  unfold kyEs; rw [List.getElem?_map, h]; rfl
theorem zv0 (l : List (Ky × Int)) : (kyEs l).length = l.length := by simp [kyEs]
theorem zr7 {t et : TypeId} {x y : Operand} {k : Nat} {l : List (Ky × Int)} {q : Ky} (K : K5 P kt f0 f1 f2 f3 f4) (ho : o.op = .lookup t x y true) (hx : fr.ev x = some (.mp k)) (hy : fr.ev y = some (.pv (kyP q))) (hk : look hp k = some (.map (kyEs l)))
    (hu : P.underlying t = some (.map kt et)) (hzv : ((P.info? et).bind (·.zero)) = some (.int .i64 0)) (hR : R1 k) : OkV P c R1 o fr (look hp) (.tup [iInt ((aGet q l).getD 0), iBool (aGet q l).isSome]) := by
  intro ρ w a h
  obtain ⟨b, cc, r, ck, u, hv, hρ, h3, h4, h5, h6⟩ := h.mapAt hx hk
  have h3' : ∀ w2, SameFor c.F R1 ρ w w2 -> w2.heap[b]? = some (.map r ck) := fun w2 h2 => (h2 b (h.rel.lt hρ) (.inr ⟨k, cc, hR, hρ⟩)).trans h3
  have hyv : a.eval y = kyV q := by
    have := h.ev hy
    generalize a.eval y = vy at this
    cases this with
    | pv _ _ hp => exact y11 hp
  have two : ∀ {n : Int} {g : Bool}, RepI c.F ρ (look hp) w (.tup [iInt n, iBool g]) (.tuple #[.int .i64 n, .bool g]) := fun {n g} => .tup _ _ (fun j => if j = 0 then .int .i64 n else .bool g) rfl (fun j x hj => by
      match j, hj with
      | 0, hj => rfl
      | 1, hj => rfl
      | j + 2, hj => simp at hj) fun j x hj => by
      match j, hj with
      | 0, hj => cases hj; exact z2s _
      | 1, hj => cases hj; exact z2s _
      | j + 2, hj => simp at hj
  have hfk : ∀ w2, (Instr.findKey kt (kyV q) r.toList).run P w2 = (Instr.findAsking kt (kyV q) r.toList).run P w2 := fun w2 => run_findKey_eq w2 (by rw [K.hu]) _ _
  have hz : ∀ w2, (zeroValue et).run P w2 = .ok (.int .i64 0) w2 := fun w2 => by
    cases hq : P.info? et with
    | none => simp [hq] at hzv
    | some i => simp [hq] at hzv; simp [zeroValue, typeInfo, hq, hzv]
  have F := fun w2 => K.find w2 q l r.toList 0 (by simpa [zv0] using h4) (fun j a v hj => by obtain ⟨m, h1, h2, _⟩ := h5 j _ _ (z9m hj); exact ⟨m, by simpa using h1, h2⟩)
  cases hg : aGet q l with
  | none =>
    refine ⟨.tuple #[.int .i64 0, .bool false], fun w2 hw2 => ?_, two⟩
    rcases F w2 with ⟨h1, _⟩ | ⟨j, m, v, _, _, _, h2⟩
    ·simp only [execOp, ho, hv, hyv, Sem.run_bind, Instr.lookup, run_underlying hu, Result.andThen_ok, MapKept.run_getObj_map (h3' w2 hw2), Sem.run_pure, K.check, hfk, h1, hz]
     rfl
    rw [hg] at h2; cases h2
  | some v =>
    refine ⟨.tuple #[.int .i64 v, .bool true], fun w2 hw2 => ?_, two⟩
    rcases F w2 with ⟨_, h2⟩ | ⟨j, m, v', h1, h2, h7, h8⟩
    ·rw [hg] at h2; cases h2
    rw [hg] at h8; cases h8
    obtain ⟨m', hm', _, e2⟩ := h5 j _ _ (z9m h7)
    have hmm : m' = m := by
      have e : r[j]? = some m := by simpa using h2
      rw [e] at hm'; exact (Option.some.inj hm').symm
    subst hmm
    have hval : m'.val = .int .i64 v := by
      have := h6 j _ _ (z9m h7)
      rw [<- e2] at this
      cases hmv : m'.val <;> rw [hmv] at this <;> cases this
      rfl
    simp only [execOp, ho, hv, hyv, Sem.run_bind, Instr.lookup, run_underlying hu, Result.andThen_ok, MapKept.run_getObj_map (h3' w2 hw2), Sem.run_pure, K.check, hfk, h1, hval]
    rfl
theorem zu1 {α β : Type} [DecidableEq α] {k : α} {v : β} : ∀ {l : List (α × β)}, aGet k l = none -> aPut k v l = l ++ [(k, v)]
  | [], _ => rfl
  | (a, b) :: r, h => by
    unfold aGet at h
    split at h
    ·cases h
    rename_i e
    unfold aPut
    rw [if_neg e, zu1 h]; rfl
theorem zi7 {t et : TypeId} {x y z : Operand} {k : Nat} {l : List (Ky × Int)} {q : Ky} {v : Int} (K : K5 P kt f0 f1 f2 f3 f4) (ho : o.op = .mapUpdate t x y z) (hx : fr.ev x = some (.mp k)) (hy : fr.ev y = some (.pv (kyP q))) (hz : fr.ev z = some (iInt v)) (hk : look hp k = some (.map (kyEs l)))
    (hR : ¬ c.R k) (hu : P.underlying t = some (.map kt et)) (hnew : aGet q l = none) : Ok P c o fr (look hp) (.pv (.val undef)) (look ((k, some (.map (kyEs (aPut q v l)))) :: hp)) := by
  refine z8n fun ρ w a h => ?_
  obtain ⟨b, cc, r, ck, u, hv, hρ, h3, h4, h5, h6⟩ := h.mapAt hx hk
  have hyv : a.eval y = kyV q := by
    have := h.ev hy
    generalize a.eval y = vy at this
    cases this with
    | pv _ _ hp => exact y11 hp
  have hzv : a.eval z = .int .i64 v := z16 h hz
  have hset : ∀ o', (setObj b o').run P w = .ok () { w with heap := w.heap.setIfInBounds b o' } := fun o' => MapKept.run_setObj_map o' h3
  have hb : b < w.heap.size := (Array.getElem?_eq_some_iff.1 h3).1
  have hfk : (Instr.findKey kt (kyV q) r.toList).run P w = .ok none w := by
    rw [run_findKey_eq w (by rw [K.hu])]
    rcases K.find w q l r.toList 0 (by simpa [zv0] using h4) (fun j a v hj => by obtain ⟨m, h1, h2, _⟩ := h5 j _ _ (z9m hj); exact ⟨m, by simpa using h1, h2⟩) with ⟨h1, _⟩ | ⟨j, m, v', _, _, _, h2⟩
    ·exact h1
    rw [hnew] at h2; cases h2
  have hen : kyEs (aPut q v l) = kyEs l ++ [(kyV q, vInt v)] := by rw [zu1 hnew]; simp [kyEs]
  refine ⟨ρ, { w with heap := w.heap.setIfInBounds b (.map (r.push ⟨kyV q, .int .i64 v, ck⟩) (ck + 1)) }, by simp [execOp, ho, hv, hyv, hzv, Instr.mapUpdate, Sem.run_bind, run_underlying hu, MapKept.run_getObj_map h3, K.check, hfk, hset], ?_⟩
  refine h.write hρ hk trivial hR rfl rfl rfl sI0 (fun j hj => by simp [Ne.symm hj]) fun keep keepP => ?_
  refine .map _ (r.push ⟨kyV q, .int .i64 v, ck⟩) (ck + 1) (fun i => if i = (kyEs l).length then .int .i64 v else u i) (by simp [hb]) (by rw [hen]; simp [h4]) (fun i k' p' hi => ?_) fun i k' p' hi => ?_
  ·rw [hen] at hi
   by_cases e : i = (kyEs l).length
   ·subst e
    simp only [List.getElem?_concat_length, Option.some.injEq, Prod.mk.injEq] at hi
    obtain ⟨rfl, rfl⟩ := hi
    exact ⟨⟨kyV q, .int .i64 v, ck⟩, by rw [<- h4]; simp, rfl, by simp⟩
   have hlt : i < (kyEs l).length := by
     have := (List.getElem?_eq_some_iff.1 hi).1
     simp at this; omega
   rw [List.getElem?_append_left hlt] at hi
   obtain ⟨m, hm, e1, e2⟩ := h5 i k' p' hi
   refine ⟨m, ?_, e1, by simp [e, e2]⟩
   rw [Array.getElem?_push, if_neg oM0]
   exact hm
  rw [hen] at hi
  by_cases e : i = (kyEs l).length
  ·subst e
   simp only [List.getElem?_concat_length, Option.some.injEq, Prod.mk.injEq] at hi
   obtain ⟨rfl, rfl⟩ := hi
   simpa using RepP.val _
  have hlt : i < (kyEs l).length := by
    have := (List.getElem?_eq_some_iff.1 hi).1
    simp at this; omega
  rw [List.getElem?_append_left hlt] at hi
  simpa [e] using keepP _ _ (h6 i k' p' hi)
end
theorem zv2 {f : FuncId} {x : Operand} {tys : Array TypeId} {k k2 : Nat} {es : List (Value × PV)} (hcl : ∀ (b : Nat) (r : Array MapEntry) (ck : Nat) (w : World), w.heap[b]? = some (.map r ck) -> Calls P f #[.map (some b)] w fun e w' => e = .returned (.map (some w.heap.size)) /\ w' = w.alloc (.map r ck)) (hf : z04 P f)
    (ho : o.op = .call { callee := .value (.func f), args := #[x], argTypes := tys }) (hx : fr.ev x = some (.mp k)) (hk : look hp k = some (.map es)) (hσ : look hp k2 = none) (hc : c.σ k2 = none) (hfr : nmFr k2 fr = false) (hhp : nmHp k2 hp = false) :
    Ok P c o fr (look hp) (.mp k2) (look ((k2, some (.map es)) :: hp)) := by
  intro ρ w a K Q h hK
  obtain ⟨fn, hfn, hname, hbody⟩ := hf
  obtain ⟨b, cc, r, ck, u, hv, hρ, h3, h4, h5, h6⟩ := h.mapAt hx hk
  have hrun : (execOp a.eval o).run P w = .ok (.enter f #[.map (some b)]) w := by
    have hcall : (callFunc f #[.map (some b)]).run P w = .ok (.enter f #[.map (some b)]) w := by
      unfold callFunc
      simp only [Sem.run_bind]
      show (Result.andThen (.ok P w) _) = _
      simp only [Result.andThen_ok, hfn, hname, hbody]
      rfl
    simp only [execOp, ho, resolve, Act.eval, Deferred.ofValue, Sem.run_bind, Sem.run_pure, Result.andThen_ok, invoke]
    rw [<- hcall]
    congr 2
    simp [<- hv]
  unfold Oper.wp
  rw [hrun, Oper.upon_enter]
  refine (hcl b r ck w h3).mono ?_
  rintro e w' ⟨rfl, rfl⟩
  refine hK (z1k ρ k2 (some (w.heap.size, 1))) _ _ (h.alloc hσ hc hfr hhp 1 _ _ fun _ keepP => ?_) (.mp _ _ fun es' _ => ⟨w.heap.size, 1, z0g, rfl⟩)
  exact .map es r ck u (z3d w _) h4 h5 fun i k p hi => keepP _ _ (h6 i k p hi)
end
set_option maxRecDepth 100000 in
set_option maxHeartbeats 4000000 in
theorem zk7 (b : Nat) (r : Array MapEntry) (ck : Nat) (w : World) (hb : w.heap[b]? = some (.map r ck)) :
    Calls Tryz.prog 63 #[.map (some b)] w fun e w' => e = .returned (.map (some w.heap.size)) /\ w' = w.alloc (.map r ck) := by
  have hq := fun w => run_eql_map_nil_sl (P := Tryz.prog) w 60 _ _ (some b) Tryz.underlying60
  go_enter Tryz.func63, Tryz.ntmps63
  go_wp2
  rw [run_callFunc_extern Tryz.func88 kR0 kR0 kR0 (e := Extern.MapsClone.clone) kR0, run_maps_clone_sl w 60 hb]
  simp only [Result.andThen]
  rw [Oper.upon_value]
  go_wp2
  rw [run_typeAssert_map_sl _ 60 20 _ _ _ Tryz.underlying60]
  simp only [Result.andThen]
  rw [Oper.upon_value]
  go_wp2
  go_ret
  exact ⟨rfl, rfl⟩
set_option maxRecDepth 100000 in
set_option maxHeartbeats 4000000 in
theorem zk8 (b : Nat) (r : Array MapEntry) (ck : Nat) (w : World) (hb : w.heap[b]? = some (.map r ck)) :
    Calls Tryz.prog 62 #[.map (some b)] w fun e w' => e = .returned (.map (some w.heap.size)) /\ w' = w.alloc (.map r ck) := by
  have hq := fun w => run_eql_map_nil_sl (P := Tryz.prog) w 59 _ _ (some b) Tryz.underlying59
  go_enter Tryz.func62, Tryz.ntmps62
  go_wp2
  rw [run_callFunc_extern Tryz.func88 kR0 kR0 kR0 (e := Extern.MapsClone.clone) kR0, run_maps_clone_sl w 59 hb]
  simp only [Result.andThen]
  rw [Oper.upon_value]
  go_wp2
  rw [run_typeAssert_map_sl _ 59 20 _ _ _ Tryz.underlying59]
  simp only [Result.andThen]
  rw [Oper.upon_value]
  go_wp2
  go_ret
  exact ⟨rfl, rfl⟩
theorem key5E : ∃ f0 f1 f2 f3 f4, K5 Tryz.prog 108 f0 f1 f2 f3 f4 := ⟨_, _, _, _, _, ⟨Tryz.underlying108, by kernel_rfl, uT3, uT3, uT3, uT3, uT3, by decide, by decide, by decide, by decide, by decide, rfl, rfl, rfl, rfl, rfl⟩⟩
def Vis (tys all : List Int) (y t : Int) : Prop := all.contains y = true /\ 0 <= y /\ y < tys.length /\ tys.getD y.toNat 0 = t
theorem Vis.mono {tys all : List Int} {y t : Int} (h : Vis tys all y t) (c : List Int) : Vis tys (all ++ c) y t := ⟨by rw [List.contains_append, h.1]; rfl, h.2⟩
def Rel (tys : List Int) (to : TT) (all all' : List Int) : Prop := ∀ v, all.contains v = true -> 0 <= v -> v < tys.length -> Vis tys all' (z1s to v) (tys.getD v.toNat 0)
theorem z91 {tys seen : List Int} {v w : Int} : z55 tys seen v w = true ↔ seen.contains v = true /\ 0 <= v /\ v < tys.length /\ (w = 0 ∨ tys.getD v.toNat 0 = w) := by
  unfold z55
  simp only [Bool.not_eq_true', Bool.or_eq_false_iff, decide_eq_false_iff_not, Bool.not_eq_false', Bool.and_eq_false_iff, bne_eq_false_iff_eq]
  constructor
  ·rintro ⟨⟨⟨h1, h2⟩, h3⟩, h4⟩
   exact ⟨h3, by omega, by omega, h4⟩
  rintro ⟨h3, h1, h2, h4⟩
  exact ⟨⟨⟨by omega, by omega⟩, h3⟩, h4⟩
theorem use_rel {tys all all' : List Int} {to : TT} (hr : Rel tys to all all') {v w : Int} (h : z55 tys all v w = true) : z55 tys all' (z1s to v) w = true := by
  obtain ⟨h1, h2, h3, h4⟩ := z91.1 h
  obtain ⟨k1, k2, k3, k4⟩ := hr v h1 h2 h3
  exact z91.2 ⟨k1, k2, k3, by rw [k4]; exact h4⟩
theorem ze0 {tys all all' : List Int} {to : TT} (hr : Rel tys to all all') : ∀ {l want : List Int}, z17 tys all l want = true -> z17 tys all' (l.map (z1s to)) want = true
  | [], _, _ => by simp [z17]
  | _ :: _, [], _ => by simp [z17]
  | v :: r, w :: ws, h => by
    simp only [z17, Bool.and_eq_true, List.map_cons] at h ⊢
    exact ⟨use_rel hr h.1, ze0 hr h.2⟩
theorem ze1 {tys all all' : List Int} {to : TT} (hr : Rel tys to all all') {l want : List Int} (h : z0h tys all l want = true) : z0h tys all' (l.map (z1s to)) want = true := by
  unfold z0h at h ⊢
  simp only [Bool.and_eq_true, List.length_map] at h ⊢
  exact ⟨h.1, ze0 hr h.2⟩
theorem Rel.outs {tys all all' outs : List Int} {to : TT} (hr : Rel tys to all all') (hn : ∀ v ∈ outs, aGet v to = none) : Rel tys to (all ++ outs) (all' ++ outs) := fun v hv h0 h1 => by
  rw [List.contains_append, Bool.or_eq_true] at hv
  by_cases ho : outs.contains v = true
  ·have e : z1s to v = v := by unfold z1s; rw [hn v (List.contains_iff_mem.1 ho)]; rfl
   rw [e]
   exact ⟨by rw [List.contains_append, ho, Bool.or_true], h0, h1, rfl⟩
  exact (hr v (hv.resolve_right ho) h0 h1).mono _
theorem Rel.congr {tys all all' : List Int} {to to' : TT} (hr : Rel tys to all all') (hn : ∀ v, all.contains v = true -> aGet v to' = aGet v to) : Rel tys to' all all' := fun v hv h0 h1 => by
  have e : z1s to' v = z1s to v := by unfold z1s; rw [hn v hv]
  rw [e]
  exact hr v hv h0 h1
def kTy (k : Ky) : Int := if k.kind == 1 then 1 else if k.kind == 2 then 2 else (z08 k.op).2
def TabOk (tys : List Int) (tb : Tb) (all : List Int) : Prop := ∀ e ∈ tb.seen, Vis tys all e.2 (kTy e.1)
theorem TabOk.mono {tys all : List Int} {tb : Tb} (h : TabOk tys tb all) (c : List Int) : TabOk tys tb (all ++ c) := fun e he => (h e he).mono c
theorem zp6 {u : Un} {f : Fl} {to : TT} {all all' : List Int} {w : Wh} {outs : List Int} {x y : Nd} (ek : y.kind = x.kind) (eo : y.op = x.op) (en : y.n = x.n) (em : y.name = x.name) (ea : y.args = x.args.map (z1s to)) (hr : Rel f.types to all all')
    (h : (z6i u f x all w).ok f.types outs = true) : (z6i u f y all' w).ok f.types outs = true := by
  have M : ∀ want, z0h f.types all x.args want = true -> z0h f.types all' (x.args.map (z1s to)) want = true := fun want => ze1 hr
  have F : ∀ (b b' : Bool) (want : Option (List Int)), (b = true -> b' = true) -> SForm.ok ⟨b, want⟩ f.types outs = true -> SForm.ok ⟨b', want⟩ f.types outs = true := fun b b' want hb h => by
    cases want <;> simp only [SForm.ok, Bool.and_eq_true] at h ⊢ <;> exact ⟨hb h.1, h.2⟩
  unfold z6i at h ⊢
  rw [ek, eo, en, em, ea]
  by_cases k1 : (x.kind == 1) = true
  ·rw [if_pos k1] at h ⊢
   exact F _ _ _ (fun hb => M _ hb) h
  rw [if_neg k1] at h ⊢
  by_cases k2 : (x.kind == 2) = true
  ·rw [if_pos k2] at h ⊢
   exact F _ _ _ (fun hb => by simp only [Bool.and_eq_true] at hb ⊢; exact ⟨hb.1, M _ hb.2⟩) h
  rw [if_neg k2] at h ⊢
  by_cases k3 : (x.kind == 3) = true
  ·rw [if_pos k3] at h ⊢
   exact F _ _ _ (fun hb => by simp only [Bool.and_eq_true] at hb ⊢; exact ⟨hb.1, M _ hb.2⟩) h
  rw [if_neg k3] at h ⊢
  by_cases k4 : (x.kind == 4) = true
  ·rw [if_pos k4] at h ⊢
   refine F _ _ _ (fun hb => ?_) h
   simp only [Bool.and_eq_true] at hb ⊢
   refine ⟨⟨hb.1.1, M _ hb.1.2⟩, ?_⟩
   have ht := hb.1.2
   unfold z0h at ht
   simp only [Bool.and_eq_true, beq_iff_eq, List.length_cons, List.length_nil] at ht
   match x.args, ht, hb.2 with
   | [a, b], ht, h2 =>
     simp only [z17, Bool.and_eq_true] at ht
     obtain ⟨a1, a2, a3, _⟩ := z91.1 ht.2.1
     obtain ⟨b1, b2, b3, _⟩ := z91.1 ht.2.2.1
     have e1 := (hr a a1 a2 a3).2.2.2
     have e2 := (hr b b1 b2 b3).2.2.2
     simp only [List.map_cons, List.map_nil, List.getD_cons_zero, List.getD_cons_succ] at h2 ⊢
     rw [e1, e2]
     exact h2
  rw [if_neg k4] at h ⊢
  by_cases k5 : (x.kind == 5) = true
  ·rw [if_pos k5] at h ⊢
   exact F _ _ _ (fun hb => by simp only [Bool.and_eq_true] at hb ⊢; exact ⟨hb.1, M _ hb.2⟩) h
  rw [if_neg k5] at h ⊢
  by_cases k6 : (x.kind == 6) = true
  ·rw [if_pos k6] at h ⊢
   exact F _ _ _ (fun hb => by simp only [Bool.and_eq_true] at hb ⊢; exact ⟨hb.1, M _ hb.2⟩) h
  rw [if_neg k6] at h ⊢
  by_cases k7 : (x.kind == 7) = true
  ·rw [if_pos k7] at h ⊢
   by_cases hp : decide (z0a x.name u.flows 0 ≥ 0) = true
   ·rw [if_pos hp] at h ⊢
    cases hg : u.flows[(z0a x.name u.flows 0).toNat]? with
    | none => rw [hg] at h; exact h
    | some g => rw [hg] at h; exact F _ _ _ (fun hb => M _ hb) h
   rw [if_neg hp] at h ⊢; exact h
  rw [if_neg k7] at h ⊢
  by_cases k8 : (x.kind == 8) = true
  ·rw [if_pos k8] at h ⊢
   exact F _ _ _ (fun hb => by simpa using hb) h
  rw [if_neg k8] at h ⊢
  by_cases k9 : (x.kind == 9) = true
  ·rw [if_pos k9] at h ⊢
   exact F _ _ _ (fun hb => M _ hb) h
  rw [if_neg k9] at h ⊢
  by_cases k12 : (x.kind == 12) = true
  ·rw [if_pos k12] at h ⊢
   exact F _ _ _ (fun hb => by simp only [Bool.and_eq_true] at hb ⊢; exact ⟨hb.1, M _ hb.2⟩) h
  rw [if_neg k12] at h ⊢
  by_cases k13 : (x.kind == 13) = true
  ·rw [if_pos k13] at h ⊢
   exact F _ _ _ (fun hb => by simp only [Bool.and_eq_true] at hb ⊢; exact ⟨hb.1, M _ hb.2⟩) h
  rw [if_neg k13] at h ⊢
  by_cases k14 : (x.kind == 14) = true
  ·rw [if_pos k14] at h ⊢
   exact F _ _ _ (fun hb => by simp only [Bool.and_eq_true] at hb ⊢; exact ⟨hb.1, M _ hb.2⟩) h
  rw [if_neg k14] at h ⊢
  by_cases k15 : (x.kind == 15) = true
  ·rw [if_pos k15] at h ⊢
   exact F _ _ _ (fun hb => M _ hb) h
  rw [if_neg k15] at h ⊢
  exact h
theorem z9p {tys outs : List Int} {t : Int} (h : z3j tys outs [t] = true) (ht : t ≠ 0) : ∃ v, outs = [v] /\ 0 <= v /\ v < tys.length /\ tys.getD v.toNat 0 = t := by
  match outs, h with
  | [v], h =>
    simp only [z3j, Bool.and_true, z4q, Bool.and_eq_true, decide_eq_true_eq, Bool.or_eq_true, beq_iff_eq] at h
    exact ⟨v, rfl, h.1.1, h.1.2, h.2.resolve_left ht⟩
  | [], h => simp [z3j] at h
  | _ :: _ :: _, h => simp [z3j] at h
theorem op2 (op : Int) : (z08 op).2 ≠ 0 := by
  unfold z08
  repeat' split
  all_goals simp
theorem zv5 {u : Un} {f : Fl} {x : Nd} {s : List Int} {w : Wh} (hK : stK x.kind = true) (h : (z6i u f x s w).ok f.types x.outs = true) :
    ∃ v, x.outs = [v] /\ 0 <= v /\ v < f.types.length /\ f.types.getD v.toNat 0 = (if x.kind == 1 then 1 else if x.kind == 2 then 2 else (z08 x.op).2) := by
  unfold z6i at h
  simp only [stK, Bool.or_eq_true] at hK
  by_cases k1 : (x.kind == 1) = true
  ·rw [if_pos k1] at h ⊢
   simp only [SForm.ok, Bool.and_eq_true] at h
   exact z9p h.2 dC0
  rw [if_neg k1] at h ⊢
  by_cases k2 : (x.kind == 2) = true
  ·rw [if_pos k2] at h ⊢
   simp only [SForm.ok, Bool.and_eq_true] at h
   exact z9p h.2 dC0
  rw [if_neg k2] at h ⊢
  by_cases k3 : (x.kind == 3) = true
  ·rw [if_pos k3] at h
   simp only [SForm.ok, Bool.and_eq_true] at h
   exact z9p h.2 (op2 _)
  rw [if_neg k3] at h
  have k4 : (x.kind == 4) = true := by
    rcases hK with ((h' | h') | h') | h'
    ·exact absurd h' k1
    ·exact absurd h' k2
    ·exact absurd h' k3
    exact h'
  rw [if_pos k4] at h
  simp only [SForm.ok, Bool.and_eq_true] at h
  exact z9p h.2 (op2 _)
theorem zv8 {op m : Int} (h : z2w op m = true) : z08 op = (1, 1) := by
  have h2 : op = 1 ∨ op = 2 ∨ op = 3 ∨ op = 4 ∨ op = 6 ∨ op = 7 ∨ op = 8 ∨ op = 9 ∨ op = 10 ∨ op = 11 := by
    unfold z2w at h
    split at h
    ·rename_i e; simp only [Bool.or_eq_true, beq_iff_eq] at e; omega
    split at h
    ·rename_i e; simp only [Bool.or_eq_true, beq_iff_eq] at e; omega
    split at h
    ·rename_i e; simp only [beq_iff_eq] at e; omega
    cases h
  rcases h2 with rfl | rfl | rfl | rfl | rfl | rfl | rfl | rfl | rfl | rfl <;> rfl
theorem y1i {u : Un} {f : Fl} {x : Nd} {s : List Int} {w : Wh} {nums : TT} {y : Int} (hp : z2c nums x = some y) {outs : List Int} (h : (z6i u f x s w).ok f.types outs = true) :
    x.kind = 4 /\ Vis f.types s y 1 /\ (z08 x.op).2 = 1 := by
  unfold z2c at hp
  split at hp
  ·cases hp
  rename_i hk
  have k4 : x.kind = 4 := by simpa using hk
  have hop : (y = x.args.getD 0 0 ∨ y = x.args.getD 1 0) /\ z08 x.op = (1, 1) := by
    split at hp
    ·rename_i hh
     cases hp
     refine ⟨.inl rfl, ?_⟩
     unfold y08 at hh
     split at hh
     ·exact zv8 hh
     cases hh
    split at hp
    ·rename_i hh
     cases hp
     refine ⟨.inr rfl, ?_⟩
     unfold y08 at hh
     split at hh
     ·simp only [Bool.and_eq_true] at hh; exact zv8 hh.2
     cases hh
    cases hp
  refine ⟨k4, ?_, by rw [hop.2]⟩
  unfold z6i at h
  simp only [k4] at h
  simp only [SForm.ok, Bool.and_eq_true, show ((4 : Int) == 1) = false from rfl, show ((4 : Int) == 2) = false from rfl, show ((4 : Int) == 3) = false from rfl, show ((4 : Int) == 4) = true from rfl, Bool.false_eq_true, if_false, if_true] at h
  have ht := h.1.1.2
  rw [hop.2] at ht
  unfold z0h at ht
  simp only [Bool.and_eq_true, beq_iff_eq, List.length_cons, List.length_nil] at ht
  match hx : x.args, ht with
  | [a, b], ht =>
    simp only [z17, Bool.and_eq_true] at ht
    obtain ⟨a1, a2, a3, a4⟩ := z91.1 ht.2.1
    obtain ⟨b1, b2, b3, b4⟩ := z91.1 ht.2.2.1
    rw [hx] at hop
    rcases hop.1 with rfl | rfl
    ·exact ⟨a1, a2, a3, a4.resolve_left dC0⟩
    exact ⟨b1, b2, b3, b4.resolve_left dC0⟩
theorem key_kind (x : Nd) : (z3m x).kind = x.kind /\ (z3m x).op = x.op := by
  unfold z3m
  repeat' split
  all_goals exact ⟨rfl, rfl⟩
theorem y1l {tb : Tb} {to : TT} {x : Nd} (h : x.outs ≠ []) {v : Int} (hv : v ∉ x.outs) : aGet v (z1p tb to x).2.2 = aGet v to := by
  have hne : v ≠ x.outs.headD 0 := fun e => hv (by rw [e]; cases ho : x.outs with | nil => exact absurd ho h | cons a r => simp)
  unfold z1p
  split
  ·rw [z6p, if_neg hne]
  split
  ·rw [z6p, if_neg hne]
  rfl
mutual
theorem zd7 : ∀ (x : Nd) (tb : Tb) (to : TT), zf2 x = true -> ∀ v, v ∉ dN x -> aGet v (z03 tb to x).2.2 = aGet v to
  | .mk kind op n name args outs params ks, tb, to, h, v, hv => by
    simp only [zf2, Bool.and_eq_true] at h
    simp only [dN, List.mem_append, not_or] at hv
    have hk := z7m ks tb to h.2 v hv.2.1
    unfold z03
    by_cases hK : stK kind = true
    ·rw [if_pos hK]
     dsimp only
     rw [y1l (by rw [hK] at h; simp at h; exact h.1.1.1) hv.2.2]
     exact hk
    rw [if_neg hK]
    exact hk
theorem z7n : ∀ (l : List Nd) (tb : Tb) (to : TT), z8y l = true -> ∀ v, v ∉ dL l -> aGet v (z0l tb to l).2.2 = aGet v to
  | [], _, _, _, _, _ => by simp [z0l]
  | x :: r, tb, to, h, v, hv => by
    simp only [z8y, Bool.and_eq_true] at h
    simp only [dL, List.mem_append, not_or] at hv
    simp only [z0l]
    rw [z7n r _ _ h.2 v hv.2, zd7 x tb to h.1 v hv.1]
theorem z7m : ∀ (ks : List (List Nd)) (tb : Tb) (to : TT), zd8 ks = true -> ∀ v, v ∉ dK ks -> aGet v (z0i tb to ks).2 = aGet v to
  | [], _, _, _, _, _ => by simp [z0i]
  | l :: r, tb, to, h, v, hv => by
    simp only [zd8, Bool.and_eq_true] at h
    simp only [dK, List.mem_append, not_or] at hv
    simp only [z0i]
    rw [z7m r _ _ h.2 v hv.2, z7n l tb to h.1 v hv.1]
end
mutual
theorem z7o (u : Un) (f : Fl) : ∀ (x : Nd) (deep : Int) (w : Wh) (all : List Int), z5y u f deep w all x = true -> zf2 x = true
  | .mk kind op n name args outs params ks, deep, w, all, hv => by
    have hb := z5g u f deep _ all hv
    by_cases h10 : kind = 10
    ·obtain ⟨a, b, hk⟩ := z30 hb h10
     rw [z5z u f deep _ all hb h10 hk] at hv
     simp only [Bool.and_eq_true, z3n] at hv
     simp only [Nd.kids] at hk
     match ks, hk with
     | [a', b'], hk =>
       cases hk
       subst h10
       simp only [zf2, zd8, Bool.and_eq_true, Bool.and_true]
       exact ⟨⟨⟨rfl, rfl⟩, rfl⟩, z4s u f a _ _ _ hv.1.1.1.2.2, z4s u f b _ _ _ hv.1.1.2.2⟩
    by_cases h11 : kind = 11
    ·obtain ⟨a, hk⟩ := z22 hb h11
     rw [z4b u f deep _ all hb h11 hk] at hv
     simp only [Bool.and_eq_true, z3n] at hv
     simp only [Nd.kids] at hk
     match ks, hk with
     | [a'], hk =>
       cases hk
       subst h11
       simp only [zf2, zd8, Bool.and_eq_true, Bool.and_true]
       exact ⟨⟨⟨rfl, rfl⟩, rfl⟩, z4s u f a _ _ _ hv.1.1.2.2⟩
    have e10 : (kind == 10) = false := by simpa using h10
    have e11 : (kind == 11) = false := by simpa using h11
    rw [z25 u f deep _ all hb e10 e11] at hv
    have hk0 : ks = [] := z6q hb e10 e11
    subst hk0
    simp only [zf2, zd8, Bool.and_true, Bool.and_eq_true]
    refine ⟨⟨?_, ?_⟩, ?_⟩
    ·cases hK : stK kind with
     | false => rfl
     | true =>
       obtain ⟨v, ho, _⟩ := zv5 (x := .mk kind op n name args outs params []) hK hv
       simp only [Nd.outs] at ho
       rw [ho]; rfl
    ·by_cases h3 : kind = 3
     ·subst h3
      have ht := (show (z24 op && z0h f.types all args [(z08 op).1] && z3j f.types outs [(z08 op).2]) = true from hv)
      simp only [Bool.and_eq_true, z0h, beq_iff_eq, List.length_cons, List.length_nil] at ht
      simp; omega
     simp [h3]
    by_cases h4 : kind = 4
    ·subst h4
     have ht := (show (z2v op && z0h f.types all args [(z08 op).1, (z08 op).1] && f.types.getD (args.getD 0 0).toNat 0 == f.types.getD (args.getD 1 0).toNat 0 && z3j f.types outs [(z08 op).2]) = true from hv)
     simp only [Bool.and_eq_true, z0h, beq_iff_eq, List.length_cons, List.length_nil] at ht
     simp; omega
    simp [h4]
theorem z4s (u : Un) (f : Fl) : ∀ (l : List Nd) (deep : Int) (w : Wh) (all : List Int), vGo u f deep w all l = true -> z8y l = true
  | [], _, _, _, _ => rfl
  | x :: r, deep, w, all, hv => by
    simp only [vGo, Bool.and_eq_true] at hv
    simp only [z8y, Bool.and_eq_true]
    exact ⟨z7o u f x deep w all hv.1.1.2, z4s u f r deep w _ hv.2⟩
end
def EP (u : Un) (f : Fl) (l : List Nd) : Prop := ∀ (deep : Int) (w : Wh) (all all' : List Int) (tb : Tb) (to : TT), (dL l).Nodup -> (∀ v ∈ dL l, all.contains v = false) -> (∀ v ∈ dL l, aGet v to = none) ->
  Rel f.types to all all' -> TabOk f.types tb all' -> vGo u f deep w all l = true -> vGo u f deep w all' (z0l tb to l).1 = true
theorem EP.list {u : Un} {f : Fl} {l : List Nd} (hh : EP u f l) {deep : Int} {w : Wh} {all all' : List Int} {tb : Tb} {to : TT} (h1 : (dL l).Nodup) (h2 : ∀ v ∈ dL l, all.contains v = false) (h3 : ∀ v ∈ dL l, aGet v to = none)
    (hr : Rel f.types to all all') (ht : TabOk f.types tb all') (hv : z3n u f deep w all l = true) : z3n u f deep w all' (z0l tb to l).1 = true := by
  simp only [z3n, Bool.and_eq_true] at hv ⊢
  refine ⟨?_, hh deep w all all' tb to h1 h2 h3 hr ht hv.2⟩
  have hne : l ≠ [] := by intro e; subst e; simp at hv
  obtain ⟨h1, _⟩ := z36 tb to hv.2 hne
  cases hq : (z0l tb to l).1 with
  | nil => exact absurd hq h1
  | cons _ _ => rfl
def NodeE (u : Un) (f : Fl) (deep : Int) (w : Wh) (all all' : List Int) (tb : Tb) (to : TT) (x : Nd) : Prop :=
  ((z03 tb to x).1 = [] /\ z0e x = false /\ Rel f.types (z03 tb to x).2.2 (all ++ x.outs) all' /\ TabOk f.types (z03 tb to x).2.1 all') ∨
  ∃ y, (z03 tb to x).1 = [y] /\ z5y u f deep w all' y = true /\ z0e y = z0e x /\ y.outs = x.outs /\ Rel f.types (z03 tb to x).2.2 (all ++ x.outs) (all' ++ x.outs) /\ TabOk f.types (z03 tb to x).2.1 (all' ++ x.outs)
theorem z9n {tb : Tb} {to : TT} {x : Nd} (h : z0m x = true) : z0m (z0u tb to x) = true := by
  cases x with
  | mk kind op n name args outs params ks => exact ((zq8 (zh4 ks tb to)).trans (show z0m (.mk kind op n name (args.map (z1s to)) outs params ks) = z0m (.mk kind op n name args outs params ks) from rfl)).trans h
theorem y1m {tys all all' : List Int} {to : TT} {v y : Int} (hr : Rel tys to all all') (hy : Vis tys all' y (tys.getD v.toNat 0)) : Rel tys (aPut v y to) (all ++ [v]) all' := fun z hz z0 z1 => by
  by_cases e : z = v
  ·subst e
   have : z1s (aPut z y to) z = y := by unfold z1s; rw [z6p, if_pos rfl]; rfl
   rw [this]; exact hy
  have : z1s (aPut v y to) z = z1s to z := by unfold z1s; rw [z6p, if_neg e]
  rw [this]
  refine hr z ?_ z0 z1
  rw [List.contains_append, Bool.or_eq_true] at hz
  exact hz.resolve_right (by simpa using e)
theorem pure_e (u : Un) (f : Fl) (x : Nd) (deep : Int) (w : Wh) (all all' : List Int) (tb : Tb) (to : TT) (hK : stK x.kind = true) (hto : ∀ v ∈ x.outs, aGet v to = none)
    (hr : Rel f.types to all all') (ht : TabOk f.types tb all') (hb : z0m x = true) (hv : z5y u f deep w all x = true) : NodeE u f deep w all all' tb to x := by
  have h10 : (x.kind == 10) = false := by simp only [stK, Bool.or_eq_true, beq_iff_eq] at hK; simp; omega
  have h11 : (x.kind == 11) = false := by simp only [stK, Bool.or_eq_true, beq_iff_eq] at hK; simp; omega
  have hk0 : x.kids = [] := z6q hb h10 h11
  have e2 : (z0i tb to x.kids).2 = to := by rw [hk0]; simp [z0i]
  rw [z25 u f deep w all hb h10 h11] at hv
  obtain ⟨v, ho, v0, v1, vt⟩ := zv5 hK hv
  have hy : (z6i u f (z0u tb to x) all' w).ok f.types x.outs = true := zp6 (x := x) rfl rfl rfl rfl rfl hr hv
  have hcl : z0e x = false := by
    cases hc : z0e x with
    | false => rfl
    | true => rw [z7a hc] at hK; cases hK
  have hvn := hto v (by rw [ho]; exact .head _)
  have hno : (z0u tb to x).outs = x.outs := rfl
  have hnk : (z0u tb to x).kind = x.kind := rfl
  have hnp : (z0u tb to x).op = x.op := rfl
  unfold NodeE
  rw [z4r, if_pos hK, e2, ho]
  unfold z1p
  rw [hno, ho]
  cases hp : z2c tb.nums (z0u tb to x) with
  | some y =>
    obtain ⟨k4, vis, t1⟩ := y1i hp hy
    refine .inl ⟨rfl, hcl, y1m hr ?_, ht⟩
    show Vis f.types all' y (f.types.getD v.toNat 0)
    rw [vt]
    have k4' : x.kind = 4 := k4
    have t1' : (z08 x.op).2 = 1 := t1
    rw [k4', t1']
    exact vis
  | none =>
    dsimp only
    have hkk := key_kind (z0u tb to x)
    cases hs : aGet (z3m (z0u tb to x)) tb.seen with
    | some y =>
      refine .inl ⟨rfl, hcl, y1m hr ?_, ht⟩
      have := ht _ (zt9 hs)
      unfold kTy at this
      rw [hkk.1, hkk.2, hnk, hnp] at this
      show Vis f.types all' y (f.types.getD v.toNat 0)
      rw [vt]
      exact this
    | none =>
      refine .inr ⟨z0u tb to x, rfl, ?_, ?_, ho, ?_, ?_⟩
      ·rw [z25 u f deep w all' (z9n hb) h10 h11]
       exact hy
      ·rw [hcl]
       cases hc : z0e (z0u tb to x) with
       | false => rfl
       | true => have := z7a hc; rw [hnk, hK] at this; cases this
      ·exact hr.outs fun z hz => by obtain rfl := List.mem_singleton.1 hz; exact hvn
      intro e he
      rcases zu0 he with rfl | he
      ·refine ⟨by simp, v0, v1, ?_⟩
       show _ = kTy (z3m (z0u tb to x))
       unfold kTy
       rw [hkk.1, hkk.2, hnk, hnp]
       exact vt
      exact (ht e he).mono _
theorem node_e (u : Un) (f : Fl) (x : Nd) (ih : ∀ q ∈ x.kids, EP u f q) (deep : Int) (w : Wh) (all all' : List Int) (tb : Tb) (to : TT) (hnd : (dN x).Nodup) (hall : ∀ v ∈ dN x, all.contains v = false) (hto : ∀ v ∈ dN x, aGet v to = none)
    (hr : Rel f.types to all all') (ht : TabOk f.types tb all') (hv : z5y u f deep w all x = true) : NodeE u f deep w all all' tb to x := by
  have hb := z5g u f deep _ all hv
  have hok := z7o u f x deep w all hv
  rw [y0m] at hnd hall hto
  rw [zw2] at hok
  simp only [Bool.and_eq_true] at hok
  by_cases hK : stK x.kind = true
  ·exact pure_e u f x deep w all all' tb to hK (fun v hv => hto v (by simp [hv])) hr ht hb hv
  have hK2 : stK x.kind = false := by simpa using hK
  obtain ⟨n1, n2, n3⟩ := List.nodup_append.1 hnd
  obtain ⟨n4, n5, n6⟩ := List.nodup_append.1 n2
  have hkeys : ∀ v, v ∉ dK x.kids -> aGet v (z0i tb to x.kids).2 = aGet v to := z7m x.kids tb to hok.2
  have hrel2 : Rel f.types (z0i tb to x.kids).2 (all ++ x.outs) (all' ++ x.outs) := by
    refine (hr.congr fun v hv => hkeys v fun hm => ?_).outs fun v hv => ?_
    ·have := hall v (by simp [hm]); rw [hv] at this; cases this
    rw [hkeys v fun hm => n6 v hm v hv rfl]; exact hto v (by simp [hv])
  unfold NodeE
  rw [z8x tb to x hK2]
  refine .inr ⟨z0u tb to x, rfl, ?_, ?_, rfl, hrel2, ht.mono _⟩
  ·by_cases h10 : x.kind = 10
   ·obtain ⟨a, b, hk⟩ := z30 hb h10
    rw [z5z u f deep w all hb h10 hk] at hv
    simp only [Bool.and_eq_true] at hv
    simp only [hk, dK, List.append_nil] at hall hto n4
    obtain ⟨m1, m2, m3⟩ := List.nodup_append.1 n4
    rw [hk] at hok
    simp only [zd8, Bool.and_true, Bool.and_eq_true] at hok
    have ka := z7n a tb to hok.2.1
    have hva := hv.1.1.1.2
    have hvb := hv.1.1.2
    have ha := (ih a (by rw [hk]; simp)).list m1 (fun v hv => hall v (by simp [hv])) (fun v hv => hto v (by simp [hv])) hr ht hva
    have hrb : Rel f.types (z0l tb to a).2.2 all all' := hr.congr fun v hv => ka v fun hm => by
      have := hall v (by simp [hm]); rw [hv] at this; cases this
    have hbb := (ih b (by rw [hk]; simp)).list m2 (fun v hv => hall v (by simp [hv])) (fun v hv => (ka v fun hm => m3 v hm v hv rfl).trans (hto v (by simp [hv]))) hrb ht hvb
    simp only [z3n, Bool.and_eq_true] at hva hvb
    have hla := (z36 tb to hva.2 (by intro e; simp [e] at hva)).2
    have hlb := (z36 tb (z0l tb to a).2.2 hvb.2 (by intro e; simp [e] at hvb)).2
    have hkn : (z0u tb to x).kids = [(z0l tb to a).1, (z0l tb (z0l tb to a).2.2 b).1] := by
      show (z0i tb to x.kids).1 = _
      rw [hk]; simp [z0i]
    have hc : z0e (z0u tb to x) = z0e x := by
      unfold z0e
      rw [hkn, hk, show (z0u tb to x).kind = x.kind from rfl]
      simp [kid0, kid1, hla, hlb]
    rw [z5z u f deep w all' (z9n hb) h10 hkn]
    simp only [Bool.and_eq_true]
    exact ⟨⟨⟨⟨ze1 hr hv.1.1.1.1, ha⟩, hbb⟩, by unfold zi8 at hv ⊢; rw [hc]; exact hv.1.2⟩, hv.2⟩
   by_cases h11 : x.kind = 11
   ·obtain ⟨a, hk⟩ := z22 hb h11
    rw [z4b u f deep w all hb h11 hk] at hv
    simp only [Bool.and_eq_true] at hv
    simp only [hk, dK, List.append_nil] at hall hto n4 n3
    have hrp : Rel f.types to (all ++ x.params) (all' ++ x.params) := hr.outs fun v hv => hto v (by simp [hv])
    have ha := (ih a (by rw [hk]; simp)).list n4 (fun v hm => by
      rw [List.contains_append, hall v (by simp [hm]), Bool.false_or, <- Bool.not_eq_true, List.contains_iff_mem]
      exact fun hp => n3 v hp v (by simp [hm]) rfl) (fun v hv => hto v (by simp [hv])) hrp (ht.mono _) hv.1.1.2
    have hkn : (z0u tb to x).kids = [(z0l tb to a).1] := by
      show (z0i tb to x.kids).1 = _
      rw [hk]; simp [z0i]
    have hc : z0e (z0u tb to x) = z0e x := by
      unfold z0e
      rw [hkn, hk, show (z0u tb to x).kind = x.kind from rfl]
      simp [kid0, z46]
    rw [z4b u f deep w all' (z9n hb) h11 hkn]
    simp only [Bool.and_eq_true]
    exact ⟨⟨⟨⟨ze1 hr hv.1.1.1.1, hv.1.1.1.2⟩, ha⟩, by unfold zi8 at hv ⊢; rw [hc]; exact hv.1.2⟩, hv.2⟩
   have e10 : (x.kind == 10) = false := by simpa using h10
   have e11 : (x.kind == 11) = false := by simpa using h11
   rw [z25 u f deep w all hb e10 e11] at hv
   rw [z25 u f deep w all' (z9n hb) e10 e11]
   exact zp6 (x := x) rfl rfl rfl rfl rfl hr hv
  by_cases h10 : x.kind = 10
  ·obtain ⟨a, b, hk⟩ := z30 hb h10
   rw [z5z u f deep w all hb h10 hk] at hv
   simp only [Bool.and_eq_true, z3n] at hv
   have hla := (z36 tb to hv.1.1.1.2.2 (by intro e; simp [e] at hv)).2
   have hlb := (z36 tb (z0l tb to a).2.2 hv.1.1.2.2 (by intro e; simp [e] at hv)).2
   unfold z0e
   rw [show (z0u tb to x).kind = x.kind from rfl, show (z0u tb to x).kids = (z0i tb to x.kids).1 from rfl, hk]
   simp [z0i, kid0, kid1, hla, hlb]
  by_cases h11 : x.kind = 11
  ·obtain ⟨a, hk⟩ := z22 hb h11
   unfold z0e
   rw [show (z0u tb to x).kind = x.kind from rfl, show (z0u tb to x).kids = (z0i tb to x.kids).1 from rfl, hk]
   simp [z0i, kid0, z46]
  have e10 : (x.kind == 10) = false := by simpa using h10
  have e11 : (x.kind == 11) = false := by simpa using h11
  unfold z0e
  rw [show (z0u tb to x).kind = x.kind from rfl]
  simp only [e10, e11, Bool.false_and, Bool.false_eq_true, if_false]
theorem go_e (u : Un) (f : Fl) : ∀ (l : List Nd), (∀ x ∈ l, ∀ q ∈ x.kids, EP u f q) -> EP u f l
  | [], _ => fun _ _ _ _ _ _ _ _ _ _ _ _ => by simp [z0l, vGo]
  | x :: r, ih => fun deep w all all' tb to hnd hall hto hr ht hv => by
    have hv0 := hv
    simp only [vGo, Bool.and_eq_true] at hv
    obtain ⟨⟨⟨hd, hx⟩, hc⟩, hrr⟩ := hv
    simp only [dL] at hnd hall hto
    obtain ⟨n1, n2, n3⟩ := List.nodup_append.1 hnd
    have hkx := zd7 x tb to (z7o u f x deep w all hx)
    have hall2 : ∀ v ∈ dL r, (all ++ x.outs).contains v = false := fun v hm => by
      rw [List.contains_append, hall v (by simp [hm]), Bool.false_or, <- Bool.not_eq_true, List.contains_iff_mem]
      exact fun ho => n3 v (by rw [y0m]; simp [ho]) v hm rfl
    have hto2 : ∀ v ∈ dL r, aGet v (z03 tb to x).2.2 = none := fun v hm => (hkx v fun hn => n3 v hn v hm rfl).trans (hto v (by simp [hm]))
    have IH := go_e u f r (fun z hz => ih z (.tail _ hz))
    rw [show (z0l tb to (x :: r)).1 = (z03 tb to x).1 ++ (z0l (z03 tb to x).2.1 (z03 tb to x).2.2 r).1 by rw [z0l]]
    rcases node_e u f x (ih x (.head _)) deep w all all' tb to n1 (fun v hv => hall v (by simp [hv])) (fun v hv => hto v (by simp [hv])) hr ht hx with ⟨h1, h2, h3, h4⟩ | ⟨y, h1, h2, h3, h4, h5, h6⟩
    ·rw [h1, List.nil_append]
     exact IH deep w _ all' _ _ n2 hall2 hto2 h3 h4 hrr
    rw [h1, List.singleton_append]
    simp only [vGo, Bool.and_eq_true]
    rw [h3, h4]
    refine ⟨⟨⟨hd, h2⟩, ?_⟩, IH deep w _ _ _ _ n2 hall2 hto2 h5 h6 hrr⟩
    have he : (z0l (z03 tb to x).2.1 (z03 tb to x).2.2 r).1.isEmpty = r.isEmpty := by
      cases r with
      | nil => simp [z0l]
      | cons z r' =>
        obtain ⟨g1, _⟩ := z36 (z03 tb to x).2.1 (z03 tb to x).2.2 hrr sI0
        cases hq : (z0l (z03 tb to x).2.1 (z03 tb to x).2.2 (z :: r')).1 with
        | nil => exact absurd hq g1
        | cons _ _ => rfl
    rw [he]; exact hc
theorem ep_all (u : Un) (f : Fl) : ∀ (N : Nat) (l : List Nd), SizeOf.sizeOf l < N -> EP u f l
  | 0, _, h => absurd h (Nat.not_lt_zero _)
  | N + 1, l, hN => go_e u f l fun x hx q hq => ep_all u f N q (Nat.lt_of_lt_of_le (z62 hx rfl hq) (Nat.le_of_lt_succ hN))
theorem zr2 {k n : Nat} {v : Int} (hk : k <= n) (h : (iota k).contains v = true) : (z2h k n).getD v.toNat false = true := by
  rw [List.contains_iff_mem] at h
  obtain ⟨i, hi, rfl⟩ := List.mem_map.1 h
  rw [List.mem_range] at hi
  simp only [z2h, List.getD_eq_getElem?_getD]
  rw [List.getElem?_append_left (by simpa using hi)]
  simp [hi]
theorem y0h {u : Un} {f : Fl} (hp : f.params.toNat <= f.types.length) (h : z92 u f f.body) : z92 u f (stB f.body) := by
  refine ⟨(ep_all u f _ f.body (Nat.lt_succ_self _)).list (tb := ⟨[], []⟩) (to := []) h.2.1 (fun v hv => ?_) (fun _ _ => rfl) (fun v hv v0 v1 => ⟨hv, v0, v1, rfl⟩) (fun e he => by simp at he) h.1, ?_⟩
  ·have := h.2.2 v hv
   cases hc : (iota f.params.toNat).contains v with
   | false => rfl
   | true => rw [zr2 hp hc] at this; cases this
  have hs := z8w f.body ⟨[], []⟩ []
  exact ⟨h.2.1.sublist hs, fun v hv => h.2.2 v (hs.subset hv)⟩
theorem z6r {u : Un} (h : (z1i u).1 = 0) : z1i (z2u stB u) = (0, 0) :=
  check_m stB h fun f hf => y0h (z7d (((z7p u).1 h).2 f hf))
theorem z8z {u : Un} (h : (z2m u).1 = 0) : ∀ f ∈ u.flows, z8y f.body = true := by
  rw [z3b] at h
  intro f hf
  have hb := (y0g h f hf).1
  simp only [z3n, Bool.and_eq_true] at hb
  exact z4s u f f.body 1 _ _ hb.2
mutual
def kdN : Nd -> Bool
  | .mk kind _ _ _ _ _ _ ks => decide (1 <= kind) && kdK ks
def kdL : List Nd -> Bool
  | [] => true
  | x :: r => kdN x && kdL r
def kdK : List (List Nd) -> Bool
  | [] => true
  | l :: r => kdL l && kdK r
end
theorem kdN_eq (x : Nd) : kdN x = (decide (1 <= x.kind) && kdK x.kids) := by cases x; simp only [kdN]; rfl
theorem zy7 {u : Un} {f : Fl} {x : Nd} {s : List Int} {w : Wh} {tys outs : List Int} (h : (z6i u f x s w).ok tys outs = true) : 1 <= x.kind := by
  rcases Int.lt_or_le x.kind 1 with hk | hk
  ·exfalso
   have e : ∀ n : Int, 1 <= n -> (x.kind == n) = false := fun n hn => by simp only [beq_eq_false_iff_ne]; omega
   unfold z6i at h
   simp only [e 1 oM0, e 2 oM0, e 3 oM0, e 4 oM0, e 5 oM0, e 6 oM0, e 7 oM0, e 8 oM0, e 9 oM0, e 12 oM0, e 13 oM0, e 14 oM0, e 15 oM0, Bool.false_eq_true, if_false] at h
   simp [SForm.ok] at h
  exact hk
mutual
theorem y0z (u : Un) (f : Fl) : ∀ (x : Nd) (deep : Int) (w : Wh) (s : List Int), z5y u f deep w s x = true -> kdN x = true
  | .mk kind op n name args outs params ks, deep, w, s, h => by
    have hb := z5g u f deep w s h
    simp only [kdN, Bool.and_eq_true, decide_eq_true_eq]
    by_cases h10 : kind = 10
    ·refine ⟨by omega, ?_⟩
     obtain ⟨a, b, hk⟩ := z30 hb h10
     rw [z5z u f deep w s hb h10 hk] at h
     simp only [Bool.and_eq_true, z3n] at h
     simp only [Nd.kids] at hk
     match ks, hk with
     | [a', b'], hk =>
       cases hk
       simp only [kdK, Bool.and_eq_true, Bool.and_true]
       exact ⟨z6c u f a _ _ _ h.1.1.1.2.2, z6c u f b _ _ _ h.1.1.2.2⟩
    by_cases h11 : kind = 11
    ·refine ⟨by omega, ?_⟩
     obtain ⟨a, hk⟩ := z22 hb h11
     rw [z4b u f deep w s hb h11 hk] at h
     simp only [Bool.and_eq_true, z3n] at h
     simp only [Nd.kids] at hk
     match ks, hk with
     | [a'], hk =>
       cases hk
       simp only [kdK, Bool.and_true]
       exact z6c u f a _ _ _ h.1.1.2.2
    have e10 : (kind == 10) = false := by simpa using h10
    have e11 : (kind == 11) = false := by simpa using h11
    have hk0 := z6q hb e10 e11
    simp only [Nd.kids] at hk0
    rw [z25 u f deep w s hb e10 e11] at h
    exact ⟨zy7 h, by rw [hk0]; rfl⟩
theorem z6c (u : Un) (f : Fl) : ∀ (l : List Nd) (deep : Int) (w : Wh) (s : List Int), vGo u f deep w s l = true -> kdL l = true
  | [], _, _, _, _ => rfl
  | x :: r, deep, w, s, h => by
    simp only [vGo, Bool.and_eq_true] at h
    simp only [kdL, Bool.and_eq_true]
    exact ⟨y0z u f x _ _ _ h.1.1.2, z6c u f r _ _ _ h.2⟩
end
theorem kd_valid {u : Un} (h : (z2m u).1 = 0) : ∀ f ∈ u.flows, kdL f.body = true := by
  rw [z3b] at h
  intro f hf
  have hF := ((z7p u).1 h).2 f hf
  unfold z2f at hF
  simp only [Bool.and_eq_true] at hF
  obtain ⟨h1, h2⟩ := hF
  have hp : f.params.toNat <= f.types.length := by
    have a1 := h1.1.1.1.1
    have a2 := h1.1.1.2
    simp only [Bool.not_eq_true', decide_eq_false_iff_not] at a1 a2
    omega
  have hn : (z2h f.params.toNat f.types.length).length = f.types.length := z2q hp
  rw [z8o u f f.body 1 z33 _ _ hn] at h2
  have hv := h2.1
  simp only [z3n, Bool.and_eq_true] at hv
  exact z6c u f f.body _ _ _ hv.2
def z23 (a b : Nd) : Bool := a.kind == b.kind && a.op == b.op && a.n == b.n && decide (a.kind <= 4) && a.args == b.args
mutual
def onN (pre : List Nd) : Nd -> Bool
  | .mk kind op n name args outs params ks => !(pre.any fun y => z23 y (.mk kind op n name args outs params ks)) && onK ks
def onL (pre : List Nd) : List Nd -> Bool
  | [] => true
  | x :: r => onN pre x && onL (pre ++ [x]) r
def onK : List (List Nd) -> Bool
  | [] => true
  | l :: r => onL [] l && onK r
end
theorem zn8 (pre : List Nd) (x : Nd) : onN pre x = (!(pre.any fun y => z23 y x) && onK x.kids) := by cases x; simp only [onN, Nd.kids]
def zo4 (u : Un) : Bool := u.flows.all fun f => onL [] f.body
theorem zk4 {y x : Nd} (h : z23 y x = true) : y.kind = x.kind /\ y.kind <= 4 /\ z3m y = z3m x := by
  simp only [z23, Bool.and_eq_true, beq_iff_eq, decide_eq_true_eq] at h
  obtain ⟨⟨⟨⟨h1, h2⟩, h3⟩, h4⟩, h5⟩ := h
  refine ⟨h1, h4, ?_⟩
  unfold z3m
  rw [h1, h2, h3, h5]
theorem y1k {pre : List Nd} {x : Nd} (h : ∀ y ∈ pre, z23 y x = false) : (pre.any fun y => z23 y x) = false := by
  rw [List.any_eq_false]
  exact fun y hy => by rw [h y hy]; simp
def Known (tb : Tb) (pre : List Nd) : Prop := ∀ y ∈ pre, stK y.kind = true -> aGet (z3m y) tb.seen ≠ none
mutual
theorem on_node : ∀ (x : Nd) (tb : Tb) (to : TT) (pre : List Nd), Known tb pre -> kdN x = true -> onL pre (z03 tb to x).1 = true /\ Known (z03 tb to x).2.1 (pre ++ (z03 tb to x).1)
  | .mk kind op n name args outs params ks, tb, to, pre, hk, hd => by
    rw [kdN_eq] at hd
    simp only [Bool.and_eq_true, decide_eq_true_eq, Nd.kids] at hd
    have hks := y1e ks tb to hd.2
    unfold z03
    by_cases hK : stK kind = true
    ·rw [if_pos hK]
     dsimp only
     unfold z1p
     cases hp : z2c tb.nums (.mk kind op n name (args.map (z1s to)) outs params (z0i tb to ks).1) with
     | some y => exact ⟨by simp [onL], by simpa using hk⟩
     | none =>
       dsimp only
       cases hs : aGet (z3m (.mk kind op n name (args.map (z1s to)) outs params (z0i tb to ks).1)) tb.seen with
       | some y => exact ⟨by simp [onL], by simpa using hk⟩
       | none =>
         refine ⟨?_, fun y hy hyk => ?_⟩
         ·simp only [if_true, onL, Bool.and_true]
          rw [zn8]
          have := y1k (pre := pre) (x := .mk kind op n name (args.map (z1s to)) outs params (z0i tb to ks).1) fun y hy => by
            cases ha : z23 y (.mk kind op n name (args.map (z1s to)) outs params (z0i tb to ks).1) with
            | false => rfl
            | true =>
              obtain ⟨e1, e2, e3⟩ := zk4 ha
              exact absurd (e3 ▸ hs) (hk y hy (by rw [e1]; exact hK))
          rw [this, Bool.not_false, Bool.true_and]
          exact hks
         simp only [if_true] at hy
         rw [z6p]
         by_cases e : z3m y = z3m (.mk kind op n name (args.map (z1s to)) outs params (z0i tb to ks).1)
         ·rw [if_pos e]; simp
         rw [if_neg e]
         rcases List.mem_append.1 hy with hy | hy
         ·exact hk y hy hyk
         obtain rfl := List.mem_singleton.1 hy
         exact absurd rfl e
    rw [if_neg hK]
    refine ⟨?_, fun y hy hyk => ?_⟩
    ·simp only [onL, Bool.and_true]
     rw [zn8]
     have := y1k (pre := pre) (x := .mk kind op n name (args.map (z1s to)) outs params (z0i tb to ks).1) fun y hy => by
       cases ha : z23 y (.mk kind op n name (args.map (z1s to)) outs params (z0i tb to ks).1) with
       | false => rfl
       | true =>
         obtain ⟨e1, e2, _⟩ := zk4 ha
         have h1 : 1 <= kind := hd.1
         have e1' : y.kind = kind := e1
         exfalso
         apply hK
         simp only [stK, Bool.or_eq_true, beq_iff_eq]
         omega
     rw [this, Bool.not_false, Bool.true_and]
     exact hks
    rcases List.mem_append.1 hy with hy | hy
    ·exact hk y hy hyk
    obtain rfl := List.mem_singleton.1 hy
    exact absurd hyk hK
theorem zr9 : ∀ (l : List Nd) (tb : Tb) (to : TT) (pre : List Nd), Known tb pre -> kdL l = true -> onL pre (z0l tb to l).1 = true
  | [], _, _, _, _, _ => by simp [z0l, onL]
  | x :: r, tb, to, pre, hk, hd => by
    simp only [kdL, Bool.and_eq_true] at hd
    obtain ⟨h1, h2⟩ := on_node x tb to pre hk hd.1
    have h3 := zr9 r (z03 tb to x).2.1 (z03 tb to x).2.2 _ h2 hd.2
    simp only [z0l]
    have hl := zh6 tb to x
    match hn : (z03 tb to x).1, hl with
    | [], _ => rw [hn] at h3; simpa using h3
    | [y], _ =>
      rw [hn] at h1 h3
      simp only [onL, Bool.and_true] at h1
      simp only [List.singleton_append, onL, h1, Bool.true_and]
      exact h3
theorem y1e : ∀ (ks : List (List Nd)) (tb : Tb) (to : TT), kdK ks = true -> onK (z0i tb to ks).1 = true
  | [], _, _, _ => by simp [z0i, onK]
  | l :: r, tb, to, hd => by
    simp only [kdK, Bool.and_eq_true] at hd
    simp only [z0i, onK, Bool.and_eq_true]
    exact ⟨zr9 l tb to [] (fun y hy => by simp at hy) hd.1, y1e r tb _ hd.2⟩
end
theorem zy3 (u : Un) : zo4 (z1u stB u).1 = true := by
  by_cases h : (z1i u).1 = 0
  ·rw [z35 stB h]
   unfold zo4
   rw [List.all_eq_true]
   intro g hg
   obtain ⟨f, hf, rfl⟩ := List.mem_map.1 (show g ∈ u.flows.map (z2y stB) from hg)
   exact zr9 f.body _ _ [] (fun y hy => by simp at hy) (kd_valid (by rw [z3b]; exact h) f hf)
  rw [z6w stB h]
  rfl
def inEs (l : TT) : List (Value × PV) := l.map fun e => (vKey e.1, vInt e.2)
def tH (tb : Tb) (to : TT) : List (Nat × HO) := [(3001, .map (kyEs tb.seen)), (3002, .map (inEs tb.nums)), (3003, .map (inEs to))]
abbrev tV : IV := .agg [.mp 3001, .mp 3002, .mp 3003]
theorem z4g (l : TT) : ∀ e ∈ inEs l, z2e (.int .i64) e.1 = true := fun e he => by
  obtain ⟨x, _, rfl⟩ := List.mem_map.1 he
  rfl
theorem y10 (a b : Int) : keyB (vKey a) (vKey b) = decide (a = b) := by
  show (a == b) = _
  by_cases h : a = b <;> simp [h]
theorem zm0 (v : Int) : ∀ l : TT, z3t (vKey v) (inEs l) = (aGet v l).map vInt
  | [] => rfl
  | (a, b) :: r => by
    have ih := zm0 v r
    unfold inEs at ih ⊢
    simp only [List.map_cons, z3t, aGet, y10, decide_eq_true_eq]
    by_cases h : v = a
    · rw [if_pos h, if_pos h]; rfl
    · rw [if_neg h, if_neg h]; exact ih
theorem z9l (k v : Int) : ∀ l : TT, mput (vKey k) (vInt v) (inEs l) = inEs (aPut k v l)
  | [] => rfl
  | (a, b) :: r => by
    have ih := z9l k v r
    unfold inEs at ih ⊢
    simp only [List.map_cons, mput, aPut, y10, decide_eq_true_eq]
    by_cases h : k = a
    · rw [if_pos h, if_pos h]; rfl
    · rw [if_neg h, if_neg h, ih]; rfl
theorem za6 (v : Int) (l : TT) : ((z3t (vKey v) (inEs l)).getD (.val (.int .i64 0)), (z3t (vKey v) (inEs l)).isSome) = (vInt ((aGet v l).getD 0), (aGet v l).isSome) := by
  rw [zm0]
  cases aGet v l <;> rfl
theorem y0b {to : TT} {v : Int} (h : (aGet v to).isSome = true) : (aGet v to).getD 0 = z1s to v := by
  unfold z1s
  cases hg : aGet v to with
  | none => rw [hg] at h; cases h
  | some y => rfl
theorem y0a {to : TT} {v : Int} (h : (aGet v to).isSome = false) : z1s to v = v := by
  unfold z1s
  cases hg : aGet v to with
  | none => rfl
  | some y => rw [hg] at h; cases h
theorem z3p {nums : TT} {v : Int} {q : Int -> Bool} : y08 nums v q = ((aGet v nums).isSome && q ((aGet v nums).getD 0)) := by
  unfold y08
  cases aGet v nums <;> rfl
theorem ls_len : ∀ l : List Nd, l.length <= lsW l
  | [] => by simp
  | x :: r => by
    have h1 := ls_len r
    have h2 : 1 <= ndW x := by cases x; simp only [ndW]; omega
    simp only [lsW, List.length_cons]
    omega
theorem zd9 {α : Type} : ∀ {l : List α} {k : Nat} {x : α} {r : List α}, l.drop k = x :: r -> l.take (k + 1) = l.take k ++ [x]
  | [], k, x, r, h => by simp at h
  | y :: l, 0, x, r, h => by simp at h; simp [h.1]
  | y :: l, k + 1, x, r, h => by
    have := zd9 (l := l) (k := k) (x := x) (r := r) (by simpa using h)
    simp only [List.take_succ_cons, List.cons_append, this]
theorem zr5 {α : Type} {l : List α} {j k : Nat} (hj : j < k) (hl : j < l.length) : l[j] ∈ l.take k := by
  have h : j < (l.take k).length := by rw [List.length_take]; omega
  have e : (l.take k)[j] = l[j] := List.getElem_take
  exact e ▸ List.getElem_mem h
theorem args_ne {l m : List Int} (h : ¬ (l.length : Int) = m.length) : (l == m) = false := by
  cases hb : (l == m) with
  | false => rfl
  | true => exact absurd (by rw [eq_of_beq hb]) h
theorem firm3 {hp : Hp} {a b c : Nat} (h1 : ∃ es, look hp a = some (.map es)) (h2 : ∃ es, look hp b = some (.map es)) (h3 : ∃ es, look hp c = some (.map es)) : ∀ z ∈ [IV.mp a, .mp b, .mp c], z.firm (look hp) := fun z hz => by
  rcases List.mem_cons.1 hz with rfl | hz
  · exact h1
  · rcases List.mem_cons.1 hz with rfl | hz
    · exact h2
    · obtain rfl := List.mem_singleton.1 hz; exact h3
theorem z7w {l : List Int} {i : Nat} (h : i < l.length) : (l.map eInt)[i]? = some [vInt (l.getD i 0)] := by
  rw [List.getElem?_map, List.getD_eq_getElem?_getD, List.getElem?_eq_getElem h]; rfl
theorem y0o (B : List Nd -> List Nd) (l : List Fl) (x : Fl) : (l ++ [z2y B x]).map Fl.enc = l.map Fl.enc ++ [[vStr x.name, vInt x.ty, vInt x.params, ints x.types, z07 (B x.body)]] := by
  rw [List.map_append]; rfl
theorem z8t (op : Int) : SC Tryz.prog 90 [iInt op] [] (fun _ => False) (iBool (z4t op)) [] := by
  refine SC.of Tryz.func90 rfl (lb rfl) fun F ρ w => ?_
  refine tQ <| tG <| sm 1 rfl <| nL <| tQ <| tQ <| tG <| sm 1 rfl <| nL <| tBk <| tQ <| tQ ?_
  refine tG <| sm 2 rfl <| nL ?_
  refine tC rfl (fun hc4 => ?_) fun hc4 => ?_
  ·refine tSk ?_
   refine tC rfl (fun hd4 => ?_) fun hd4 => ?_
   ·refine tQ <| tG <| sm 1 rfl <| nL <| tRt <| rOk rfl ?_ nPo
    simp_all [z4t]
   exact absurd (hc4.symm.trans hd4) dC0
  refine tQ <| tG <| sm 2 rfl <| nL ?_
  refine tC rfl (fun hc4 => ?_) fun hc4 => ?_
  ·refine tSk ?_
   refine tC rfl (fun hd4 => ?_) fun hd4 => ?_
   ·refine tQ <| tG <| sm 1 rfl <| nL <| tRt <| rOk rfl ?_ nPo
    simp_all [z4t]
   exact absurd (hc4.symm.trans hd4) dC0
  refine tQ <| tG <| sm 2 rfl <| nL ?_
  refine tC rfl (fun hc4 => ?_) fun hc4 => ?_
  ·refine tSk ?_
   refine tC rfl (fun hd4 => ?_) fun hd4 => ?_
   ·refine tQ <| tG <| sm 1 rfl <| nL <| tRt <| rOk rfl ?_ nPo
    simp_all [z4t]
   exact absurd (hc4.symm.trans hd4) dC0
  refine tQ <| tG <| sm 2 rfl <| nL ?_
  refine tC rfl (fun hc4 => ?_) fun hc4 => ?_
  ·refine tSk ?_
   refine tC rfl (fun hd4 => ?_) fun hd4 => ?_
   ·refine tQ <| tG <| sm 1 rfl <| nL <| tRt <| rOk rfl ?_ nPo
    simp_all [z4t]
   exact absurd (hc4.symm.trans hd4) dC0
  refine tQ <| tG <| sm 2 rfl <| nL ?_
  refine tC rfl (fun hc4 => ?_) fun hc4 => ?_
  ·refine tSk ?_
   refine tC rfl (fun hd4 => ?_) fun hd4 => ?_
   ·refine tQ <| tG <| sm 1 rfl <| nL <| tRt <| rOk rfl ?_ nPo
    simp_all [z4t]
   exact absurd (hc4.symm.trans hd4) dC0
  refine tQ <| tG <| sm 2 rfl <| nL ?_
  refine tC rfl (fun hc4 => ?_) fun hc4 => ?_
  ·refine tSk ?_
   refine tC rfl (fun hd4 => ?_) fun hd4 => ?_
   ·refine tQ <| tG <| sm 1 rfl <| nL <| tRt <| rOk rfl ?_ nPo
    simp_all [z4t]
   exact absurd (hc4.symm.trans hd4) dC0
  refine tG <| sm 2 rfl <| nL ?_
  refine tC rfl (fun hc4 => ?_) fun hc4 => ?_
  ·refine tQ <| tG <| sm 1 rfl <| nL <| tRt <| rOk rfl ?_ nPo
   simp_all [z4t]
  refine tSk <| tQ <| tG <| sm 1 rfl <| nL <| tRt <| rOk rfl ?_ nPo
  simp_all [z4t]
theorem z8s (op n : Int) : SC Tryz.prog 89 [iInt op, iInt n] [] (fun _ => False) (iBool (z2w op n)) [] := by
  refine SC.of Tryz.func89 rfl (lb rfl) fun F ρ w => ?_
  refine tQ <| tG <| sm 1 rfl <| nL <| tQ <| tQ <| tG <| sm 1 rfl <| nL <| tBk <| tQ <| tQ ?_
  refine tG <| sm 2 rfl <| nL ?_
  refine tC rfl (fun hc6 => ?_) fun hc6 => ?_
  ·refine tSk ?_
   refine tC rfl (fun hd6 => ?_) fun hd6 => ?_
   ·refine tQ <| tG <| sm 3 rfl <| nL <| tRt <| rOk rfl ?_ nPo
    simp_all [z2w]
   exact absurd (hc6.symm.trans hd6) dC0
  refine tQ <| tG <| sm 2 rfl <| nL ?_
  refine tC rfl (fun hc6 => ?_) fun hc6 => ?_
  ·refine tSk ?_
   refine tC rfl (fun hd6 => ?_) fun hd6 => ?_
   ·refine tQ <| tG <| sm 3 rfl <| nL <| tRt <| rOk rfl ?_ nPo
    simp_all [z2w]
   exact absurd (hc6.symm.trans hd6) dC0
  refine tQ <| tG <| sm 2 rfl <| nL ?_
  refine tC rfl (fun hc6 => ?_) fun hc6 => ?_
  ·refine tSk ?_
   refine tC rfl (fun hd6 => ?_) fun hd6 => ?_
   ·refine tQ <| tG <| sm 3 rfl <| nL <| tRt <| rOk rfl ?_ nPo
    simp_all [z2w]
   exact absurd (hc6.symm.trans hd6) dC0
  refine tQ <| tG <| sm 2 rfl <| nL ?_
  refine tC rfl (fun hc6 => ?_) fun hc6 => ?_
  ·refine tSk ?_
   refine tC rfl (fun hd6 => ?_) fun hd6 => ?_
   ·refine tQ <| tG <| sm 3 rfl <| nL <| tRt <| rOk rfl ?_ nPo
    simp_all [z2w]
   exact absurd (hc6.symm.trans hd6) dC0
  refine tQ <| tG <| sm 2 rfl <| nL ?_
  refine tC rfl (fun hc6 => ?_) fun hc6 => ?_
  ·refine tSk ?_
   refine tC rfl (fun hd6 => ?_) fun hd6 => ?_
   ·refine tQ <| tG <| sm 3 rfl <| nL <| tRt <| rOk rfl ?_ nPo
    simp_all [z2w]
   exact absurd (hc6.symm.trans hd6) dC0
  refine tQ <| tG <| sm 2 rfl <| nL ?_
  refine tC rfl (fun hc6 => ?_) fun hc6 => ?_
  ·refine tSk ?_
   refine tC rfl (fun hd6 => ?_) fun hd6 => ?_
   ·refine tQ <| tG <| sm 3 rfl <| nL <| tRt <| rOk rfl ?_ nPo
    simp_all [z2w]
   exact absurd (hc6.symm.trans hd6) dC0
  refine tG <| sm 2 rfl <| nL ?_
  refine tC rfl (fun hc6 => ?_) fun hc6 => ?_
  ·refine tQ <| tG <| sm 3 rfl <| nL <| tRt <| rOk rfl ?_ nPo
   simp_all [z2w]
  refine tQ <| tQ <| tG <| sm 2 rfl <| nL ?_
  refine tC rfl (fun hc16 => ?_) fun hc16 => ?_
  ·refine tSk ?_
   refine tC rfl (fun hd16 => ?_) fun hd16 => ?_
   ·refine tQ <| tG <| sm 3 rfl <| nL <| tRt <| rOk rfl ?_ nPo
    simp_all [z2w]
   exact absurd (hc16.symm.trans hd16) dC0
  refine tG <| sm 2 rfl <| nL ?_
  refine tC rfl (fun hc16 => ?_) fun hc16 => ?_
  ·refine tQ <| tG <| sm 3 rfl <| nL <| tRt <| rOk rfl ?_ nPo
   simp_all [z2w]
  refine tQ <| tG <| sm 2 rfl <| nL ?_
  refine tC rfl (fun hc21 => ?_) fun hc21 => ?_
  ·refine tQ <| tG <| sm 3 rfl <| nL <| tRt <| rOk rfl ?_ nPo
   simp_all [z2w]
  refine tSk <| tQ <| tG <| sm 1 rfl <| nL <| tRt <| rOk rfl ?_ nPo
  simp_all [z2w]
theorem sc_stKey (x : Nd) (h3 : x.kind = 3 -> 0 < x.args.length) (h4 : x.kind = 4 -> 1 < x.args.length) : SC Tryz.prog 65 [.pv (ndv x)] [] (fun _ => False) (.pv (kyP (z3m x))) [] := by
  refine SC.ofC Tryz.func65 rfl (lb rfl) rfl fun F ρ w => ?_
  refine tQ <| tG <| cE rfl (z13 rfl rfl) <| cE rfl (aLc (k := 102) rfl tZ108 rfl rfl rfl rfl) <| nL <| tQ <| tG <| sm 6 rfl <| cV rfl (bPu rfl rfl tZ108 tP108 rfl (fbk rfl) rfl) <| cE rfl (aLc (k := 103) rfl tZ108 rfl rfl rfl rfl) <| c0 (sBA rfl rfl rfl rfl rfl ((fun h => h)) z5w (flk rfl) (lb rfl)) <| nL ?_
  refine tQ <| tQ <| tG <| sm 2 rfl <| nL <| tBk <| tQ <| tG <| sm 2 rfl <| nL ?_
  refine tC rfl (fun hc13 => ?_) fun hc13 => ?_
  ·have hk : x.kind = 3 := by simpa using hc13
   have hi0 := z7w (h3 hk)
   refine tG <| sm 2 rfl <| cV rfl (iSq rfl rfl rfl uT35 hi0 tS3 rfl (by rfl)) <| sm 2 rfl <| c0 (sBx rfl rfl rfl rfl ((fun h => h)) tS3 (rfl) (lb rfl)) <| nL <| tQ <| tG <| cV rfl (lBP rfl rfl rfl Tryz.underlying108 rfl z5w (lb rfl) rfl trivial) <| c0 (sBA rfl rfl rfl rfl rfl ((fun h => h)) z5w (flk rfl) (lb rfl)) <| nL <| tRt <| rCk (.inl rfl) (fun _ _ ho => lBP ho rfl rfl Tryz.underlying108 rfl z5w (lb rfl) rfl trivial) ?_ nPo
   simp_all [z3m, kyP]
  have hk3 : (x.kind == 3) = false := hc13
  refine tQ <| tG <| sm 2 rfl <| nL ?_
  refine tC rfl (fun hc20 => ?_) fun hc20 => ?_
  ·have hk : x.kind = 4 := by simpa using hc20
   have hl := h4 hk
   have hi0 := z7w (l := x.args) (i := 0) oM0
   have hi1 := z7w (l := x.args) (i := 1) hl
   refine tQ <| tDr z15 (fun k => k ∈ ([] : List Nat)) <| wR 3 [0, 1, 2, 3, 4, 5, 6, 7, 8] kR0 h30 <| smR 2 rfl <| rV rfl rfl (iSq rfl rfl rfl uT35 hi0 tS3 rfl (by rfl)) <| smR 3 rfl <| rV rfl rfl (iSq rfl rfl rfl uT35 hi1 tS3 rfl (by rfl)) <| smR 2 rfl <| nR <| wO 9 kR0 <| wI rfl rfl nf (nOl rfl) (fun _ _ => sBx rfl rfl rfl rfl sI0 tS3 (rfl) (lb rfl)) <| wR 1 [10] kR0 h30 ?_
   refine smR 1 rfl <| nR <| wO 11 kR0 <| wI rfl rfl nf (nOl rfl) (fun _ _ => sBx rfl rfl rfl rfl sI0 tS3 (rfl) (lb rfl)) <| wDn kR0 <| tQ <| tG <| sm 2 rfl <| cE rfl (ocq (z8t x.op) ent90 rfl rfl) <| sm 1 rfl ?_
   refine wS 35 rfl (fun hb35 => ?_) fun hb35 => ?_
   ·refine sm 6 rfl <| nL ?_
    refine tC rfl (fun hc41 => ?_) fun hc41 => ?_
    ·refine tG <| sm 5 rfl <| c0 (sBx rfl rfl rfl rfl ((fun h => h)) tS3 (rfl) (lb rfl)) <| sm 1 rfl <| c0 (sBx rfl rfl rfl rfl ((fun h => h)) tS3 (rfl) (lb rfl)) <| nL <| tQ <| tG <| cV rfl (lBP rfl rfl rfl Tryz.underlying108 rfl z5w (lb rfl) rfl trivial) <| c0 (sBA rfl rfl rfl rfl rfl ((fun h => h)) z5w (flk rfl) (lb rfl)) <| nL <| tRt <| rCk (.inl rfl) (fun _ _ ho => lBP ho rfl rfl Tryz.underlying108 rfl z5w (lb rfl) rfl trivial) ?_ nPo
     simp_all [z3m, kyP]
    refine tSk <| tQ <| tG <| cV rfl (lBP rfl rfl rfl Tryz.underlying108 rfl z5w (lb rfl) rfl trivial) <| c0 (sBA rfl rfl rfl rfl rfl ((fun h => h)) z5w (flk rfl) (lb rfl)) <| nL <| tRt <| rCk (.inl rfl) (fun _ _ ho => lBP ho rfl rfl Tryz.underlying108 rfl z5w (lb rfl) rfl trivial) ?_ nPo
    (simp_all [z3m, kyP]; rw [if_neg oM0]; simp)
   refine sm 6 rfl <| nL <| Tr.condF rfl <| tSk <| tQ <| tG <| cV rfl (lBP rfl rfl rfl Tryz.underlying108 rfl z5w (lb rfl) rfl trivial) <| c0 (sBA rfl rfl rfl rfl rfl ((fun h => h)) z5w (flk rfl) (lb rfl)) <| nL <| tRt <| rCk (.inl rfl) (fun _ _ ho => lBP ho rfl rfl Tryz.underlying108 rfl z5w (lb rfl) rfl trivial) ?_ nPo
   simp_all [z3m, kyP]
  have hk4 : (x.kind == 4) = false := hc20
  refine tSk <| tQ <| tG <| cV rfl (lBP rfl rfl rfl Tryz.underlying108 rfl z5w (lb rfl) rfl trivial) <| c0 (sBA rfl rfl rfl rfl rfl ((fun h => h)) z5w (flk rfl) (lb rfl)) <| nL <| tRt <| rCk (.inl rfl) (fun _ _ ho => lBP ho rfl rfl Tryz.underlying108 rfl z5w (lb rfl) rfl trivial) ?_ nPo
  simp_all [z3m, kyP]
theorem y2d (l : List Int) (tb : Tb) (to : TT) (hb : l.length <= 1073741824) : SC Tryz.prog 39 [tV, .pv (ints l)] (tH tb to) (fun k => k = 3001 ∨ k = 3002 ∨ k = 3003) (.pv (ints (l.map (z1s to)))) (tH tb to) := by
  refine SC.of Tryz.func39 rfl (lb rfl) fun F ρ w => ?_
  refine Tr.lenOf (t := 1) rfl (fun hl => ?_)
  simp only [List.length_map] at hl
  refine tQ <| tG <| cE rfl (z4j (k := 102) rfl rfl rfl rfl rfl rfl rfl) <| sm 1 rfl <| nL <| tQ <| tQ <| Tr.grow (t := 4) (k := 104) ⟨3, 1⟩ rfl rfl rfl rfl rfl <| tG <| sm 1 rfl <| cV rfl (oSm uT35 rfl) <| sm 1 rfl ?_
  refine nL <| tBk <| Tr.sub (Sub.of (fr' := [(11, iInt 0), (10, iInt l.length), (9, .pv (ints l)), (4, .sl 104 (([] : List Int).map eInt).length), (2, .ptr 102 0)]) ⟨rfl, rfl, rfl, rfl, rfl, trivial⟩) ?_
  refine Tr.loop (fun fr σ m => ∃ (k : Nat) (acc : List Int), (k <= l.length) /\ (acc ++ (l.drop k).map (z1s to) = l.map (z1s to)) /\ fr = [(11, iInt k), (10, iInt l.length), (9, .pv (ints l)), (4, .sl 104 (acc.map eInt).length), (2, .ptr 102 0)] /\ σ = look [(104, some (.row ⟨3, 1⟩ (acc.map eInt))), (102, some (.box [.mp 3001, .mp 3002, .mp 3003])), (3001, some (.map (kyEs tb.seen))), (3002, some (.map (inEs tb.nums))), (3003, some (.map (inEs to)))] /\ m = l.length - k) (n := l.length - 0) ?_ ?_
  ·exact ⟨0, ([] : List Int), Nat.zero_le _, rfl, rfl, rfl, rfl⟩
  rintro fr σ m ⟨k, acc, hI0, hI1, rfl, rfl, rfl⟩
  refine tQ <| tG <| sm 1 rfl <| nL <| tQ ?_
  refine tC rfl (fun hc12 => ?_) fun hc12 => ?_
  ·have hlt : k < l.length := by simpa using hc12
   have hd := List.drop_eq_getElem_cons hlt
   have hm := List.getElem_mem hlt
   have hi := z0c (f := eInt) (List.getElem?_eq_getElem hlt)
   generalize l[k] = x at hd hm hi
   have hal : (acc.map eInt).length = acc.length := by simp
   have hol : acc.length + 1 <= 1073741824 := by
     have := congrArg List.length hI1
     rw [hd] at this
     simp only [List.length_append, List.length_map, List.length_cons] at this
     omega
   have hgd := za6 x to
   have hg1 := congrArg Prod.fst hgd
   have hg2 := congrArg Prod.snd hgd
   dsimp only at hg1 hg2
   refine tSk <| tQ <| tBk <| tQ <| tG <| cV rfl (iSq rfl rfl rfl uT35 hi tS3 rfl (by rfl)) <| sm 2 rfl <| nL <| tQ <| tQ <| tG <| sm 3 rfl ?_
   refine cV rfl (z6v (kv := vKey x) rfl rfl rfl rfl Tryz.underlying60 uT3 rfl (z4g _) tZ3 (by trivial)) ?_
   rw [hg1, hg2]
   refine sm 1 rfl <| cV rfl (z0d rfl rfl rfl) <| cV rfl (z0d rfl rfl rfl) <| sm 2 rfl <| nL <| tQ <| tG <| sm 1 rfl <| nL ?_
   refine tC rfl (fun hc22 => ?_) fun hc22 => ?_
   ·have hval : (aGet x to).getD 0 = z1s to x := y0b hc22
    refine tG <| sm 2 rfl <| nL <| tG <| sm 2 rfl <| cE rfl (bSl rfl rfl uT35 tZ3 tS3 rfl rfl rfl rfl (fbk rfl) rfl) ?_
    refine cE rfl (aPp rfl rfl rfl rfl (by rfl) sI0 uT35 tB3 dC0 (by (simp [z09]; done)) (by (simp [z09, PV.one]; rfl)) (by simp [maxLen, z09]; omega) (by simp [z09]; omega)) ?_
    refine sm 1 rfl <| nL ?_
    refine Tr.heap (σ' := look [(104, some (.row ⟨3, 1⟩ ((acc ++ [z1s to x]).map eInt))), (102, some (.box [.mp 3001, .mp 3002, .mp 3003])), (3001, some (.map (kyEs tb.seen))), (3002, some (.map (inEs tb.nums))), (3003, some (.map (inEs to)))]) (by
      rw [List.map_append, <- hval]
      intro j
      try simp only [look]
      by_cases h104 : 104 = j
      · subst h104; rfl
      · by_cases h102 : 102 = j
        · subst h102; rfl
        · by_cases h3001 : 3001 = j
          · subst h3001; rfl
          · by_cases h3002 : 3002 = j
            · subst h3002; rfl
            · by_cases h3003 : 3003 = j
              · subst h3003; rfl
              · simp [tH, look, up, z00 h104, z00 h102, z00 h3001, z00 h3002, z00 h3003]) ?_
    refine tG <| cV rfl (oB rfl rfl (z05 rfl oM0)) <| sm 1 rfl <| nL ?_
    refine ⟨_, _, ?_, Sub.of (fr' := [(11, iInt (k + 1)), (10, iInt l.length), (9, .pv (ints l)), (4, .sl 104 ((acc ++ [z1s to x]).map eInt).length), (2, .ptr 102 0)]) ⟨rfl, rfl, rfl, congrArg (fun z => some (IV.sl _ z)) (by rw [List.map_append]; simp [z09]), rfl, trivial⟩, (k + 1), (acc ++ [z1s to x]), ?_, ?_, rfl, rfl, rfl⟩
    ·omega
    ·omega
    rw [<- hI1, hd, List.append_assoc]; rfl
   have hval : x = z1s to x := (y0a hc22).symm
   refine tSk <| tG <| sm 2 rfl <| cE rfl (bSl rfl rfl uT35 tZ3 tS3 rfl rfl rfl rfl (fbk rfl) rfl) ?_
   refine cE rfl (aPp rfl rfl rfl rfl (by rfl) sI0 uT35 tB3 dC0 (by (simp [z09]; done)) (by (simp [z09, PV.one]; rfl)) (by simp [maxLen, z09]; omega) (by simp [z09]; omega)) ?_
   refine sm 1 rfl <| nL ?_
   refine Tr.heap (σ' := look [(104, some (.row ⟨3, 1⟩ ((acc ++ [z1s to x]).map eInt))), (102, some (.box [.mp 3001, .mp 3002, .mp 3003])), (3001, some (.map (kyEs tb.seen))), (3002, some (.map (inEs tb.nums))), (3003, some (.map (inEs to)))]) (by
     rw [List.map_append, <- hval]
     intro j
     try simp only [look]
     by_cases h104 : 104 = j
     · subst h104; rfl
     · by_cases h102 : 102 = j
       · subst h102; rfl
       · by_cases h3001 : 3001 = j
         · subst h3001; rfl
         · by_cases h3002 : 3002 = j
           · subst h3002; rfl
           · by_cases h3003 : 3003 = j
             · subst h3003; rfl
             · simp [tH, look, up, z00 h104, z00 h102, z00 h3001, z00 h3002, z00 h3003]) ?_
   refine tG <| cV rfl (oB rfl rfl (z05 rfl oM0)) <| sm 1 rfl <| nL ?_
   refine ⟨_, _, ?_, Sub.of (fr' := [(11, iInt (k + 1)), (10, iInt l.length), (9, .pv (ints l)), (4, .sl 104 ((acc ++ [z1s to x]).map eInt).length), (2, .ptr 102 0)]) ⟨rfl, rfl, rfl, congrArg (fun z => some (IV.sl _ z)) (by rw [List.map_append]; simp [z09]), rfl, trivial⟩, (k + 1), (acc ++ [z1s to x]), ?_, ?_, rfl, rfl, rfl⟩
   ·omega
   ·omega
   rw [<- hI1, hd, List.append_assoc]; rfl
  refine tEx <| tQ <| Tr.freeze (t := 4) (k := 104) rfl rfl sI0 <| tG <| sm 2 rfl <| nL <| tRt <| rOk rfl ?_ (po3 rfl rfl rfl)
  have hge : l.length <= k := by simpa using hc12
  have he : acc = l.map (z1s to) := by rw [<- hI1, List.drop_eq_nil_of_le hge]; simp
  rw [he]
  rfl
theorem y02 (x : Nd) (tb : Tb) (to : TT) (h4 : x.kind = 4 -> 1 < x.args.length) : SC Tryz.prog 64 [tV, .pv (ndv x)] (tH tb to) (fun k => k = 3001 ∨ k = 3002 ∨ k = 3003) (.tup [iInt ((z2c tb.nums x).getD 0), iBool (z2c tb.nums x).isSome]) (tH tb to) := by
  refine SC.of Tryz.func64 rfl (lb rfl) fun F ρ w => ?_
  refine tQ <| tG <| cE rfl (z4j (k := 102) rfl rfl rfl rfl rfl rfl rfl) <| cE rfl (z13 rfl rfl) <| sm 2 rfl <| nL <| tQ <| tQ <| tG <| sm 3 rfl <| nL ?_
  refine tC rfl (fun hc12 => ?_) fun hc12 => ?_
  ·refine tQ <| tG <| sm 2 rfl <| nL <| tRt <| rOk rfl ?_ (po3 rfl rfl rfl)
   simp_all [z2c, z3p]
  have hk : x.kind = 4 := by simpa using hc12
  have hl := h4 hk
  have hi0 := z7w (l := x.args) (i := 0) oM0
  have hi1 := z7w (l := x.args) (i := 1) hl
  have hgda := za6 (x.args.getD 0 0) tb.nums
  have hg1a := congrArg Prod.fst hgda
  have hg2a := congrArg Prod.snd hgda
  dsimp only at hg1a hg2a
  have hgdb := za6 (x.args.getD 1 0) tb.nums
  have hg1b := congrArg Prod.fst hgdb
  have hg2b := congrArg Prod.snd hgdb
  dsimp only at hg1b hg2b
  refine tSk <| tQ <| tQ <| Tr.still z15 kR0 rfl <| smS 4 rfl <| sV rfl (iSq rfl rfl rfl uT35 hi1 tS3 rfl (by rfl)) <| smS 1 rfl <| sV rfl (z6v (kv := vKey (x.args.getD 1 0)) rfl rfl rfl rfl Tryz.underlying60 uT3 rfl (z4g _) tZ3 (by trivial)) ?_
  rw [hg1b, hg2b]
  refine smS 1 rfl <| sV rfl (z0d rfl rfl rfl) <| sV rfl (z0d rfl rfl rfl) <| smS 2 rfl <| WS.nil <| tQ <| tG <| sm 2 rfl ?_
  refine wS 24 rfl (fun hb24 => ?_) fun hb24 => ?_
  ·refine sm 3 rfl <| WL.yes rfl rfl rfl rfl rfl rfl (z0r (z8s x.op ((aGet (x.args.getD 1 0) tb.nums).getD 0)) ent89 rfl rfl (sRf _ _) rfl) <| sm 1 rfl <| nL ?_
   refine tC rfl (fun hc29 => ?_) fun hc29 => ?_
   ·refine tQ <| tG <| sm 2 rfl <| cV rfl (iSq rfl rfl rfl uT35 hi0 tS3 rfl (by rfl)) <| sm 3 rfl <| nL <| tRt <| rOk rfl ?_ (po3 rfl rfl rfl)
    simp_all [z2c, z3p]
   refine tSk <| tQ <| tQ <| Tr.still z15 kR0 rfl <| smS 4 rfl <| sV rfl (iSq rfl rfl rfl uT35 hi0 tS3 rfl (by rfl)) <| smS 1 rfl <| sV rfl (z6v (kv := vKey (x.args.getD 0 0)) rfl rfl rfl rfl Tryz.underlying60 uT3 rfl (z4g _) tZ3 (by trivial)) ?_
   rw [hg1a, hg2a]
   refine smS 1 rfl <| sV rfl (z0d rfl rfl rfl) <| sV rfl (z0d rfl rfl rfl) <| smS 2 rfl <| WS.nil <| tQ <| tG <| sm 2 rfl ?_
   refine wS 45 rfl (fun hb45 => ?_) fun hb45 => ?_
   ·refine sm 2 rfl <| WL.yes rfl rfl rfl rfl rfl rfl (z0r (z8t x.op) ent90 rfl rfl (sRf _ _) rfl) <| sm 2 rfl ?_
    refine wS 50 rfl (fun hb50 => ?_) fun hb50 => ?_
    ·refine sm 3 rfl <| WL.yes rfl rfl rfl rfl rfl rfl (z0r (z8s x.op ((aGet (x.args.getD 0 0) tb.nums).getD 0)) ent89 rfl rfl (sRf _ _) rfl) <| sm 1 rfl <| nL ?_
     refine tC rfl (fun hc55 => ?_) fun hc55 => ?_
     ·refine tQ <| tG <| sm 2 rfl <| cV rfl (iSq rfl rfl rfl uT35 hi1 tS3 rfl (by rfl)) <| sm 3 rfl <| nL <| tRt <| rOk rfl ?_ (po3 rfl rfl rfl)
      simp_all [z2c, z3p]
     refine tSk <| tQ <| tG <| sm 2 rfl <| nL <| tRt <| rOk rfl ?_ (po3 rfl rfl rfl)
     simp_all [z2c, z3p]
    refine sm 5 rfl <| nL <| Tr.condF rfl <| tSk <| tQ <| tG <| sm 2 rfl <| nL <| tRt <| rOk rfl ?_ (po3 rfl rfl rfl)
    simp_all [z2c, z3p]
   refine sm 10 rfl <| nL <| Tr.condF rfl <| tSk <| tQ <| tG <| sm 2 rfl <| nL <| tRt <| rOk rfl ?_ (po3 rfl rfl rfl)
   simp_all [z2c, z3p]
  refine sm 5 rfl <| nL <| Tr.condF rfl <| tSk <| tQ <| tQ <| Tr.still z15 kR0 rfl <| smS 4 rfl <| sV rfl (iSq rfl rfl rfl uT35 hi0 tS3 rfl (by rfl)) <| smS 1 rfl <| sV rfl (z6v (kv := vKey (x.args.getD 0 0)) rfl rfl rfl rfl Tryz.underlying60 uT3 rfl (z4g _) tZ3 (by trivial)) ?_
  rw [hg1a, hg2a]
  refine smS 1 rfl <| sV rfl (z0d rfl rfl rfl) <| sV rfl (z0d rfl rfl rfl) <| smS 2 rfl <| WS.nil <| tQ <| tG <| sm 2 rfl ?_
  refine wS 45 rfl (fun hb45 => ?_) fun hb45 => ?_
  ·refine sm 2 rfl <| WL.yes rfl rfl rfl rfl rfl rfl (z0r (z8t x.op) ent90 rfl rfl (sRf _ _) rfl) <| sm 2 rfl ?_
   refine wS 50 rfl (fun hb50 => ?_) fun hb50 => ?_
   ·refine sm 3 rfl <| WL.yes rfl rfl rfl rfl rfl rfl (z0r (z8s x.op ((aGet (x.args.getD 0 0) tb.nums).getD 0)) ent89 rfl rfl (sRf _ _) rfl) <| sm 1 rfl <| nL ?_
    refine tC rfl (fun hc55 => ?_) fun hc55 => ?_
    ·refine tQ <| tG <| sm 2 rfl <| cV rfl (iSq rfl rfl rfl uT35 hi1 tS3 rfl (by rfl)) <| sm 3 rfl <| nL <| tRt <| rOk rfl ?_ (po3 rfl rfl rfl)
     simp_all [z2c, z3p]
    refine tSk <| tQ <| tG <| sm 2 rfl <| nL <| tRt <| rOk rfl ?_ (po3 rfl rfl rfl)
    simp_all [z2c, z3p]
   refine sm 5 rfl <| nL <| Tr.condF rfl <| tSk <| tQ <| tG <| sm 2 rfl <| nL <| tRt <| rOk rfl ?_ (po3 rfl rfl rfl)
   simp_all [z2c, z3p]
  refine sm 10 rfl <| nL <| Tr.condF rfl <| tSk <| tQ <| tG <| sm 2 rfl <| nL <| tRt <| rOk rfl ?_ (po3 rfl rfl rfl)
  simp_all [z2c, z3p]
theorem z8b (x : Nd) (tb : Tb) (to : TT) (ho : x.outs ≠ []) (h3 : x.kind = 3 -> 0 < x.args.length) (h4 : x.kind = 4 -> 1 < x.args.length) : SC Tryz.prog 41 [tV, .pv (ndv x)] (tH tb to) (fun _ => False) (iBool (z1p tb to x).1) (tH (z1p tb to x).2.1 (z1p tb to x).2.2) := by
  refine SC.of Tryz.func41 rfl (lb rfl) fun F ρ w => ?_
  obtain ⟨f0, f1, f2, f3, f4, key5⟩ := key5E
  have hi0 : (x.outs.map eInt)[0]? = some [vInt (x.outs.headD 0)] := by
    cases hx : x.outs with
    | nil => exact absurd hx ho
    | cons a r => rfl
  refine tQ <| tG <| cE rfl (z4j (k := 102) rfl rfl rfl rfl rfl rfl rfl) <| cE rfl (z13 rfl rfl) <| sm 1 rfl <| nL <| tQ <| tG <| sm 2 rfl <| cV rfl (iSq rfl rfl rfl uT35 hi0 tS3 rfl (by rfl)) <| sm 2 rfl <| nL ?_
  refine tQ <| tQ <| tG <| cV rfl (z1f rfl rfl rfl Tryz.underlying62 rfl tS62 (lb rfl) trivial) <| cV rfl (lEA rfl rfl uT43 rfl tS43 (lb rfl)) <| cE rfl (ocr (y02 x tb to h4) ent64 rfl (po3 rfl rfl rfl) rfl nf rfl rfl) <| sm 1 rfl <| cV rfl (z0d rfl rfl rfl) <| cV rfl (z0d rfl rfl rfl) <| sm 2 rfl <| nL <| tQ ?_
  refine tG <| sm 1 rfl <| nL ?_
  refine tC rfl (fun hc21 => ?_) fun hc21 => ?_
  ·obtain ⟨y, hy⟩ := Option.isSome_iff_exists.1 hc21
   have hP : z1p tb to x = (false, tb, aPut (x.outs.headD 0) y to) := by simp [z1p, hy]
   have hy2 : (z2c tb.nums x).getD 0 = y := by rw [hy]; rfl
   refine tQ <| tG <| sm 4 rfl <| c0 (z3u (kv := vKey (x.outs.headD 0)) rfl rfl rfl rfl rfl ((fun h => h)) Tryz.underlying60 uT3 rfl (z4g _)) <| nL <| tQ ?_
   refine Tr.heap (σ' := look [(102, some (.box [.mp 3001, .mp 3002, .mp 3003])), (3001, some (.map (kyEs tb.seen))), (3002, some (.map (inEs tb.nums))), (3003, some (.map (inEs (aPut (x.outs.headD 0) y to))))]) (by
     rw [<- z9l, <- hy2]
     intro j
     try simp only [look]
     by_cases h102 : 102 = j
     · subst h102; rfl
     · by_cases h3001 : 3001 = j
       · subst h3001; rfl
       · by_cases h3002 : 3002 = j
         · subst h3002; rfl
         · by_cases h3003 : 3003 = j
           · subst h3003; rfl
           · simp [tH, look, up, z00 h102, z00 h3001, z00 h3002, z00 h3003]) ?_
   refine tG <| sm 1 rfl <| nL <| tRt ?_
   rw [hP]
   refine rOk rfl rfl (po3 rfl rfl rfl)
  have hnp : z2c tb.nums x = none := by simpa using hc21
  refine tSk <| tQ <| tG <| cV rfl (lEA rfl rfl uT43 rfl tS43 (lb rfl)) <| cE rfl (ocq (sc_stKey x h3 h4) ent65 rfl rfl) <| cE rfl (aLc (k := 108) rfl tZ108 rfl rfl rfl rfl) <| c0 (sBA rfl rfl rfl rfl rfl ((fun h => h)) z5w (flk rfl) (lb rfl)) <| nL <| tQ <| tQ <| tG <| sm 2 rfl ?_
  refine cV rfl (lBP rfl rfl rfl Tryz.underlying108 rfl z5w (lb rfl) rfl trivial) <| cV rfl (zr7 (q := z3m x) key5 rfl rfl rfl rfl Tryz.underlying59 tZ3 trivial) <| sm 1 rfl <| cV rfl (z0d rfl rfl rfl) <| cV rfl (z0d rfl rfl rfl) <| sm 2 rfl <| nL <| tQ <| tG <| sm 1 rfl <| nL ?_
  refine tC rfl (fun hc35 => ?_) fun hc35 => ?_
  ·obtain ⟨y, hy⟩ := Option.isSome_iff_exists.1 hc35
   have hP : z1p tb to x = (false, tb, aPut (x.outs.headD 0) y to) := by simp [z1p, hnp, hy]
   have hy2 : (aGet (z3m x) tb.seen).getD 0 = y := by rw [hy]; rfl
   refine tQ <| tG <| sm 4 rfl <| c0 (z3u (kv := vKey (x.outs.headD 0)) rfl rfl rfl rfl rfl ((fun h => h)) Tryz.underlying60 uT3 rfl (z4g _)) <| nL <| tQ <| Tr.drop (k := 108) ?_
   refine Tr.heap (σ' := look [(102, some (.box [.mp 3001, .mp 3002, .mp 3003])), (3001, some (.map (kyEs tb.seen))), (3002, some (.map (inEs tb.nums))), (3003, some (.map (inEs (aPut (x.outs.headD 0) y to))))]) (by
     rw [<- z9l, <- hy2]
     intro j
     try simp only [look]
     by_cases h108 : 108 = j
     · subst h108; rfl
     · by_cases h102 : 102 = j
       · subst h102; rfl
       · by_cases h3001 : 3001 = j
         · subst h3001; rfl
         · by_cases h3002 : 3002 = j
           · subst h3002; rfl
           · by_cases h3003 : 3003 = j
             · subst h3003; rfl
             · simp [tH, look, up, z00 h108, z00 h102, z00 h3001, z00 h3002, z00 h3003]) ?_
   refine tG <| sm 1 rfl <| nL <| tRt ?_
   rw [hP]
   refine rOk rfl rfl (po3 rfl rfl rfl)
  have hnk : aGet (z3m x) tb.seen = none := by simpa using hc35
  have hP : z1p tb to x = (true, ⟨aPut (z3m x) (x.outs.headD 0) tb.seen, if x.kind == 1 then aPut (x.outs.headD 0) x.n tb.nums else tb.nums⟩, to) := by simp only [z1p, hnp, hnk]
  refine tSk <| tQ <| tG <| sm 2 rfl <| cV rfl (lBP rfl rfl rfl Tryz.underlying108 rfl z5w (lb rfl) rfl trivial) <| sm 1 rfl <| c0 (zi7 (q := z3m x) (v := (x.outs.headD 0)) key5 rfl rfl rfl rfl rfl ((fun h => h)) Tryz.underlying59 hnk) <| nL <| tQ <| tQ <| tG <| sm 3 rfl ?_
  refine nL ?_
  refine tC rfl (fun hc46 => ?_) fun hc46 => ?_
  ·refine tG <| sm 5 rfl <| c0 (z3u (kv := vKey (x.outs.headD 0)) rfl rfl rfl rfl rfl ((fun h => h)) Tryz.underlying60 uT3 rfl (z4g _)) <| nL <| tQ ?_
   have hk1 : (x.kind == 1) = true := hc46
   rw [hk1] at hP
   simp only [if_true] at hP
   refine Tr.drop (k := 108) ?_
   refine Tr.heap (σ' := look [(102, some (.box [.mp 3001, .mp 3002, .mp 3003])), (3001, some (.map (kyEs (aPut (z3m x) (x.outs.headD 0) tb.seen)))), (3002, some (.map (inEs (aPut (x.outs.headD 0) x.n tb.nums)))), (3003, some (.map (inEs to)))]) (by
     rw [<- z9l]
     intro j
     try simp only [look]
     by_cases h108 : 108 = j
     · subst h108; rfl
     · by_cases h102 : 102 = j
       · subst h102; rfl
       · by_cases h3001 : 3001 = j
         · subst h3001; rfl
         · by_cases h3002 : 3002 = j
           · subst h3002; rfl
           · by_cases h3003 : 3003 = j
             · subst h3003; rfl
             · simp [tH, look, up, z00 h108, z00 h102, z00 h3001, z00 h3002, z00 h3003]) ?_
   refine tG <| sm 1 rfl <| nL <| tRt ?_
   rw [hP]
   refine rOk rfl rfl (po3 rfl rfl rfl)
  refine tSk <| tQ ?_
  have hk1 : (x.kind == 1) = false := hc46
  rw [hk1] at hP
  simp only [Bool.false_eq_true, if_false] at hP
  refine Tr.drop (k := 108) ?_
  refine Tr.heap (σ' := look [(102, some (.box [.mp 3001, .mp 3002, .mp 3003])), (3001, some (.map (kyEs (aPut (z3m x) (x.outs.headD 0) tb.seen)))), (3002, some (.map (inEs tb.nums))), (3003, some (.map (inEs to)))]) (by
    skip
    intro j
    try simp only [look]
    by_cases h108 : 108 = j
    · subst h108; rfl
    · by_cases h102 : 102 = j
      · subst h102; rfl
      · by_cases h3001 : 3001 = j
        · subst h3001; rfl
        · by_cases h3002 : 3002 = j
          · subst h3002; rfl
          · by_cases h3003 : 3003 = j
            · subst h3003; rfl
            · simp [tH, look, up, z00 h108, z00 h102, z00 h3001, z00 h3002, z00 h3003]) ?_
  refine tG <| sm 1 rfl <| nL <| tRt ?_
  rw [hP]
  refine rOk rfl rfl (po3 rfl rfl rfl)
theorem sc_stKid (tb : Tb) (to : TT) : SC Tryz.prog 40 [tV] (tH tb to) (fun k => k = 3001 ∨ k = 3002 ∨ k = 3003) (.agg [.mp 3101, .mp 3102, .mp 3003]) ([(3101, .map (kyEs tb.seen)), (3102, .map (inEs tb.nums))] ++ tH tb to) := by
  refine SC.ofC Tryz.func40 rfl (lb rfl) rfl fun F ρ w => ?_
  refine tQ <| tG <| cE rfl (z4j (k := 101) rfl rfl rfl rfl rfl rfl rfl) <| cE rfl (aLc (k := 102) rfl tZ62 rfl rfl rfl rfl) <| nL <| tQ <| tDr z15 (fun k => k ∈ ([3001, 3002, 3003, 101] : List Nat)) <| wR 4 [0, 1, 3, 4, 6, 7] kR0 h30 <| smR 1 rfl <| rV rfl rfl (oLb Tryz.underlying59 rfl rfl rfl dC0) <| smR 1 rfl <| rV rfl rfl (oLb Tryz.underlying60 rfl rfl rfl dC0) ?_
  refine smR 1 rfl <| rV rfl rfl (oLb Tryz.underlying60 rfl rfl rfl dC0) <| nR <| wO 2 kR0 <| wI rfl rfl (fun k (h : _) => by (simp at h ⊢; omega)) (z10 rfl) (fun _ _ => zv2 (k2 := 3101) zk8 ent62 rfl rfl rfl rfl rfl rfl rfl) <| wO 5 kR0 <| wI rfl rfl (fun k (h : _) => by (simp at h ⊢; omega)) (z10 rfl) (fun _ _ => zv2 (k2 := 3102) zk7 ent63 rfl rfl rfl rfl rfl rfl rfl) <| wR 1 [8] kR0 h30 <| rV rfl rfl (z84 rfl rfl tZ62 tP62 rfl (z6a ⟨⟨_, rfl⟩, ⟨_, rfl⟩, ⟨_, rfl⟩, trivial⟩)) <| nR <| wO 9 kR0 <| wI rfl rfl (fun k (h : _) => by (simp at h ⊢; omega)) (nOl rfl) (fun _ _ => sBA rfl rfl rfl rfl rfl sI0 tS62 (firm3 ⟨_, rfl⟩ ⟨_, rfl⟩ ⟨_, rfl⟩) (lb rfl)) ?_
  refine wDn kR0 <| tRt <| rCk (.inl rfl) (fun _ _ ho => z1f ho rfl rfl Tryz.underlying62 rfl tS62 (lb rfl) trivial) ?_ (z1r (And.intro rfl (And.intro rfl (And.intro rfl (And.intro rfl (And.intro rfl trivial))))))
  rfl
end Go.Proofs.YthbcibeddfacbaaGreat
