/- PART 4 of 5 of a proof: see the last part. -/
import Derived.Test.YtiflpehjefhnmaaGreatWa3
set_option maxRecDepth 8000
set_option maxHeartbeats 2000000
set_option linter.unusedSimpArgs false
set_option linter.unusedVariables false
set_option linter.unusedSectionVars false
namespace Go.Proofs.YtiflpehjefhnmaaGreat
open Go
theorem sc_shNode (u : Un) (f : Fl) (hg : ∀ g ∈ u.flows, 0 ≤ g.params ∧ g.params ≤ g.types.length) (x : Nd) (deep : Int) (hd : 0 ≤ deep ∧ deep ≤ 100) (wh : Wh) (st : List Int) (hs : st.length = f.types.length) (hbo : x.outs.length ≤ 1073741824) (hbp : x.params.length ≤ 1073741824) (ih : ∀ q ∈ x.kids, ∀ (w : Wh) (st : List Int), st.length = f.types.length → SC Tryz.prog 60 [.ptr 3 0, .pv (nodes q), .pv (whv w), iInt (deep + 1)] (ckS u f 3 st) (fun k => k = 3) (iBool (shList u f (deep + 1) w st q).1) (ckS u f 3 (shList u f (deep + 1) w st q).2)) : SC Tryz.prog 84 [.ptr 3 0, .pv (ndv x), .pv (whv wh), iInt deep] (ckS u f 3 st) (fun k => k = 3) (iBool (shNode u f deep wh st x).1) (ckS u f 3 (shNode u f deep wh st x).2) := by
  refine SC.of Tryz.func84 rfl (lb rfl) fun F ρ w => ?_
  refine tQ <| tG <| cE rfl (ok_box rfl rfl) <| cE rfl (ok_box rfl rfl) <| sm 1 rfl <| nL <| tQ <| tBk <| tQ <| tG <| cV rfl (lEA rfl rfl uT43 rfl tS43 (lb rfl)) <| cE rfl (ocq (sc_shBare _) ent98 rfl rfl) ?_
  refine sm 2 rfl <| nL ?_
  refine tC rfl (fun hc9 => ?_) fun hc9 => ?_
  ·refine tQ <| tG <| sm 1 rfl <| nL <| tRt ?_
   have hbare : r8bare x = false := by simpa using hc9
   rw [shNode_bare _ _ _ _ _ hbare]
   exact rOk rfl rfl (po2 rfl rfl)
  have hbare : r8bare x = true := by simpa using hc9
  refine tQ <| tG <| sm 4 rfl <| nL ?_
  refine tC rfl (fun hc13 => ?_) fun hc13 => ?_
  ·have hk10 : x.kind = 10 := by simpa using hc13
   obtain ⟨ka, kb, hkids⟩ := r8bare_if hbare hk10
   refine tQ <| tG <| sm 1 rfl <| cV rfl (lEA rfl rfl uT43 rfl tS43 (lb rfl)) <| cV rfl (lEA rfl rfl Tryz.underlying107 rfl tS107 (lb rfl)) <| sm 1 rfl <| cV rfl (oB rfl rfl (i64_add rfl (by omega))) <| cE rfl (ocr (sc_shChoice u f st hs x ka kb hkids wh (deep + 1) hbo ih) ent99 rfl (po2 rfl rfl) rfl (fun k (h : _) => .inr h) rfl rfl) <| sm 1 rfl <| nL <| tRt ?_
   rw [shNode_if _ _ _ _ _ hbare hk10 hkids]
   exact rOk rfl rfl (po2 rfl rfl)
  refine tQ <| tG <| sm 4 rfl <| nL ?_
  refine tC rfl (fun hc23 => ?_) fun hc23 => ?_
  ·have hk11 : x.kind = 11 := by simpa using hc23
   obtain ⟨ka, hkids⟩ := r8bare_loop hbare hk11
   refine tQ <| tG <| sm 1 rfl <| cV rfl (lEA rfl rfl uT43 rfl tS43 (lb rfl)) <| sm 1 rfl <| cV rfl (oB rfl rfl (i64_add rfl (by omega))) <| cE rfl (ocr (sc_shLoop u f st hs x ka hkids (deep + 1) hbo hbp ih) ent100 rfl (po2 rfl rfl) rfl (fun k (h : _) => .inr h) rfl rfl) <| sm 1 rfl <| nL <| tRt ?_
   rw [shNode_loop _ _ _ _ _ hbare hk11 hkids]
   exact rOk rfl rfl (po2 rfl rfl)
  refine tQ <| tG <| cV rfl (lEA rfl rfl uT43 rfl tS43 (lb rfl)) <| cE rfl (ocq (sc_shEnds _) ent101 rfl rfl) <| sm 1 rfl <| nL ?_
  refine tC rfl (fun hc32 => ?_) fun hc32 => ?_
  ·refine tQ <| tG <| sm 1 rfl <| cV rfl (lEA rfl rfl uT43 rfl tS43 (lb rfl)) <| cV rfl (lEA rfl rfl Tryz.underlying107 rfl tS107 (lb rfl)) <| cE rfl (ocr (sc_shEnd u f st hs x wh) ent102 rfl (po2 rfl rfl) rfl (fun k (h : _) => .inr h) rfl rfl) <| sm 1 rfl <| nL <| tRt ?_
   rw [shNode_end _ _ _ _ _ hbare hc13 hc23 hc32]
   exact rOk rfl rfl (po2 rfl rfl)
  refine tSk <| tQ <| tG <| sm 1 rfl <| cV rfl (lEA rfl rfl uT43 rfl tS43 (lb rfl)) <| cE rfl (ocr (sc_shSimple u f st hs hg x) ent103 rfl (po2 rfl rfl) rfl (fun k (h : _) => .inr h) rfl rfl) <| sm 1 rfl <| nL <| tRt ?_
  rw [shNode_simple _ _ _ _ _ hbare hc13 hc23 hc32]
  exact rOk rfl rfl (po2 rfl rfl)
theorem sc_shList_aux (N : Nat) : ∀ (u : Un) (f : Fl) (hg : ∀ g ∈ u.flows, 0 ≤ g.params ∧ g.params ≤ g.types.length) (l : List Nd) (deep : Int) (hd : 0 ≤ deep ∧ deep ≤ 101) (wh : Wh) (st : List Int) (hs : st.length = f.types.length) (hb : lsW l ≤ 1073741824), SizeOf.sizeOf l < N → SC Tryz.prog 60 [.ptr 3 0, .pv (nodes l), .pv (whv wh), iInt deep] (ckS u f 3 st) (fun k => k = 3) (iBool (shList u f deep wh st l).1) (ckS u f 3 (shList u f deep wh st l).2) := by
  induction N with
  | zero => intro u f hg l deep hd wh st hs hb hN; exact absurd hN (Nat.not_lt_zero _)
  | succ N ih =>
    intro u f hg l deep hd wh st hs hb hN
    refine SC.of Tryz.func60 rfl (lb rfl) fun F ρ w => ?_
    refine Tr.lenOf (t := 1) rfl (fun hl => ?_)
    simp only [List.length_map] at hl
    refine tQ <| tG <| cE rfl (ok_box rfl rfl) <| sm 1 rfl <| nL <| tQ <| tQ <| tG <| sm 1 rfl <| cV rfl (oSm uT44 rfl) <| sm 1 rfl <| nL ?_
    refine tBk <| Tr.sub (Sub.of (fr' := [(15, iInt 0), (14, iInt l.length), (13, .pv (nodes l)), (6, .pv (.ept [vBool wh.If, vBool wh.Loop, ints wh.Yield, ints wh.Next, ints wh.Left] 0)), (0, .ptr 3 0), (1, .pv (nodes l)), (3, iInt deep)]) ⟨rfl, rfl, rfl, rfl, rfl, rfl, rfl, trivial⟩) ?_
    refine Tr.loop (fun fr σ m => ∃ (k : Nat) (s : List Int), (k ≤ l.length) ∧ (shGo u f deep wh st l = shGo u f deep wh s (l.drop k)) ∧ (s.length = f.types.length) ∧ fr = [(15, iInt k), (14, iInt l.length), (13, .pv (nodes l)), (6, .pv (.ept [vBool wh.If, vBool wh.Loop, ints wh.Yield, ints wh.Next, ints wh.Left] 0)), (0, .ptr 3 0), (1, .pv (nodes l)), (3, iInt deep)] ∧ σ = look (up (ckS u f 3 s)) ∧ m = l.length - k) (n := l.length - 0) ?_ ?_
    ·exact ⟨0, st, Nat.zero_le _, rfl, hs, rfl, rfl, rfl⟩
    rintro fr σ m ⟨k, s, hI0, hI1, hI2, rfl, rfl, rfl⟩
    refine tQ <| tG <| sm 1 rfl <| nL <| tQ ?_
    refine tC rfl (fun hc16 => ?_) fun hc16 => ?_
    ·have hlt : k < l.length := by simpa using hc16
     have hd2 := List.drop_eq_getElem_cons hlt
     have hm := List.getElem_mem hlt
     have hi := nodes_get (List.getElem?_eq_getElem hlt)
     generalize l[k] = x at hd2 hm hi
     have hWx := ndW_eq x
     have hWl := ndW_mem hm
     have hxo : x.outs.length ≤ 1073741824 := by omega
     have hxp : x.params.length ≤ 1073741824 := by omega
     refine tSk <| tQ <| tBk <| tQ <| tG <| sm 1 rfl <| cV rfl (iSq rfl rfl rfl uT44 hi tS43 rfl (by rfl)) <| cV rfl (lEA rfl rfl uT43 rfl tS43 (lb rfl)) <| cE rfl (aLc (k := 110) rfl tZ43 rfl rfl rfl rfl) <| sm 1 rfl <| c0 (sBA rfl rfl rfl rfl rfl (by simp) tS43 (flk rfl) (lb rfl)) <| nL ?_
     refine tQ <| Tr.freezeBox (t := 10) (k := 110) rfl rfl rfl ?_
     refine Tr.heap (σ' := look (up (ckS u f 3 s))) (fun k => by
       simp only [look]
       by_cases h : 110 = k
       · subst h; rfl
       · simp [beq_ne h]) ?_
     refine tG <| sm 3 rfl ?_
     refine wS 22 rfl (fun hb22 => ?_) fun hb22 => ?_
     ·refine sm 17 rfl <| nL <| Tr.condT rfl <| tQ <| tG <| sm 1 rfl <| nL <| tRt ?_
      (have h2 : shList u f deep wh st l = (false, s) := by
         unfold shList
         rw [hI1, hd2]
         unfold shGo
         rw [if_pos (by simpa using hb22)]
         simp [andQ]
       rw [h2]
       exact rOk rfl rfl (po2 rfl rfl))
     refine sm 1 rfl <| yV rfl rfl (lEA rfl rfl uT43 rfl tS43 (lb rfl)) <| yV rfl rfl (lEA rfl rfl Tryz.underlying107 rfl tS107 (lb rfl)) <| sm 1 rfl <| WL.yes rfl rfl rfl rfl rfl rfl (cRr (sc_shNode u f hg x deep ⟨hd.1, by simp at hb22; omega⟩ wh s hI2 hxo hxp (fun q hq w st hst => ih u f hg q (deep + 1) ⟨by omega, by simp at hb22; omega⟩ w st hst (by have := kdW_mem hq; omega) (Nat.lt_of_lt_of_le (kid_lt hm rfl hq) (Nat.le_of_lt_succ hN)))) ent84 rfl rfl (sRf _ _) (po2 rfl rfl) (by rfl) (fun k (h : _) => .inr h) rfl (by rfl)) <| sm 3 rfl ?_
     refine wS 30 rfl (fun hb30 => ?_) fun hb30 => ?_
     ·refine sm 9 rfl <| nL <| Tr.condT rfl <| tQ <| tG <| sm 1 rfl <| nL <| tRt ?_
      (have h2 : shList u f deep wh st l = (false, (shNode u f deep wh s x).2) := by
         unfold shList
         rw [hI1, hd2]
         unfold shGo
         rw [if_neg (by simpa using hb22)]
         have hn1 : (shNode u f deep wh s x).1 = false := by simpa using hb30
         simp [andQ, hn1]
       rw [h2]
       exact rOk rfl rfl (po2 rfl rfl))
     refine yV rfl rfl (lEA rfl rfl uT43 rfl tS43 (lb rfl)) <| WL.yes rfl rfl rfl rfl rfl rfl (ok_callq (sc_shClosed x) ent85 rfl rfl (sRf _ _) rfl) <| sm 2 rfl <| yV rfl rfl (oSm uT44 rfl) <| yV rfl rfl (oB rfl rfl (i64_sub rfl (by omega))) <| sm 1 rfl <| yV rfl rfl (ok_neq_bool rfl rfl rfl Tryz.underlying4) <| sm 1 rfl <| nL ?_
     refine tC rfl (fun hc39 => ?_) fun hc39 => ?_
     ·refine tQ <| tG <| sm 1 rfl <| nL <| tRt ?_
      (have h2 : shList u f deep wh st l = (false, (shNode u f deep wh s x).2) := by
         unfold shList
         rw [hI1, hd2]
         unfold shGo
         rw [if_neg (by simpa using hb22)]
         have hn1 : (shNode u f deep wh s x).1 = true := by simpa using hb30
         have hcl : (r8Closed x != (l.drop (k + 1)).isEmpty) = true := by rw [drop_isEmpty hlt]; simpa using hc39
         simp [andQ, hn1, hcl]
       rw [h2]
       exact rOk rfl rfl (po2 rfl rfl))
     refine tSk <| tG <| cV rfl (oB rfl rfl (i64_add rfl (by omega))) <| sm 1 rfl <| nL ?_
     refine ⟨_, _, ?_, Sub.of (fr' := [(15, iInt (k + 1)), (14, iInt l.length), (13, .pv (nodes l)), (6, .pv (.ept [vBool wh.If, vBool wh.Loop, ints wh.Yield, ints wh.Next, ints wh.Left] 0)), (0, .ptr 3 0), (1, .pv (nodes l)), (3, iInt deep)]) ⟨rfl, rfl, rfl, rfl, rfl, rfl, rfl, trivial⟩, (k + 1), (shNode u f deep wh s x).2, ?_, ?_, ?_, rfl, (look_app_same rfl), rfl⟩
     ·omega
     ·omega
     ·rw [hI1, hd2]
      have hn1 : (shNode u f deep wh s x).1 = true := by simpa using hb30
      have hcl : (r8Closed x != (l.drop (k + 1)).isEmpty) = false := by rw [drop_isEmpty hlt]; simpa using hc39
      have hdp : ¬ deep > 100 := by simpa using hb22
      conv => lhs; unfold shGo
      simp only [if_neg hdp, andQ, hn1, hcl, if_true]
      rfl
     exact (shNode_length ..).trans hI2
    refine tEx <| tQ <| tQ ?_
    have hgo2 : shGo u f deep wh st l = (true, s) := by rw [hI1, List.drop_eq_nil_of_le (by simpa using hc16)]; simp [shGo]
    have hgo : (shGo u f deep wh st l).1 = true := by rw [hgo2]
    have hs0 := hI2
    generalize s = s0 at hgo2 hs0 ⊢
    refine tG <| sm 1 rfl <| cV rfl (oSm uT44 rfl) <| sm 1 rfl <| nL <| tBk <| Tr.sub (Sub.of (fr' := [(43, iInt 0), (42, iInt l.length), (41, .pv (nodes l)), (0, .ptr 3 0), (1, .pv (nodes l))]) ⟨rfl, rfl, rfl, rfl, rfl, trivial⟩) ?_
    refine Tr.loop (fun fr σ m => ∃ (k : Nat) (s : List Int), (k ≤ l.length) ∧ (shHideAll s0 l = shHideAll s (l.drop k)) ∧ (s.length = f.types.length) ∧ fr = [(43, iInt k), (42, iInt l.length), (41, .pv (nodes l)), (0, .ptr 3 0), (1, .pv (nodes l))] ∧ σ = look (up (ckS u f 3 s)) ∧ m = l.length - k) (n := l.length - 0) ?_ ?_
    ·exact ⟨0, s0, Nat.zero_le _, rfl, hs0, rfl, rfl, rfl⟩
    rintro fr σ m ⟨k, s, hJ0, hJ1, hJ2, rfl, rfl, rfl⟩
    refine tQ <| tG <| sm 1 rfl <| nL <| tQ ?_
    refine tC rfl (fun hc44 => ?_) fun hc44 => ?_
    ·have hlt : k < l.length := by simpa using hc44
     have hd2 := List.drop_eq_getElem_cons hlt
     have hm := List.getElem_mem hlt
     have hi := nodes_get (List.getElem?_eq_getElem hlt)
     generalize l[k] = x at hd2 hm hi
     refine tSk <| tQ <| tBk <| tQ <| tG <| cV rfl (iSq rfl rfl rfl uT44 hi tS43 rfl (by rfl)) <| cV rfl (lEA rfl rfl uT43 rfl tS43 (lb rfl)) <| cE rfl (aLc (k := 112) rfl tZ43 rfl rfl rfl rfl) <| c0 (sBA rfl rfl rfl rfl rfl (by simp) tS43 (flk rfl) (lb rfl)) <| nL <| Tr.freezeBox (t := 12) (k := 112) rfl rfl rfl ?_
     refine Tr.heap (σ' := look (up (ckS u f 3 s))) (fun k => by
       simp only [look]
       by_cases h : 112 = k
       · subst h; rfl
       · simp [beq_ne h]) ?_
     refine tG <| sm 3 rfl <| cE rfl (ocr (sc_shHide u f s hJ2 x.outs (shGo_outs hgo x hm)) ent86 rfl (po2 rfl rfl) rfl (fun k (h : _) => .inr h) rfl rfl) <| nL <| tG <| cV rfl (oB rfl rfl (i64_add rfl (by omega))) <| sm 1 rfl <| nL ?_
     refine ⟨_, _, ?_, Sub.of (fr' := [(43, iInt (k + 1)), (42, iInt l.length), (41, .pv (nodes l)), (0, .ptr 3 0), (1, .pv (nodes l))]) ⟨rfl, rfl, rfl, rfl, rfl, trivial⟩, (k + 1), (shHide s x.outs), ?_, ?_, ?_, rfl, (look_app_same rfl), rfl⟩
     ·omega
     ·omega
     ·rw [hJ1, hd2]; rfl
     exact (shHide_length ..).trans hJ2
    refine tEx <| tQ <| tG <| sm 1 rfl <| cV rfl (oSm uT44 rfl) <| sm 2 rfl <| nL <| tRt ?_
    have hge : l.length ≤ k := by simpa using hc44
    have h2 : shList u f deep wh st l = (decide ((l.length : Int) > 0), s) := by
      unfold shList
      rw [hgo2]
      simp only [andQ, if_true, shFin, hJ1, List.drop_eq_nil_of_le hge]
      rfl
    rw [h2]
    exact rOk rfl rfl (po2 rfl rfl)
theorem sc_shList (u : Un) (f : Fl) (hg : ∀ g ∈ u.flows, 0 ≤ g.params ∧ g.params ≤ g.types.length) (l : List Nd) (deep : Int) (hd : 0 ≤ deep ∧ deep ≤ 101) (wh : Wh) (st : List Int) (hs : st.length = f.types.length) (hb : lsW l ≤ 1073741824) : SC Tryz.prog 60 [.ptr 3 0, .pv (nodes l), .pv (whv wh), iInt deep] (ckS u f 3 st) (fun k => k = 3) (iBool (shList u f deep wh st l).1) (ckS u f 3 (shList u f deep wh st l).2) := sc_shList_aux _ u f hg l deep hd wh st hs hb (Nat.lt_succ_self _)
def seens (k n : Nat) : List Int := List.replicate k 1 ++ List.replicate (n - k) 0
def shFlow (u : Un) (f : Fl) : Bool := !(decide (f.params > 8) || decide ((f.types.length : Int) > 20000) || f.types.any (fun t => !isTy t)) && (shList u f 1 r8where0 (seens f.params.toNat f.types.length) f.body).1
theorem seens_length {k n : Nat} (h : k ≤ n) : (seens k n).length = n := by simp [seens]; omega
theorem seens_set {k n : Nat} (h : k < n) : (seens k n).set k 1 = seens (k + 1) n := by
  unfold seens
  rw [List.set_append_right _ _ (by simp), List.length_replicate, Nat.sub_self]
  have : n - k = (n - (k + 1)) + 1 := by omega
  rw [this, List.replicate_succ, List.set_cons_zero, List.replicate_succ', List.append_assoc]
  rfl
def bump (s : ByteArray) (es : List (Value × PV)) : List (Value × PV) :=
  mput (.string s) (match mfind (.string s) es with | some (.val (.int .i64 n)) => .val (.int .i64 (IntKind.i64.wrap (n + 1))) | _ => .val (.int .i64 1)) es
def shArr (a : Ar) : Bool := isName a.name && !decide (a.size < 1) && !decide (a.size > 1000)
def shFlw (f : Fl) : Bool := isName f.name && isTy f.ty && !decide (f.params < 0) && !decide (f.params > f.types.length)
def countA (es : List (Value × PV)) (l : List Ar) : List (Value × PV) := l.foldl (fun e a => bump a.name e) es
def countF (es : List (Value × PV)) (l : List Fl) : List (Value × PV) := l.foldl (fun e a => bump a.name e) es
def shHead (u : Un) : Bool := u.arrays.all shArr && u.flows.all shFlw && ((countF (countA [] u.arrays) u.flows).length : Int) == u.arrays.length + u.flows.length && r8main u
def shflows (u : Un) : List Fl → Int → Int × Int
  | [], _ => (0, 0)
  | f :: r, i => if shFlow u f then shflows u r (i + 1) else (80, i)
def shCheck (u : Un) : Int × Int := if shHead u then shflows u u.flows 0 else (1, 0)
theorem shHead_params {u : Un} (h : shHead u = true) : ∀ g ∈ u.flows, 0 ≤ g.params ∧ g.params ≤ g.types.length := by
  simp only [shHead, Bool.and_eq_true, List.all_eq_true] at h
  intro g hg
  have := h.1.1.2 g hg
  simp only [shFlw, Bool.and_eq_true, Bool.not_eq_true', decide_eq_false_iff_not] at this
  omega
theorem sc_shFlow (u : Un) (f : Fl) (hg : ∀ g ∈ u.flows, 0 ≤ g.params ∧ g.params ≤ g.types.length) (hp : 0 ≤ f.params ∧ f.params ≤ f.types.length) (hb : lsW f.body ≤ 536870912) : SC Tryz.prog 38 [.pv u.enc, .pv (.agg f.enc)] [] (fun _ => False) (iBool (shFlow u f)) [] := by
  refine SC.of Tryz.func38 rfl (lb rfl) fun F ρ w => ?_
  refine tQ <| tG <| cE rfl (ok_box rfl rfl) <| cE rfl (ok_box rfl rfl) <| sm 1 rfl <| nL <| tQ <| tQ <| tG <| sm 4 rfl ?_
  refine wS 10 rfl (fun hb10 => ?_) fun hb10 => ?_
  ·refine sm 10 rfl <| nL <| Tr.condT rfl <| tQ <| tG <| sm 1 rfl <| nL <| tRt <| rOk rfl ?_ nPo
   have hno : (decide (f.params > 8) || decide ((f.types.length : Int) > 20000) || f.types.any (fun t => !isTy t)) = true := by
     simp_all
   simp only [shFlow, hno, Bool.not_true, Bool.false_and]
  refine sm 2 rfl <| yV rfl rfl (oSm uT35 rfl) <| sm 3 rfl ?_
  refine wS 16 rfl (fun hb16 => ?_) fun hb16 => ?_
  ·refine sm 4 rfl <| nL <| Tr.condT rfl <| tQ <| tG <| sm 1 rfl <| nL <| tRt <| rOk rfl ?_ nPo
   have hno : (decide (f.params > 8) || decide ((f.types.length : Int) > 20000) || f.types.any (fun t => !isTy t)) = true := by
     simp_all
   simp only [shFlow, hno, Bool.not_true, Bool.false_and]
  refine sm 2 rfl <| WL.yes rfl rfl rfl rfl rfl rfl (ok_callq (sc_has_int 59 [] [] rfl ent59 (fun t => !isTy t) f.types (fun x hm => (sc_flow1 x).anyR)) ent58 rfl rfl (sSm rfl (Subs.cons (fun _ _ _ _ h => sub_func h) Subs.nil)) rfl) <| sm 1 rfl <| nL ?_
  refine tC rfl (fun hc20 => ?_) fun hc20 => ?_
  ·refine tQ <| tG <| sm 1 rfl <| nL <| tRt <| rOk rfl ?_ nPo
   have hno : (decide (f.params > 8) || decide ((f.types.length : Int) > 20000) || f.types.any (fun t => !isTy t)) = true := by
     simp_all
   simp only [shFlow, hno, Bool.not_true, Bool.false_and]
  ·have hpar : f.params ≤ 8 ∧ f.types.length ≤ 20000 := by
     (simp_all <;> omega)
   have hpt : f.params.toNat ≤ f.types.length := by omega
   have hpi : f.params = (f.params.toNat : Int) := by omega
   have hno : (decide (f.params > 8) || decide ((f.types.length : Int) > 20000) || f.types.any (fun t => !isTy t)) = false := by
     clear hpi
     simp_all
   refine tSk <| tQ <| tDr mixed (fun k => k < 3) <| wR 4 [0, 1, 2, 3, 4] (by kernel_rfl) (fun _ _ _ h => h) <| rV rfl rfl (lEA rfl rfl uT25 rfl tS25 (lb rfl)) <| rV rfl rfl (lEA rfl rfl Tryz.underlying51 rfl tS51 (lb rfl)) <| smR 2 rfl <| rV rfl rfl (oSm uT35 rfl) <| nR <| wO 5 (by kernel_rfl) <| wI rfl rfl nf (new_one rfl) (fun _ _ => ok_makeSlice (k := 4) (s := ⟨3, 1⟩) rfl rfl rfl uT35 tZ3 tC3 rfl (by decide) (by omega) (by omega) rfl rfl rfl rfl) <| wR 2 [6] (by kernel_rfl) (fun _ _ _ h => h) ?_
   refine rV rfl rfl (by exact ok_build rfl rfl tZ104 tP104 rfl (firmHp_ok (by (simp [firmHp, firm1, look, PV.one]; exact ⟨_, _, ⟨rfl, rfl⟩, by simp⟩)))) <| nR <| wO 7 (by kernel_rfl) <| wI rfl rfl nf (new_one rfl) (fun _ _ => ok_boxOwn (k := 3) rfl rfl rfl rfl rfl rfl rfl) <| wR 0 [8] (by kernel_rfl) (fun _ _ _ h => h) <| smR 1 rfl <| nR <| wDn (by kernel_rfl) <| tQ <| tQ <| tG <| sm 3 rfl ?_
   refine nL <| tBk <| Tr.sub (Sub.of (fr' := [(31, iInt 0), (30, iInt f.params), (5, .ptr 3 0), (2, .pv (.ept [arrs u.arrays, flws u.flows] 0)), (3, .pv (.ept [vStr f.name, vInt f.ty, vInt f.params, ints f.types, nodes f.body] 0))]) ⟨rfl, rfl, rfl, rfl, rfl, trivial⟩) ?_
   refine Tr.heap (σ' := look (up (ckS u f 3 (seens 0 f.types.length)))) (fun k => by
  rw [show (seens 0 f.types.length) = List.replicate f.types.length 0 by simp [seens]]
  simp only [ckS, up, List.map_cons, List.map_nil, look, List.length_map, List.length_replicate, List.map_replicate]
  by_cases h3 : 3 = k
  · subst h3; rfl
  · by_cases h4 : 4 = k
    · subst h4; rfl
    · simp [beq_ne h3, beq_ne h4]) ?_
   refine Tr.loop (fun fr σ m => ∃ (k : Nat), (k ≤ f.params.toNat) ∧ fr = [(31, iInt k), (30, iInt f.params), (5, .ptr 3 0), (2, .pv (.ept [arrs u.arrays, flws u.flows] 0)), (3, .pv (.ept [vStr f.name, vInt f.ty, vInt f.params, ints f.types, nodes f.body] 0))] ∧ σ = look (up (ckS u f 3 (seens k f.types.length))) ∧ m = f.params.toNat - k) (n := f.params.toNat - 0) ?_ ?_
   ·exact ⟨0, Nat.zero_le _, rfl, rfl, rfl⟩
   rintro fr σ m ⟨k, hI0, rfl, rfl, rfl⟩
   refine tQ <| tG <| sm 1 rfl <| nL <| tQ ?_
   refine tC rfl (fun hc32 => ?_) fun hc32 => ?_
   ·have hkp : k < f.params.toNat := by simp at hc32; omega
    have hkt : k < f.types.length := by omega
    have hst : ((seens k f.types.length).map eInt)[k]? = some [vInt 0] := by
      rw [List.getElem?_map]
      simp only [seens]
      rw [List.getElem?_append_right (by simp)]
      simp [List.getElem?_replicate, eInt]
      omega
    have hstl : k < ((seens k f.types.length).map eInt).length := by rw [List.length_map, seens_length (by omega)]; exact hkt
    refine tSk <| tQ <| tBk <| tQ <| tG <| sm 2 rfl <| nL <| tG <| sm 1 rfl <| cV rfl (nCk rfl rfl rfl) <| sm 3 rfl <| cV rfl (iRw rfl rfl rfl rfl rfl uT35 tS3 (by assumption) (by rfl)) ?_
    refine c0 (ok_store_row rfl rfl rfl rfl rfl (Nat.add_zero _).symm (by assumption) (by simp) tS3 rfl ((fun h => h))) <| nL <| tG <| cV rfl (oB rfl rfl (i64_add rfl (by omega))) <| sm 1 rfl <| nL ?_
    refine ⟨_, _, ?_, Sub.of (fr' := [(31, iInt (k + 1)), (30, iInt f.params), (5, .ptr 3 0), (2, .pv (.ept [arrs u.arrays, flws u.flows] 0)), (3, .pv (.ept [vStr f.name, vInt f.ty, vInt f.params, ints f.types, nodes f.body] 0))]) ⟨rfl, rfl, rfl, rfl, rfl, trivial⟩, (k + 1), ?_, rfl, (by rw [← seens_set hkt]; exact funext ckS_set), rfl⟩
    all_goals omega
   refine tEx <| tQ ?_
   have hkp : k = f.params.toNat := by simp at hc32; omega
   subst hkp
   refine tG <| sm 3 rfl <| cV rfl (bPu rfl rfl tZ107 tP107 rfl (fbk rfl) rfl) <| cE rfl (cRr (sc_shList u f hg f.body 1 ⟨by omega, by omega⟩ r8where0 (seens f.params.toNat f.types.length) (seens_length hpt) (by omega)) ent60 rfl rfl (sSm rfl (sSm rfl (Subs.cons (fun _ _ _ _ h => sub_pv (q := whv r8where0) (PSub.agg (ps := [vBool false, vBool false, .val (.slice none 0 0), .val (.slice none 0 0), .val (.slice none 0 0)]) (And.intro (PSub.refl _) (And.intro (PSub.refl _) (And.intro PSub.nil (And.intro PSub.nil (And.intro PSub.nil trivial)))))) h) (sSm rfl Subs.nil)))) (po2 rfl rfl) (by rfl) (fun k (h : _) => (show False from h).elim) rfl (by rfl)) <| sm 1 rfl <| nL <| tRt <| rOk rfl ?_ nPo
   simp only [shFlow, hno, Bool.not_false, Bool.true_and]
theorem takeWhile_len {α : Type} {p : α → Bool} : ∀ {l : List α} {k : Nat} {x : α}, (l.take k).all p = true → l[k]? = some x → p x = false → (l.takeWhile p).length = k ∧ l.all p = false
  | [], k, x, _, h, _ => by simp at h
  | a :: r, 0, x, _, h, hx => by
    simp only [List.getElem?_cons_zero, Option.some.injEq] at h
    subst h
    simp [hx]
  | a :: r, k + 1, x, h, hg, hx => by
    simp only [List.take_succ_cons, List.all_cons, Bool.and_eq_true] at h
    obtain ⟨h1, h2⟩ := takeWhile_len h.2 (by simpa using hg) hx
    simp [h.1, h1, h2]
def runOf (s : ByteArray) : ByteArray := if s.toList.all isLD then s else s.extract 0 (s.toList.takeWhile isLD).length
theorem runOf_at {s : ByteArray} {k : Nat} {b : UInt8} (h : (s.toList.take k).all isLD = true) (hb : s.toList[k]? = some b) (hn : isLD b = false) : runOf s = s.extract 0 k := by
  obtain ⟨h1, h2⟩ := takeWhile_len h hb hn
  simp [runOf, h1, h2]
theorem runOf_eq (s : ByteArray) : ((runOf s).toList == s.toList) = s.toList.all isLD := by
  unfold runOf
  cases h : s.toList.all isLD with
  | true => simp
  | false =>
    simp only [Bool.false_eq_true, if_false]
    have hlt : (s.toList.takeWhile isLD).length < s.toList.length := by
      rcases Nat.lt_or_ge (s.toList.takeWhile isLD).length s.toList.length with h1 | h1
      ·exact h1
      have hp := List.takeWhile_prefix (l := s.toList) isLD
      have he := hp.eq_of_length_le h1
      have : s.toList.all isLD = true := by rw [← he]; exact List.all_takeWhile
      rw [h] at this; cases this
    have hne : (s.extract 0 (s.toList.takeWhile isLD).length).toList ≠ s.toList := by
      intro he
      have := congrArg List.length he
      rw [ba_len, ByteArray.size_extract, ba_len] at this
      rw [ba_len] at hlt
      omega
    simpa using hne
theorem decode_low {s : ByteArray} {k : Nat} (h : k < s.toList.length) : ((s.toList[k]).toNat < 128 → Utf8.decode s k = ((s.toList[k]).toNat, 1)) ∧ (128 ≤ (s.toList[k]).toNat → 128 ≤ (Utf8.decode s k).1) := by
  have hk : k < s.size := by rwa [ba_len] at h
  have e0 : s.get! (k + 0) = s.toList[k] := by
    have h2 := ba_get h
    rw [getElem?_pos s k hk] at h2
    rw [← Option.some.inj h2]
    show s.get! k = _
    simp [ByteArray.get!, getElem!_pos, hk]
    rfl
  refine ⟨fun hb => ?_, fun hb => ?_⟩
  ·simp only [Utf8.decode, e0, hb, if_true]
  have hn : ¬ (s.toList[k]).toNat < 128 := by omega
  simp only [Utf8.decode, e0]
  rw [if_neg (by simpa using hn)]
  repeat' split
  all_goals first
    | (simp [Utf8.runeError]; done)
    | (rename_i hc; simp only [ge_iff_le, Bool.and_eq_true, decide_eq_true_eq] at hc; simp only; omega)
def isLDr (r : Int) : Bool := isLetter r || isDigit r
theorem isLDr_low {r : Int} (h : isLDr r = true) : r < 128 := by
  simp only [isLDr, isLetter, isDigit, Bool.or_eq_true, Bool.and_eq_true, decide_eq_true_eq, beq_iff_eq] at h
  omega
theorem decode_ld {s : ByteArray} {k : Nat} (h : k < s.toList.length) : (isLDr (Utf8.decode s k).1 = true → (Utf8.decode s k).2 = 1 ∧ isLD s.toList[k] = true) ∧ (isLDr (Utf8.decode s k).1 = false → isLD s.toList[k] = false) := by
  obtain ⟨h1, h2⟩ := decode_low h
  by_cases hb : (s.toList[k]).toNat < 128
  ·rw [h1 hb]
   exact ⟨fun h => ⟨rfl, h⟩, fun h => h⟩
  have h3 := h2 (by omega)
  refine ⟨fun hl => ?_, fun _ => ?_⟩
  ·have := isLDr_low hl; omega
  cases hd : isLD s.toList[k] with
  | false => rfl
  | true => have := isLDr_low (r := ((s.toList[k]).toNat : Int)) hd; omega
theorem sc_tkLetter (n : Int) : SC Tryz.prog 78 [.pv (.val (.int .i32 n))] [] (fun _ => False) (iBool (isLetter n)) [] := by
  refine SC.of Tryz.func78 rfl (lb rfl) fun F ρ w => ?_
  refine tQ <| tG <| sm 1 rfl <| nL <| tQ <| tG <| sm 3 rfl ?_
  refine wS 5 rfl (fun hb5 => ?_) fun hb5 => ?_
  ·refine sm 4 rfl ?_
   refine wS 9 rfl (fun hb9 => ?_) fun hb9 => ?_
   ·refine sm 3 rfl <| nUu rfl rfl rfl rfl rfl rfl <| nUu rfl rfl rfl rfl rfl rfl <| sm 7 rfl <| nL <| tRt <| rOk rfl ?_ nPo
    unfold isLetter
    first | (simp_all; done) | (simp_all <;> omega)
   refine sm 3 rfl ?_
   refine wS 12 rfl (fun hb12 => ?_) fun hb12 => ?_
   ·refine sm 5 rfl ?_
    refine wS 17 rfl (fun hb17 => ?_) fun hb17 => ?_
    ·refine sm 4 rfl <| nL <| tRt <| rOk rfl ?_ nPo
     unfold isLetter
     first | (simp_all; done) | (simp_all <;> omega)
    refine sm 4 rfl <| nL <| tRt <| rOk rfl ?_ nPo
    unfold isLetter
    first | (simp_all; done) | (simp_all <;> omega)
   refine sm 9 rfl <| nL <| tRt <| rOk rfl ?_ nPo
   unfold isLetter
   first | (simp_all; done) | (simp_all <;> omega)
  refine sm 7 rfl ?_
  refine wS 12 rfl (fun hb12 => ?_) fun hb12 => ?_
  ·refine sm 5 rfl ?_
   refine wS 17 rfl (fun hb17 => ?_) fun hb17 => ?_
   ·refine sm 4 rfl <| nL <| tRt <| rOk rfl ?_ nPo
    unfold isLetter
    first | (simp_all; done) | (simp_all <;> omega)
   refine sm 4 rfl <| nL <| tRt <| rOk rfl ?_ nPo
   unfold isLetter
   first | (simp_all; done) | (simp_all <;> omega)
  refine sm 9 rfl <| nL <| tRt <| rOk rfl ?_ nPo
  unfold isLetter
  first | (simp_all; done) | (simp_all <;> omega)
theorem sc_tkDigit (n : Int) : SC Tryz.prog 97 [.pv (.val (.int .i32 n))] [] (fun _ => False) (iBool (isDigit n)) [] := by
  refine SC.of Tryz.func97 rfl (lb rfl) fun F ρ w => ?_
  refine tQ <| tG <| sm 1 rfl <| nL <| tQ <| tG <| sm 3 rfl ?_
  refine wS 5 rfl (fun hb5 => ?_) fun hb5 => ?_
  ·refine sm 4 rfl <| nL <| tRt <| rOk rfl ?_ nPo
   unfold isDigit
   first | (simp_all; done) | (simp_all <;> omega)
  refine sm 4 rfl <| nL <| tRt <| rOk rfl ?_ nPo
  unfold isDigit
  first | (simp_all; done) | (simp_all <;> omega)
theorem sc_tkWord (s : ByteArray) : SC Tryz.prog 80 [iStr s] [] (fun _ => False) (iBool (isWord s)) [] := by
  refine SC.of Tryz.func80 rfl (lb rfl) fun F ρ w => ?_
  refine tQ <| tG <| sm 1 rfl <| nL <| tQ <| tQ <| tG <| sm 1 rfl <| nL <| tBk <| tQ <| tQ ?_
  refine tG <| cV rfl (bSt rfl rfl rfl rfl) <| sm 1 rfl <| nL ?_
  refine tC rfl (fun hc4 => ?_) fun hc4 => ?_
  ·refine tSk ?_
   refine tC rfl (fun hc4 => ?_) fun hc4 => ?_
   ·refine tQ <| tG <| sm 1 rfl <| nL <| tRt <| rOk rfl ?_ nPo
    refine congrArg (fun b => iBool b) ?_
    simp_all [isWord]
   refine tSk <| tQ <| tG <| sm 1 rfl <| nL <| tRt <| rOk rfl ?_ nPo
   refine congrArg (fun b => iBool b) ?_
   simp_all [isWord]
  refine tQ <| tG <| cV rfl (bSt rfl rfl rfl rfl) <| sm 1 rfl <| nL ?_
  refine tC rfl (fun hc4 => ?_) fun hc4 => ?_
  ·refine tSk ?_
   refine tC rfl (fun hc4 => ?_) fun hc4 => ?_
   ·refine tQ <| tG <| sm 1 rfl <| nL <| tRt <| rOk rfl ?_ nPo
    refine congrArg (fun b => iBool b) ?_
    simp_all [isWord]
   refine tSk <| tQ <| tG <| sm 1 rfl <| nL <| tRt <| rOk rfl ?_ nPo
   refine congrArg (fun b => iBool b) ?_
   simp_all [isWord]
  refine tQ <| tG <| cV rfl (bSt rfl rfl rfl rfl) <| sm 1 rfl <| nL ?_
  refine tC rfl (fun hc4 => ?_) fun hc4 => ?_
  ·refine tSk ?_
   refine tC rfl (fun hc4 => ?_) fun hc4 => ?_
   ·refine tQ <| tG <| sm 1 rfl <| nL <| tRt <| rOk rfl ?_ nPo
    refine congrArg (fun b => iBool b) ?_
    simp_all [isWord]
   refine tSk <| tQ <| tG <| sm 1 rfl <| nL <| tRt <| rOk rfl ?_ nPo
   refine congrArg (fun b => iBool b) ?_
   simp_all [isWord]
  refine tQ <| tG <| cV rfl (bSt rfl rfl rfl rfl) <| sm 1 rfl <| nL ?_
  refine tC rfl (fun hc4 => ?_) fun hc4 => ?_
  ·refine tSk ?_
   refine tC rfl (fun hc4 => ?_) fun hc4 => ?_
   ·refine tQ <| tG <| sm 1 rfl <| nL <| tRt <| rOk rfl ?_ nPo
    refine congrArg (fun b => iBool b) ?_
    simp_all [isWord]
   refine tSk <| tQ <| tG <| sm 1 rfl <| nL <| tRt <| rOk rfl ?_ nPo
   refine congrArg (fun b => iBool b) ?_
   simp_all [isWord]
  refine tQ <| tG <| cV rfl (bSt rfl rfl rfl rfl) <| sm 1 rfl <| nL ?_
  refine tC rfl (fun hc4 => ?_) fun hc4 => ?_
  ·refine tSk ?_
   refine tC rfl (fun hc4 => ?_) fun hc4 => ?_
   ·refine tQ <| tG <| sm 1 rfl <| nL <| tRt <| rOk rfl ?_ nPo
    refine congrArg (fun b => iBool b) ?_
    simp_all [isWord]
   refine tSk <| tQ <| tG <| sm 1 rfl <| nL <| tRt <| rOk rfl ?_ nPo
   refine congrArg (fun b => iBool b) ?_
   simp_all [isWord]
  refine tQ <| tG <| cV rfl (bSt rfl rfl rfl rfl) <| sm 1 rfl <| nL ?_
  refine tC rfl (fun hc4 => ?_) fun hc4 => ?_
  ·refine tSk ?_
   refine tC rfl (fun hc4 => ?_) fun hc4 => ?_
   ·refine tQ <| tG <| sm 1 rfl <| nL <| tRt <| rOk rfl ?_ nPo
    refine congrArg (fun b => iBool b) ?_
    simp_all [isWord]
   refine tSk <| tQ <| tG <| sm 1 rfl <| nL <| tRt <| rOk rfl ?_ nPo
   refine congrArg (fun b => iBool b) ?_
   simp_all [isWord]
  refine tQ <| tG <| cV rfl (bSt rfl rfl rfl rfl) <| sm 1 rfl <| nL ?_
  refine tC rfl (fun hc4 => ?_) fun hc4 => ?_
  ·refine tSk ?_
   refine tC rfl (fun hc4 => ?_) fun hc4 => ?_
   ·refine tQ <| tG <| sm 1 rfl <| nL <| tRt <| rOk rfl ?_ nPo
    refine congrArg (fun b => iBool b) ?_
    simp_all [isWord]
   refine tSk <| tQ <| tG <| sm 1 rfl <| nL <| tRt <| rOk rfl ?_ nPo
   refine congrArg (fun b => iBool b) ?_
   simp_all [isWord]
  refine tQ <| tG <| cV rfl (bSt rfl rfl rfl rfl) <| sm 1 rfl <| nL ?_
  refine tC rfl (fun hc4 => ?_) fun hc4 => ?_
  ·refine tSk ?_
   refine tC rfl (fun hc4 => ?_) fun hc4 => ?_
   ·refine tQ <| tG <| sm 1 rfl <| nL <| tRt <| rOk rfl ?_ nPo
    refine congrArg (fun b => iBool b) ?_
    simp_all [isWord]
   refine tSk <| tQ <| tG <| sm 1 rfl <| nL <| tRt <| rOk rfl ?_ nPo
   refine congrArg (fun b => iBool b) ?_
   simp_all [isWord]
  refine tQ <| tG <| cV rfl (bSt rfl rfl rfl rfl) <| sm 1 rfl <| nL ?_
  refine tC rfl (fun hc4 => ?_) fun hc4 => ?_
  ·refine tSk ?_
   refine tC rfl (fun hc4 => ?_) fun hc4 => ?_
   ·refine tQ <| tG <| sm 1 rfl <| nL <| tRt <| rOk rfl ?_ nPo
    refine congrArg (fun b => iBool b) ?_
    simp_all [isWord]
   refine tSk <| tQ <| tG <| sm 1 rfl <| nL <| tRt <| rOk rfl ?_ nPo
   refine congrArg (fun b => iBool b) ?_
   simp_all [isWord]
  refine tQ <| tG <| cV rfl (bSt rfl rfl rfl rfl) <| sm 1 rfl <| nL ?_
  refine tC rfl (fun hc4 => ?_) fun hc4 => ?_
  ·refine tSk ?_
   refine tC rfl (fun hc4 => ?_) fun hc4 => ?_
   ·refine tQ <| tG <| sm 1 rfl <| nL <| tRt <| rOk rfl ?_ nPo
    refine congrArg (fun b => iBool b) ?_
    simp_all [isWord]
   refine tSk <| tQ <| tG <| sm 1 rfl <| nL <| tRt <| rOk rfl ?_ nPo
   refine congrArg (fun b => iBool b) ?_
   simp_all [isWord]
  refine tQ <| tG <| cV rfl (bSt rfl rfl rfl rfl) <| sm 1 rfl <| nL ?_
  refine tC rfl (fun hc4 => ?_) fun hc4 => ?_
  ·refine tSk ?_
   refine tC rfl (fun hc4 => ?_) fun hc4 => ?_
   ·refine tQ <| tG <| sm 1 rfl <| nL <| tRt <| rOk rfl ?_ nPo
    refine congrArg (fun b => iBool b) ?_
    simp_all [isWord]
   refine tSk <| tQ <| tG <| sm 1 rfl <| nL <| tRt <| rOk rfl ?_ nPo
   refine congrArg (fun b => iBool b) ?_
   simp_all [isWord]
  refine tQ <| tG <| cV rfl (bSt rfl rfl rfl rfl) <| sm 1 rfl <| nL ?_
  refine tC rfl (fun hc4 => ?_) fun hc4 => ?_
  ·refine tSk ?_
   refine tC rfl (fun hc4 => ?_) fun hc4 => ?_
   ·refine tQ <| tG <| sm 1 rfl <| nL <| tRt <| rOk rfl ?_ nPo
    refine congrArg (fun b => iBool b) ?_
    simp_all [isWord]
   refine tSk <| tQ <| tG <| sm 1 rfl <| nL <| tRt <| rOk rfl ?_ nPo
   refine congrArg (fun b => iBool b) ?_
   simp_all [isWord]
  refine tQ <| tG <| cV rfl (bSt rfl rfl rfl rfl) <| sm 1 rfl <| nL ?_
  refine tC rfl (fun hc4 => ?_) fun hc4 => ?_
  ·refine tSk ?_
   refine tC rfl (fun hc4 => ?_) fun hc4 => ?_
   ·refine tQ <| tG <| sm 1 rfl <| nL <| tRt <| rOk rfl ?_ nPo
    refine congrArg (fun b => iBool b) ?_
    simp_all [isWord]
   refine tSk <| tQ <| tG <| sm 1 rfl <| nL <| tRt <| rOk rfl ?_ nPo
   refine congrArg (fun b => iBool b) ?_
   simp_all [isWord]
  refine tQ <| tG <| cV rfl (bSt rfl rfl rfl rfl) <| sm 1 rfl <| nL ?_
  refine tC rfl (fun hc4 => ?_) fun hc4 => ?_
  ·refine tSk ?_
   refine tC rfl (fun hc4 => ?_) fun hc4 => ?_
   ·refine tQ <| tG <| sm 1 rfl <| nL <| tRt <| rOk rfl ?_ nPo
    refine congrArg (fun b => iBool b) ?_
    simp_all [isWord]
   refine tSk <| tQ <| tG <| sm 1 rfl <| nL <| tRt <| rOk rfl ?_ nPo
   refine congrArg (fun b => iBool b) ?_
   simp_all [isWord]
  refine tQ <| tG <| cV rfl (bSt rfl rfl rfl rfl) <| sm 1 rfl <| nL ?_
  refine tC rfl (fun hc4 => ?_) fun hc4 => ?_
  ·refine tSk ?_
   refine tC rfl (fun hc4 => ?_) fun hc4 => ?_
   ·refine tQ <| tG <| sm 1 rfl <| nL <| tRt <| rOk rfl ?_ nPo
    refine congrArg (fun b => iBool b) ?_
    simp_all [isWord]
   refine tSk <| tQ <| tG <| sm 1 rfl <| nL <| tRt <| rOk rfl ?_ nPo
   refine congrArg (fun b => iBool b) ?_
   simp_all [isWord]
  refine tQ <| tG <| cV rfl (bSt rfl rfl rfl rfl) <| sm 1 rfl <| nL ?_
  refine tC rfl (fun hc4 => ?_) fun hc4 => ?_
  ·refine tSk ?_
   refine tC rfl (fun hc4 => ?_) fun hc4 => ?_
   ·refine tQ <| tG <| sm 1 rfl <| nL <| tRt <| rOk rfl ?_ nPo
    refine congrArg (fun b => iBool b) ?_
    simp_all [isWord]
   refine tSk <| tQ <| tG <| sm 1 rfl <| nL <| tRt <| rOk rfl ?_ nPo
   refine congrArg (fun b => iBool b) ?_
   simp_all [isWord]
  refine tQ <| tG <| cV rfl (bSt rfl rfl rfl rfl) <| sm 1 rfl <| nL ?_
  refine tC rfl (fun hc4 => ?_) fun hc4 => ?_
  ·refine tSk ?_
   refine tC rfl (fun hc4 => ?_) fun hc4 => ?_
   ·refine tQ <| tG <| sm 1 rfl <| nL <| tRt <| rOk rfl ?_ nPo
    refine congrArg (fun b => iBool b) ?_
    simp_all [isWord]
   refine tSk <| tQ <| tG <| sm 1 rfl <| nL <| tRt <| rOk rfl ?_ nPo
   refine congrArg (fun b => iBool b) ?_
   simp_all [isWord]
  refine tG <| cV rfl (bSt rfl rfl rfl rfl) <| sm 1 rfl <| nL ?_
  refine tC rfl (fun hc4 => ?_) fun hc4 => ?_
  ·refine tQ <| tG <| sm 1 rfl <| nL <| tRt <| rOk rfl ?_ nPo
   refine congrArg (fun b => iBool b) ?_
   simp_all [isWord]
  refine tSk <| tQ <| tG <| sm 1 rfl <| nL <| tRt <| rOk rfl ?_ nPo
  refine congrArg (fun b => iBool b) ?_
  simp_all [isWord]
theorem sc_tkRun (s : ByteArray) : SC Tryz.prog 79 [iStr s] [] (fun _ => False) (iStr (runOf s)) [] := by
  refine SC.of Tryz.func79 rfl (lb rfl) fun F ρ w => ?_
  refine tQ <| tG <| sm 1 rfl <| nL <| tQ ?_
  refine Tr.strRange rfl rfl rfl rfl rfl rfl rfl rfl uT9 rfl rfl rfl rfl rfl rfl rfl rfl rfl rfl rfl (fun _ h => h) (fun k fr => (k ≤ s.toList.length ∧ (s.toList.take k).all isLD = true) ∧ fr = [(0, iStr s)]) ⟨[(0, iStr s)], Sub.of ⟨rfl, trivial⟩, ⟨Nat.zero_le _, rfl⟩, rfl⟩ ?_ ?_
  ·rintro b0 k _ hk ⟨hI, rfl⟩
   refine tQ <| tG <| sm 2 rfl <| nL <| tRt <| rOk rfl ?_ nPo
   have hall : s.toList.all isLD = true := by
     have := hI.2
     rwa [List.take_of_length_le (by rw [ba_len]; exact hk)] at this
   simp [runOf, hall]
  rintro ρ2 w2 b0 k _ hk ⟨hI, rfl⟩
  have hlt : k < s.toList.length := by rw [ba_len]; exact hk
  refine tBk <| tQ <| tG <| cV rfl (ok_extract rfl rfl rfl) <| cV rfl (ok_extract rfl rfl rfl) <| sm 2 rfl <| nL <| tQ <| tG <| sm 1 rfl <| cE rfl (ocq (sc_tkLetter _) ent78 rfl rfl) <| sm 2 rfl ?_
  refine wS 14 rfl (fun hb14 => ?_) fun hb14 => ?_
  ·refine sm 1 rfl <| WL.yes rfl rfl rfl rfl rfl rfl (ok_callq (sc_tkDigit _) ent97 rfl rfl (sRf _ _) rfl) <| sm 2 rfl <| nL ?_
   refine tC rfl (fun hc18 => ?_) fun hc18 => ?_
   ·refine tQ <| tG <| sm 2 rfl <| cV rfl (ok_slice_str rfl rfl uT9 (.inl ⟨rfl, rfl⟩) (.inr ⟨_, _, rfl, rfl⟩) (by omega) (Nat.le_of_lt (by assumption))) <| sm 1 rfl <| nL <| tRt <| rOk rfl ?_ nPo
    have hld : isLDr (Utf8.decode s k).1 = false := by
      simp only [isLDr]
      simp_all
    rw [runOf_at hI.2 (List.getElem?_eq_getElem hlt) ((decode_ld hlt).2 hld)]
   refine tSk ?_
   refine ⟨rfl, [(0, iStr s)], Sub.of ⟨rfl, rfl, trivial⟩, ?_, rfl⟩
   have hld : isLDr (Utf8.decode s k).1 = true := by
     simp only [isLDr]
     simp_all
   obtain ⟨hw1, hb1⟩ := (decode_ld hlt).1 hld
   rw [hw1]
   exact ⟨by omega, by rw [List.take_succ_eq_append_getElem hlt, List.all_append, hI.2]; simp [hb1]⟩
  refine sm 4 rfl <| nL <| Tr.condF rfl <| tSk ?_
  refine ⟨rfl, [(0, iStr s)], Sub.of ⟨rfl, rfl, trivial⟩, ?_, rfl⟩
  have hld : isLDr (Utf8.decode s k).1 = true := by
    simp only [isLDr]
    simp_all
  obtain ⟨hw1, hb1⟩ := (decode_ld hlt).1 hld
  rw [hw1]
  exact ⟨by omega, by rw [List.take_succ_eq_append_getElem hlt, List.all_append, hI.2]; simp [hb1]⟩
theorem sc_tkName (s : ByteArray) : SC Tryz.prog 55 [iStr s] [] (fun _ => False) (iBool (isName s)) [] := by
  refine SC.of Tryz.func55 rfl (lb rfl) fun F ρ w => ?_
  refine tQ <| tG <| sm 1 rfl <| nL <| tQ <| tG <| sm 1 rfl <| cV rfl (bSt rfl rfl rfl rfl) <| sm 1 rfl ?_
  refine wS 5 rfl (fun hb5 => ?_) fun hb5 => ?_
  ·have hne : s.toList ≠ [] := by simpa using hb5
   obtain ⟨b0, r0, hs0⟩ := List.exists_cons_of_ne_nil hne
   have hi0 : s[0]? = some b0 := by rw [ba_get (i := 0) (by rw [hs0]; simp)]; simp [hs0]
   have hw0 : IntKind.i32.wrap (b0.toNat : Int) = b0.toNat := by
     have : b0.toNat < 256 := b0.toNat_lt
     simp [IntKind.wrap, IntKind.bits, IntKind.signed]
     omega
   have hre := runOf_eq s
   refine sm 1 rfl <| yV rfl rfl (ok_index_str rfl rfl rfl uT9 (by assumption) (by rfl)) <| yV rfl rfl (ok_conv_int rfl rfl ⟨_, Tryz.underlying5⟩ Tryz.underlying21) <| WL.yes rfl rfl rfl rfl rfl rfl (ok_callq (sc_tkLetter _) ent78 rfl rfl (sRf _ _) rfl) <| sm 2 rfl ?_
   refine wS 11 rfl (fun hb11 => ?_) fun hb11 => ?_
   ·refine sm 1 rfl <| WL.yes rfl rfl rfl rfl rfl rfl (ok_callq (sc_tkRun s) ent79 rfl rfl (sRf _ _) rfl) <| sm 1 rfl <| yV rfl rfl (bSt rfl rfl rfl rfl) <| sm 2 rfl ?_
    refine wS 17 rfl (fun hb17 => ?_) fun hb17 => ?_
    ·refine sm 1 rfl <| yV rfl rfl (ok_len_str rfl rfl uT9) <| sm 3 rfl ?_
     refine wS 22 rfl (fun hb22 => ?_) fun hb22 => ?_
     ·refine sm 1 rfl <| WL.yes rfl rfl rfl rfl rfl rfl (ok_callq (sc_tkWord s) ent80 rfl rfl (sRf _ _) rfl) <| sm 3 rfl <| nL <| tRt <| rOk rfl ?_ nPo
      refine congrArg (fun b => iBool b) ?_
      simp_all [isName]
     refine sm 5 rfl <| nL <| tRt <| rOk rfl ?_ nPo
     refine congrArg (fun b => iBool b) ?_
     (simp_all [isName] <;> omega)
    refine sm 10 rfl <| nL <| tRt <| rOk rfl ?_ nPo
    refine congrArg (fun b => iBool b) ?_
    simp_all [isName]
   refine sm 16 rfl <| nL <| tRt <| rOk rfl ?_ nPo
   refine congrArg (fun b => iBool b) ?_
   simp_all [isName]
  refine sm 22 rfl <| nL <| tRt <| rOk rfl ?_ nPo
  refine congrArg (fun b => iBool b) ?_
  simp_all [isName]
def Cnt (es : List (Value × PV)) : Prop := (∀ e ∈ es, isKeyB .string e.1 = true) ∧ ∀ e ∈ es, ∃ n, e.2 = vInt n
theorem mput_mem {k : Value} {v : PV} : ∀ {es : List (Value × PV)} {e : Value × PV}, e ∈ mput k v es → e = (k, v) ∨ e ∈ es
  | [], e, h => by simp [mput] at h; exact .inl h
  | (a, p) :: r, e, h => by
    simp only [mput] at h
    split at h
    ·rcases List.mem_cons.1 h with rfl | h
     ·exact .inl rfl
     exact .inr (.tail _ h)
    rcases List.mem_cons.1 h with rfl | h
    ·exact .inr (.head _)
    rcases mput_mem h with h | h
    ·exact .inl h
    exact .inr (.tail _ h)
theorem mfind_mem {k : Value} {p : PV} : ∀ {es : List (Value × PV)}, mfind k es = some p → ∃ a, (a, p) ∈ es
  | (a, q) :: r, h => by
    simp only [mfind] at h
    split at h
    ·cases h; exact ⟨a, .head _⟩
    obtain ⟨b, hb⟩ := mfind_mem h; exact ⟨b, .tail _ hb⟩
theorem Cnt.find {es : List (Value × PV)} (h : Cnt es) (k : Value) : ∃ n, (mfind k es).getD (.val (.int .i64 0)) = vInt n := by
  cases hf : mfind k es with
  | none => exact ⟨0, rfl⟩
  | some p => obtain ⟨a, ha⟩ := mfind_mem hf; obtain ⟨n, hn⟩ := h.2 _ ha; exact ⟨n, hn⟩
theorem bump_eq {es : List (Value × PV)} {s : ByteArray} {n : Int} (h : (mfind (.string s) es).getD (.val (.int .i64 0)) = vInt n) : bump s es = mput (.string s) (vInt (IntKind.i64.wrap (n + 1))) es := by
  unfold bump
  cases hf : mfind (.string s) es with
  | none =>
    rw [hf] at h
    simp only [Option.getD_none, vInt, PV.val.injEq, Value.int.injEq, true_and] at h
    subst h
    rfl
  | some p =>
    rw [hf] at h
    simp only [Option.getD_some] at h
    subst h
    rfl
theorem Cnt.bump {es : List (Value × PV)} (h : Cnt es) (s : ByteArray) : Cnt (bump s es) := by
  obtain ⟨n, hn⟩ := h.find (.string s)
  rw [bump_eq hn]
  refine ⟨fun e he => ?_, fun e he => ?_⟩
  ·rcases mput_mem he with rfl | he
   ·rfl
   exact h.1 e he
  rcases mput_mem he with rfl | he
  ·exact ⟨_, rfl⟩
  exact h.2 e he
theorem Cnt.nil : Cnt [] := ⟨fun _ h => by simp at h, fun _ h => by simp at h⟩
theorem sc_shHead (u : Un) (hW : r8Weight u ≤ 536870912) : SC Tryz.prog 37 [.pv u.enc] [] (fun _ => False) (iBool (shHead u)) [] := by
  refine SC.of Tryz.func37 rfl (lb rfl) fun F ρ w => ?_
  have hW2 : r8Weight u = u.arrays.length + u.flows.length + wtA u.arrays + wtF u.flows := rfl
  have hW3 : (u.arrays.length : Int) + u.flows.length ≤ 536870912 := by omega
  refine tQ <| tG <| cE rfl (ok_box rfl rfl) <| sm 1 rfl <| nL <| tQ <| tG <| cE rfl (ok_makeMap (k := 109) rfl rfl rfl rfl rfl) <| sm 1 rfl <| nL <| tQ <| tQ ?_
  refine tG <| sm 2 rfl ?_
  refine WL.lenOf (t := 11) rfl (fun hl1 => ?_)
  simp only [List.length_map] at hl1
  refine cV rfl (oSm uT22 rfl) <| sm 1 rfl <| nL <| tBk <| Tr.sub (Sub.of (fr' := [(13, iInt 0), (12, iInt u.arrays.length), (11, .pv (arrs u.arrays)), (3, .mp 109), (1, .pv (.ept [arrs u.arrays, flws u.flows] 0))]) ⟨rfl, rfl, rfl, rfl, rfl, trivial⟩) ?_
  refine Tr.loop (fun fr σ m => ∃ (k : Nat) (es : List (Value × PV)), (k ≤ u.arrays.length) ∧ (u.arrays.all shArr = (u.arrays.drop k).all shArr) ∧ (countA [] u.arrays = countA es (u.arrays.drop k)) ∧ (Cnt es) ∧ fr = [(13, iInt k), (12, iInt u.arrays.length), (11, .pv (arrs u.arrays)), (3, .mp 109), (1, .pv (.ept [arrs u.arrays, flws u.flows] 0))] ∧ σ = look [(109, some (.map es))] ∧ m = u.arrays.length - k) (n := u.arrays.length - 0) ?_ ?_
  ·exact ⟨0, [], Nat.zero_le _, rfl, rfl, Cnt.nil, rfl, rfl, rfl⟩
  rintro fr σ m ⟨k, es, hI0, hI1, hI2, hI3, rfl, rfl, rfl⟩
  refine tQ <| tG <| sm 1 rfl <| nL <| tQ ?_
  refine tC rfl (fun hc14 => ?_) fun hc14 => ?_
  ·have hlt : k < u.arrays.length := by simpa using hc14
   have hd := List.drop_eq_getElem_cons hlt
   have hm := List.getElem_mem hlt
   have hi := map_get (f := Ar.enc) (List.getElem?_eq_getElem hlt)
   generalize u.arrays[k] = x at hd hm hi
   refine tSk <| tQ <| tBk <| tQ <| tG <| cV rfl (iSq rfl rfl rfl uT22 hi tS49 rfl (by rfl)) <| cV rfl (lEA rfl rfl Tryz.underlying49 rfl tS49 (lb rfl)) <| cE rfl (aLc (k := 105) rfl tZ49 rfl rfl rfl rfl) <| c0 (sBA rfl rfl rfl rfl rfl ((fun h => h)) tS49 (flk rfl) (lb rfl)) <| nL <| tQ <| Tr.freezeBox (t := 5) (k := 105) rfl rfl rfl ?_
   refine Tr.heap (σ' := look [(109, some (.map es))]) (fun k => by
     simp only [look]
     by_cases h : 105 = k
     · subst h; rfl
     · simp [beq_ne h]) ?_
   obtain ⟨n, hn⟩ := hI3.find (.string x.name)
   have hbump := bump_eq hn
   have hes := hI3.1
   refine tG <| sm 3 rfl <| cV rfl (ok_lookup rfl rfl rfl rfl Tryz.underlying99 uT9 rfl (by assumption) tZ3 trivial) <| WL.sub (Sub.of (fr' := [(20, iInt n), (19, iStr x.name), (17, .mp 109), (5, .pv (.ept [vStr x.name, vInt x.size] 0)), (13, iInt k), (12, iInt u.arrays.length), (11, .pv (arrs u.arrays)), (3, .mp 109), (1, .pv (.ept [arrs u.arrays, flws u.flows] 0))]) ⟨congrArg (fun p => some (IV.pv p)) hn, rfl, rfl, rfl, rfl, rfl, rfl, rfl, rfl, trivial⟩) <| sm 1 rfl <| c0 (ok_mapUpdate rfl rfl rfl rfl rfl ((fun h => h)) Tryz.underlying99 uT9 rfl (by assumption)) <| nL <| tQ <| tG <| sm 2 rfl <| cE rfl (ocq (sc_tkName _) ent55 rfl rfl) <| sm 2 rfl ?_
   refine wS 26 rfl (fun hb26 => ?_) fun hb26 => ?_
   ·refine sm 9 rfl <| nL <| Tr.condT rfl <| tQ <| tG <| sm 1 rfl <| nL <| tRt <| rOk rfl ?_ nPo
    have hx : shArr x = false := by
      clear hd hm hi hI1 hI2 hn
      simp_all [shArr]
    have hA : u.arrays.all shArr = false := by rw [hI1, hd]; simp only [List.all_cons, hx, Bool.false_and]
    simp only [shHead, hA, Bool.false_and]
   refine sm 5 rfl ?_
   refine wS 31 rfl (fun hb31 => ?_) fun hb31 => ?_
   ·refine sm 4 rfl <| nL <| Tr.condT rfl <| tQ <| tG <| sm 1 rfl <| nL <| tRt <| rOk rfl ?_ nPo
    have hx : shArr x = false := by
      clear hd hm hi hI1 hI2 hn
      simp_all [shArr]
    have hA : u.arrays.all shArr = false := by rw [hI1, hd]; simp only [List.all_cons, hx, Bool.false_and]
    simp only [shHead, hA, Bool.false_and]
   refine sm 4 rfl <| nL ?_
   refine tC rfl (fun hc35 => ?_) fun hc35 => ?_
   ·refine tQ <| tG <| sm 1 rfl <| nL <| tRt <| rOk rfl ?_ nPo
    have hx : shArr x = false := by
      clear hd hm hi hI1 hI2 hn
      simp_all [shArr]
    have hA : u.arrays.all shArr = false := by rw [hI1, hd]; simp only [List.all_cons, hx, Bool.false_and]
    simp only [shHead, hA, Bool.false_and]
   refine tSk <| tG <| cV rfl (oB rfl rfl (i64_add rfl (by omega))) <| sm 1 rfl <| nL ?_
   refine ⟨_, _, ?_, Sub.of (fr' := [(13, iInt (k + 1)), (12, iInt u.arrays.length), (11, .pv (arrs u.arrays)), (3, .mp 109), (1, .pv (.ept [arrs u.arrays, flws u.flows] 0))]) ⟨rfl, rfl, rfl, rfl, rfl, trivial⟩, (k + 1), (bump x.name es), ?_, ?_, ?_, ?_, rfl, (funext fun j => by
   simp only [look, ← hbump]
   by_cases h : 109 = j
   · subst h; rfl
   · simp [beq_ne h]), rfl⟩
   ·omega
   ·omega
   ·rw [hI1, hd]
    have hx : shArr x = true := by
      clear hd hm hi hI1 hI2 hn
      simp_all [shArr]
    simp only [List.all_cons, hx, Bool.true_and]
   ·rw [hI2, hd]; rfl
   exact hI3.bump _
  refine tEx <| tQ <| tQ ?_
  have hA : u.arrays.all shArr = true := by
    rw [hI1, List.drop_eq_nil_of_le (by simpa using hc14)]; rfl
  have hcA : countA [] u.arrays = es := by
    rw [hI2, List.drop_eq_nil_of_le (by simpa using hc14)]; rfl
  generalize es = es0 at hcA hI3 ⊢
  refine tG <| sm 2 rfl ?_
  refine WL.lenOf (t := 38) rfl (fun hl2 => ?_)
  simp only [List.length_map] at hl2
  refine cV rfl (oSm uT23 rfl) <| sm 1 rfl <| nL <| tBk <| Tr.sub (Sub.of (fr' := [(40, iInt 0), (39, iInt u.flows.length), (38, .pv (flws u.flows)), (3, .mp 109), (1, .pv (.ept [arrs u.arrays, flws u.flows] 0))]) ⟨rfl, rfl, rfl, rfl, rfl, trivial⟩) ?_
  refine Tr.loop (fun fr σ m => ∃ (k : Nat) (es : List (Value × PV)), (k ≤ u.flows.length) ∧ (u.flows.all shFlw = (u.flows.drop k).all shFlw) ∧ (countF es0 u.flows = countF es (u.flows.drop k)) ∧ (Cnt es) ∧ fr = [(40, iInt k), (39, iInt u.flows.length), (38, .pv (flws u.flows)), (3, .mp 109), (1, .pv (.ept [arrs u.arrays, flws u.flows] 0))] ∧ σ = look [(109, some (.map es))] ∧ m = u.flows.length - k) (n := u.flows.length - 0) ?_ ?_
  ·exact ⟨0, es0, Nat.zero_le _, rfl, rfl, hI3, rfl, rfl, rfl⟩
  ·rintro fr σ m ⟨k, es, hJ0, hJ1, hJ2, hJ3, rfl, rfl, rfl⟩
   refine tQ <| tG <| sm 1 rfl <| nL <| tQ ?_
   refine tC rfl (fun hc41 => ?_) fun hc41 => ?_
   ·have hlt : k < u.flows.length := by simpa using hc41
    have hd := List.drop_eq_getElem_cons hlt
    have hm := List.getElem_mem hlt
    have hi := map_get (f := Fl.enc) (List.getElem?_eq_getElem hlt)
    generalize u.flows[k] = x at hd hm hi
    refine tSk <| tQ <| tBk <| tQ <| tG <| cV rfl (iSq rfl rfl rfl uT23 hi tS51 rfl (by rfl)) <| cV rfl (lEA rfl rfl Tryz.underlying51 rfl tS51 (lb rfl)) <| cE rfl (aLc (k := 107) rfl tZ51 rfl rfl rfl rfl) <| c0 (sBA rfl rfl rfl rfl rfl ((fun h => h)) tS51 (flk rfl) (lb rfl)) <| nL <| tQ <| Tr.freezeBox (t := 7) (k := 107) rfl rfl rfl ?_
    refine Tr.heap (σ' := look [(109, some (.map es))]) (fun k => by
      simp only [look]
      by_cases h : 107 = k
      · subst h; rfl
      · simp [beq_ne h]) ?_
    obtain ⟨n, hn⟩ := hJ3.find (.string x.name)
    have hbump := bump_eq hn
    have hes := hJ3.1
    refine tG <| sm 3 rfl <| cV rfl (ok_lookup rfl rfl rfl rfl Tryz.underlying99 uT9 rfl (by assumption) tZ3 trivial) <| WL.sub (Sub.of (fr' := [(47, iInt n), (46, iStr x.name), (44, .mp 109), (7, .pv (.ept [vStr x.name, vInt x.ty, vInt x.params, ints x.types, nodes x.body] 0)), (40, iInt k), (39, iInt u.flows.length), (38, .pv (flws u.flows)), (3, .mp 109), (1, .pv (.ept [arrs u.arrays, flws u.flows] 0))]) ⟨congrArg (fun p => some (IV.pv p)) hn, rfl, rfl, rfl, rfl, rfl, rfl, rfl, rfl, trivial⟩) <| sm 1 rfl <| c0 (ok_mapUpdate rfl rfl rfl rfl rfl ((fun h => h)) Tryz.underlying99 uT9 rfl (by assumption)) <| nL <| tQ <| tG <| sm 2 rfl <| cE rfl (ocq (sc_tkName _) ent55 rfl rfl) <| sm 2 rfl ?_
    refine wS 53 rfl (fun hb53 => ?_) fun hb53 => ?_
    ·refine sm 18 rfl <| nL <| Tr.condT rfl <| tQ <| tG <| sm 1 rfl <| nL <| tRt <| rOk rfl ?_ nPo
     have hx : shFlw x = false := by
       clear hd hm hi hJ1 hJ2 hn
       simp_all [shFlw]
     have hF : u.flows.all shFlw = false := by rw [hJ1, hd]; simp only [List.all_cons, hx, Bool.false_and]
     simp only [shHead, hF, Bool.false_and, Bool.and_false]
    refine sm 2 rfl <| WL.yes rfl rfl rfl rfl rfl rfl (ok_callq (sc_isTy _) ent56 rfl rfl (sRf _ _) rfl) <| sm 3 rfl ?_
    refine wS 59 rfl (fun hb59 => ?_) fun hb59 => ?_
    ·refine sm 12 rfl <| nL <| Tr.condT rfl <| tQ <| tG <| sm 1 rfl <| nL <| tRt <| rOk rfl ?_ nPo
     have hx : shFlw x = false := by
       clear hd hm hi hJ1 hJ2 hn
       simp_all [shFlw]
     have hF : u.flows.all shFlw = false := by rw [hJ1, hd]; simp only [List.all_cons, hx, Bool.false_and]
     simp only [shHead, hF, Bool.false_and, Bool.and_false]
    refine sm 5 rfl ?_
    refine wS 64 rfl (fun hb64 => ?_) fun hb64 => ?_
    ·refine sm 7 rfl <| nL <| Tr.condT rfl <| tQ <| tG <| sm 1 rfl <| nL <| tRt <| rOk rfl ?_ nPo
     have hx : shFlw x = false := by
       clear hd hm hi hJ1 hJ2 hn
       simp_all [shFlw]
     have hF : u.flows.all shFlw = false := by rw [hJ1, hd]; simp only [List.all_cons, hx, Bool.false_and]
     simp only [shHead, hF, Bool.false_and, Bool.and_false]
    refine sm 4 rfl <| yV rfl rfl (oSm uT35 rfl) <| sm 2 rfl <| nL ?_
    refine tC rfl (fun hc71 => ?_) fun hc71 => ?_
    ·refine tQ <| tG <| sm 1 rfl <| nL <| tRt <| rOk rfl ?_ nPo
     have hx : shFlw x = false := by
       clear hd hm hi hJ1 hJ2 hn
       simp_all [shFlw]
     have hF : u.flows.all shFlw = false := by rw [hJ1, hd]; simp only [List.all_cons, hx, Bool.false_and]
     simp only [shHead, hF, Bool.false_and, Bool.and_false]
    refine tSk <| tG <| cV rfl (oB rfl rfl (i64_add rfl (by omega))) <| sm 1 rfl <| nL ?_
    refine ⟨_, _, ?_, Sub.of (fr' := [(40, iInt (k + 1)), (39, iInt u.flows.length), (38, .pv (flws u.flows)), (3, .mp 109), (1, .pv (.ept [arrs u.arrays, flws u.flows] 0))]) ⟨rfl, rfl, rfl, rfl, rfl, trivial⟩, (k + 1), (bump x.name es), ?_, ?_, ?_, ?_, rfl, (funext fun j => by
  simp only [look, ← hbump]
  by_cases h : 109 = j
  · subst h; rfl
  · simp [beq_ne h]), rfl⟩
    ·omega
    ·omega
    ·rw [hJ1, hd]
     have hx : shFlw x = true := by
       clear hd hm hi hJ1 hJ2 hn
       simp_all [shFlw]
     simp only [List.all_cons, hx, Bool.true_and]
    ·rw [hJ2, hd]; rfl
    exact hJ3.bump _
   refine tEx <| tQ ?_
   have hF : u.flows.all shFlw = true := by
     rw [hJ1, List.drop_eq_nil_of_le (by simpa using hc41)]; rfl
   have hcF : countF (countA [] u.arrays) u.flows = es := by
     rw [hcA, hJ2, List.drop_eq_nil_of_le (by simpa using hc41)]; rfl
   clear hJ1 hJ2 hI1 hI2
   refine tG <| cV rfl (lEA rfl rfl uT25 rfl tS25 (lb rfl)) <| cE rfl (ocq (sc_shPlace u mainName) ent57 rfl rfl) <| sm 1 rfl <| nL <| tQ <| tG <| sm 1 rfl <| cV rfl (ok_len_map rfl rfl rfl Tryz.underlying99 trivial) <| sm 2 rfl <| cV rfl (oSm uT22 rfl) ?_
   refine WL.lenOf (t := 78) rfl (fun hl1 => ?_)
   simp only [List.length_map] at hl1
   refine sm 2 rfl <| cV rfl (oSm uT23 rfl) ?_
   refine WL.lenOf (t := 81) rfl (fun hl2 => ?_)
   simp only [List.length_map] at hl2
   refine cV rfl (oB rfl rfl (i64_add rfl (by omega))) <| sm 2 rfl ?_
   refine wS 85 rfl (fun hb85 => ?_) fun hb85 => ?_
   ·refine sm 4 rfl ?_
    refine wS 89 rfl (fun hb89 => ?_) fun hb89 => ?_
    ·have hk0 : r8Place mainName u.flows 0 ≥ 0 := by simp_all
     obtain ⟨g, hgk, _⟩ := r8Place_at hk0
     have hgi : (u.flows.map Fl.enc)[(r8Place mainName u.flows 0).toNat]? = some g.enc := map_get hgk
     have hgd : u.flows.getD (r8Place mainName u.flows 0).toNat flDef = g := by simp [List.getD, hgk]
     refine sm 3 rfl <| yV rfl rfl (iSq rfl rfl rfl uT23 hgi tS51 rfl (by omega)) <| sm 5 rfl ?_
     refine wS 98 rfl (fun hb98 => ?_) fun hb98 => ?_
     ·refine sm 3 rfl <| yV rfl rfl (iSq rfl rfl rfl uT23 hgi tS51 rfl (by omega)) <| sm 5 rfl <| nL <| tRt <| rOk rfl ?_ nPo
      refine congrArg (fun b => iBool b) ?_
      simp only [shHead, hA, hF, hcF, r8main, Bool.true_and]
      simp_all
     refine sm 9 rfl <| nL <| tRt <| rOk rfl ?_ nPo
     refine congrArg (fun b => iBool b) ?_
     simp only [shHead, hA, hF, hcF, r8main, Bool.true_and]
     simp_all
    refine sm 18 rfl <| nL <| tRt <| rOk rfl ?_ nPo
    refine congrArg (fun b => iBool b) ?_
    simp only [shHead, hA, hF, hcF, r8main, Bool.true_and]
    (simp_all <;> omega)
   refine sm 22 rfl <| nL <| tRt <| rOk rfl ?_ nPo
   refine congrArg (fun b => iBool b) ?_
   simp only [shHead, hA, hF, hcF, r8main, Bool.true_and]
   simp_all
theorem sc_shCheck (u : Un) (hW : r8Weight u ≤ 536870912) : SC Tryz.prog 22 [.pv u.enc] [] (fun _ => False) (.tup [iInt (shCheck u).1, iInt (shCheck u).2]) [] := by
  refine SC.of Tryz.func22 rfl (lb rfl) fun F ρ w => ?_
  refine tQ <| tG <| cE rfl (ok_box rfl rfl) <| sm 2 rfl <| nL <| tQ <| tQ <| tG <| cV rfl (lEA rfl rfl uT25 rfl tS25 (lb rfl)) <| cE rfl (ocq (sc_shHead u hW) ent37 rfl rfl) <| sm 1 rfl <| nL ?_
  refine tC rfl (fun hc8 => ?_) fun hc8 => ?_
  ·refine tQ <| tG <| sm 2 rfl <| nL <| tRt <| rOk rfl ?_ nPo
   have hg : shHead u = false := by simpa using hc8
   simp [shCheck, hg]
  have hg : shHead u = true := by simpa using hc8
  refine tSk <| tQ <| tQ <| tG <| sm 2 rfl ?_
  refine WL.lenOf (t := 10) rfl (fun hl1 => ?_)
  simp only [List.length_map] at hl1
  refine cV rfl (oSm uT23 rfl) <| sm 1 rfl <| nL <| tBk <| Tr.sub (Sub.of (fr' := [(12, iInt 0), (11, iInt u.flows.length), (10, .pv (flws u.flows)), (1, .pv (.ept [arrs u.arrays, flws u.flows] 0))]) ⟨rfl, rfl, rfl, rfl, trivial⟩) ?_
  refine Tr.loop (fun fr σ m => ∃ (k : Nat), (k ≤ u.flows.length) ∧ (shflows u u.flows 0 = shflows u (u.flows.drop k) k) ∧ fr = [(12, iInt k), (11, iInt u.flows.length), (10, .pv (flws u.flows)), (1, .pv (.ept [arrs u.arrays, flws u.flows] 0))] ∧ σ = look [] ∧ m = u.flows.length - k) (n := u.flows.length - 0) ?_ ?_
  ·exact ⟨0, Nat.zero_le _, rfl, rfl, rfl, rfl⟩
  rintro fr σ m ⟨k, hI0, hI1, rfl, rfl, rfl⟩
  refine tQ <| tG <| sm 1 rfl <| nL <| tQ ?_
  refine tC rfl (fun hc13 => ?_) fun hc13 => ?_
  ·have hlt : k < u.flows.length := by simpa using hc13
   have hd := List.drop_eq_getElem_cons hlt
   have hm := List.getElem_mem hlt
   have hi := map_get (f := Fl.enc) (List.getElem?_eq_getElem hlt)
   generalize u.flows[k] = x at hd hm hi
   refine tSk <| tQ <| tBk <| tQ <| tG <| sm 1 rfl <| cV rfl (iSq rfl rfl rfl uT23 hi tS51 rfl (by rfl)) <| cV rfl (lEA rfl rfl Tryz.underlying51 rfl tS51 (lb rfl)) <| cE rfl (aLc (k := 105) rfl tZ51 rfl rfl rfl rfl) <| sm 1 rfl <| c0 (sBA rfl rfl rfl rfl rfl ((fun h => h)) tS51 (flk rfl) (lb rfl)) <| nL ?_
   refine tQ <| Tr.freezeBox (t := 5) (k := 105) rfl rfl rfl <| Tr.heap (σ' := look []) (fun k => by simp only [look]; cases Nat.beq 105 k <;> rfl) <| tG <| cV rfl (lEA rfl rfl uT25 rfl tS25 (lb rfl)) <| cV rfl (lEA rfl rfl Tryz.underlying51 rfl tS51 (lb rfl)) <| cE rfl (ocq (sc_shFlow u x (shHead_params hg) (shHead_params hg x hm) (flow_le hW hm)) ent38 rfl rfl) <| sm 1 rfl <| nL ?_
   refine tC rfl (fun hc20 => ?_) fun hc20 => ?_
   ·refine tQ <| tG <| sm 3 rfl <| nL <| tRt <| rOk rfl ?_ nPo
    have hx : shFlow u x = false := by simpa using hc20
    simp only [shCheck, hg, if_true, hI1, hd, shflows, hx, Bool.false_eq_true, if_false]
   refine tSk <| tG <| cV rfl (oB rfl rfl (i64_add rfl (by omega))) <| sm 1 rfl <| nL ?_
   refine ⟨_, _, ?_, Sub.of (fr' := [(12, iInt (k + 1)), (11, iInt u.flows.length), (10, .pv (flws u.flows)), (1, .pv (.ept [arrs u.arrays, flws u.flows] 0))]) ⟨rfl, rfl, rfl, rfl, trivial⟩, (k + 1), ?_, ?_, rfl, rfl, rfl⟩
   ·omega
   ·omega
   rw [hI1, hd]
   have hx : shFlow u x = true := by simpa using hc20
   simp only [shflows, hx, if_true]
   rfl
  refine tEx <| tQ <| tG <| sm 2 rfl <| nL <| tRt <| rOk rfl ?_ nPo
  have hge : u.flows.length ≤ k := by simpa using hc13
  simp only [shCheck, hg, if_true, hI1, List.drop_eq_nil_of_le hge, shflows]
structure Rl (n : Nat) (st : List Int) (set : List Bool) (seen : List Int) : Prop where
  l1 : st.length = n
  l2 : set.length = n
  s : ∀ v : Nat, v < n → set.getD v false = !(st.getD v 0 == 0)
  u : ∀ v : Nat, v < n → seen.contains (v : Int) = (st.getD v 0 == 1)
theorem getD_set {α : Type} {l : List α} {i j : Nat} {a d : α} : (l.set i a).getD j d = if i = j ∧ i < l.length then a else l.getD j d := by
  simp only [List.getD_eq_getElem?_getD, List.getElem?_set]
  by_cases h : i = j
  ·subst h
   by_cases h2 : i < l.length
   ·simp [h2]
   simp [h2]
  simp [h]
theorem use_rl {tys st : List Int} {set : List Bool} {seen : List Int} (h : Rl tys.length st set seen) (v w : Int) : r8use tys seen v w = (shUse tys st v w).1 := by
  unfold r8use shUse shVal
  by_cases h0 : 0 ≤ v
  ·by_cases h1 : v < tys.length
   ·have hv : v = (v.toNat : Int) := by omega
    have hu := h.u v.toNat (by omega)
    rw [← hv] at hu
    have e1 : decide (v < 0) = false := by simpa using h0
    have e2 : decide (v ≥ tys.length) = false := by simpa using h1
    have e3 : decide (0 ≤ v) = true := by simpa using h0
    have e4 : decide (v < tys.length) = true := by simpa using h1
    simp only [e1, e2, e3, e4, hu, Bool.false_or, Bool.true_and]
    clear hv e1 e2 e3 e4
    cases hw : (w == 0) <;> cases ht : (tys.getD v.toNat 0 == w) <;> cases hs : (st.getD v.toNat 0 == 1) <;> simp_all [bne]
   have e2 : decide (v ≥ tys.length) = true := by simp; omega
   have e4 : decide (v < tys.length) = false := by simp; omega
   simp [e2, e4]
  have e1 : decide (v < 0) = true := by simp; omega
  have e3 : decide (0 ≤ v) = false := by simp; omega
  simp [e1, e3]
theorem usesGo_rl {tys st : List Int} {set : List Bool} {seen : List Int} (h : Rl tys.length st set seen) : ∀ (a b : List Int), r8typesGo tys seen a b = (eqGo (shUse tys) st a b).1
  | [], _ => by simp [r8typesGo, eqGo]
  | _ :: _, [] => by simp [r8typesGo, eqGo]
  | x :: a, y :: b => by
    simp only [r8typesGo, eqGo, use_rl h x y]
    have h2 : (shUse tys st x y).2 = st := rfl
    cases hx : (shUse tys st x y).1 with
    | true => simp [h2, usesGo_rl h a b]
    | false => simp
theorem uses_rl {tys st : List Int} {set : List Bool} {seen : List Int} (h : Rl tys.length st set seen) (a b : List Int) : r8types tys seen a b = shUses tys st a b := by
  unfold r8types shUses eqf
  by_cases hl : (a.length : Int) = b.length
  ·rw [if_pos hl]
   have : ((a.length : Int) == b.length) = true := by simpa using hl
   rw [this, Bool.true_and, usesGo_rl h]
  rw [if_neg hl]
  have : ((a.length : Int) == b.length) = false := by simpa using hl
  rw [this, Bool.false_and]
theorem set1_rl {tys st : List Int} {set : List Bool} {seen : List Int} (h : Rl tys.length st set seen) (v w : Int) :
    r8bad tys set v w = !(shSet1 tys st v w).1 ∧ ((shSet1 tys st v w).1 = true → Rl tys.length (shSet1 tys st v w).2 (set.set v.toNat true) (seen ++ [v]) ∧ 0 ≤ v ∧ v < tys.length ∧ seen.contains v = false) := by
  unfold r8bad shSet1 shVal
  by_cases h0 : 0 ≤ v
  ·by_cases h1 : v < tys.length
   ·have hv : v = (v.toNat : Int) := by omega
    have hn : v.toNat < tys.length := by omega
    have hs := h.s v.toNat hn
    have hu := h.u v.toNat hn
    rw [← hv] at hu
    have e1 : decide (v < 0) = false := by simpa using h0
    have e2 : decide (v ≥ tys.length) = false := by simpa using h1
    have e3 : decide (0 ≤ v) = true := by simpa using h0
    have e4 : decide (v < tys.length) = true := by simpa using h1
    simp only [e1, e2, e3, e4, hs, Bool.false_or, Bool.true_and]
    refine ⟨by clear hv e1 e2 e3 e4; cases hw : (w == 0) <;> cases ht : (tys.getD v.toNat 0 == w) <;> cases hz : (st.getD v.toNat 0 == 0) <;> simp_all [bne], fun hc => ?_⟩
    split at hc
    ·rename_i hif
     rw [if_pos hif]
     simp only [Bool.and_eq_true] at hif
     have hz : st.getD v.toNat 0 = 0 := by simpa using hif.2
     refine ⟨⟨by simpa using h.l1, by simpa using h.l2, fun j hj => ?_, fun j hj => ?_⟩, h0, h1, by rw [hu, hz]; rfl⟩
     ·rw [getD_set, getD_set]
      by_cases e : v.toNat = j
      ·subst e; simp [h.l1, h.l2, hn]
      simp only [e, false_and, if_false]; exact h.s j hj
     rw [getD_set]
     simp only [List.contains_append, List.contains_cons, List.contains_nil, Bool.or_false]
     by_cases e : v.toNat = j
     ·subst e
      have : ((v.toNat : Int) == v) = true := by simpa using hv.symm
      rw [this, Bool.or_true, if_pos ⟨rfl, by rw [h.l1]; exact hn⟩]; rfl
     have : ((j : Int) == v) = false := by simp; omega
     simp only [e, false_and, if_false, this, Bool.or_false]
     exact h.u j hj
    cases hc
   have e2 : decide (v ≥ tys.length) = true := by simp; omega
   have e4 : decide (v < tys.length) = false := by simp; omega
   simp [e2, e4]
  have e1 : decide (v < 0) = true := by simp; omega
  have e3 : decide (0 ≤ v) = false := by simp; omega
  simp [e1, e3]
theorem setsGo_rl {tys : List Int} : ∀ (a b st : List Int) (set : List Bool) (seen : List Int), a.length = b.length → Rl tys.length st set seen →
    (r8setsGo tys set a b).1 = (eqGo (shSet1 tys) st a b).1 ∧ ((eqGo (shSet1 tys) st a b).1 = true → Rl tys.length (eqGo (shSet1 tys) st a b).2 (r8setsGo tys set a b).2 (seen ++ a) ∧ ∀ v ∈ a, 0 ≤ v ∧ v < tys.length ∧ seen.contains v = false)
  | [], _, st, set, seen, _, h => by simp [r8setsGo, eqGo]; exact h
  | _ :: _, [], _, _, _, hl, _ => by simp at hl
  | x :: a, y :: b, st, set, seen, hl, h => by
    obtain ⟨h1, h2⟩ := set1_rl h x y
    simp only [r8setsGo, eqGo, h1]
    cases hx : (shSet1 tys st x y).1 with
    | false => simp
    | true =>
      obtain ⟨h3, h4, h5, h6⟩ := h2 hx
      obtain ⟨ih1, ih2⟩ := setsGo_rl a b _ _ _ (by simpa using hl) h3
      simp only [Bool.not_true, Bool.false_eq_true, if_false, if_true]
      refine ⟨ih1, fun hc => ?_⟩
      obtain ⟨h7, h8⟩ := ih2 hc
      refine ⟨by simpa using h7, fun v hv => ?_⟩
      rcases List.mem_cons.1 hv with rfl | hv
      ·exact ⟨h4, h5, h6⟩
      obtain ⟨g1, g2, g3⟩ := h8 v hv
      refine ⟨g1, g2, ?_⟩
      rw [List.contains_append, Bool.or_eq_false_iff] at g3
      exact g3.1
theorem sets_rl {tys st : List Int} {set : List Bool} {seen : List Int} (h : Rl tys.length st set seen) (a b : List Int) :
    (r8sets tys set a b).1 = (shSets tys st a b).1 ∧ ((shSets tys st a b).1 = true → Rl tys.length (shSets tys st a b).2 (r8sets tys set a b).2 (seen ++ a) ∧ ∀ v ∈ a, 0 ≤ v ∧ v < tys.length ∧ seen.contains v = false) := by
  unfold r8sets shSets eqf
  by_cases hl : (a.length : Int) = b.length
  ·have e : ((a.length : Int) == b.length) = true := by simpa using hl
   rw [if_pos hl, if_pos e]
   exact setsGo_rl a b st set seen (by omega) h
  have e : ¬ ((a.length : Int) == b.length) = true := by simpa using hl
  rw [if_neg hl, if_neg e]
  simp
theorem hide_rl {n : Nat} : ∀ (l st : List Int) (set : List Bool) (seen rest : List Int), (∀ v ∈ l, 0 ≤ v ∧ v < n ∧ rest.contains v = false) → (∀ v ∈ l, st.getD v.toNat 0 ≠ 0) → st.length = n → set.length = n →
    (∀ v : Nat, v < n → set.getD v false = !(st.getD v 0 == 0)) → (∀ v : Nat, v < n → l.contains (v : Int) = false → rest.contains (v : Int) = (st.getD v 0 == 1)) → Rl n (shHide st l) set rest
  | [], st, set, _, rest, _, _, h1, h2, h3, h4 => ⟨h1, h2, h3, fun v hv => h4 v hv rfl⟩
  | x :: l, st, set, seen, rest, hin, hnz, h1, h2, h3, h4 => by
    obtain ⟨hx0, hx1, hx2⟩ := hin x (.head _)
    have hxn : x.toNat < n := by omega
    show Rl n (shHide (st.set x.toNat 2) l) set rest
    have hg : ∀ j, (st.set x.toNat 2).getD j 0 = if x.toNat = j then 2 else st.getD j 0 := fun j => by
      rw [getD_set]; simp [h1, hxn]
    -- hidden values are no more among the seen
    have key : ∀ v : Nat, v < n → l.contains (v : Int) = false → rest.contains (v : Int) = ((st.set x.toNat 2).getD v 0 == 1) := by
      intro v hv hl
      rw [hg]
      by_cases e : x.toNat = v
      ·have hv2 : (v : Int) = x := by omega
       rw [if_pos e, hv2, hx2]; rfl
      rw [if_neg e]
      refine h4 v hv ?_
      have : ((v : Int) == x) = false := by simp; omega
      rw [List.contains_cons, this, hl]; rfl
    refine hide_rl l (st.set x.toNat 2) set seen rest (fun v hv => hin v (.tail _ hv)) (fun v hv => ?_) (by simpa using h1) h2 (fun v hv => ?_) key
    ·rw [hg]; split
     ·decide
     exact hnz v (.tail _ hv)
    rw [hg, h3 v hv]
    split
    ·rename_i e
     have := hnz x (.head _)
     rw [e] at this
     have hb : (st.getD v 0 == 0) = false := by simpa using this
     rw [hb]; rfl
    rfl
def PR (n : Nat) (seen outs : List Int) (r : Bool × List Int) (q : Bool × List Bool) : Prop :=
  q.1 = r.1 ∧ (r.1 = true → Rl n r.2 q.2 (seen ++ outs) ∧ ∀ v ∈ outs, 0 ≤ v ∧ v < n ∧ seen.contains v = false)
theorem PR.no {n : Nat} {seen outs : List Int} {st : List Int} {set : List Bool} : PR n seen outs (false, st) (false, set) := ⟨rfl, fun h => by cases h⟩
theorem fin_rl {tys st : List Int} {set : List Bool} {seen : List Int} (h : Rl tys.length st set seen) {b b' : Bool} (hb : b = b') (outs want : List Int) : PR tys.length seen outs (andP b st (shSets tys st outs want)) (andS b' set (r8sets tys set outs want)) := by
  subst hb
  cases b with
  | false => exact .no
  | true => exact sets_rl h outs want
theorem nil_rl {tys st : List Int} {set : List Bool} {seen : List Int} (h : Rl tys.length st set seen) {b b' : Bool} (hb : b = b') (outs : List Int) : PR tys.length seen outs (andP b st (shSets tys st outs [])) (b' && (outs.length : Int) == 0, set) := by
  subst hb
  cases b with
  | false => exact .no
  | true =>
    cases outs with
    | nil => exact ⟨rfl, fun _ => ⟨by rw [List.append_nil]; exact h, fun v hv => by simp at hv⟩⟩
    | cons v r =>
      have e : ¬ (((v :: r).length : Int) = (([] : List Int).length : Int)) := by simp; omega
      have e2 : (((v :: r).length : Int) == 0) = false := by simp; omega
      simp only [andP, if_true, shSets, eqf, if_neg e, e2, Bool.and_false]
      exact .no
theorem end_rl {n : Nat} {st : List Int} {set : List Bool} {seen : List Int} (h : Rl n st set seen) {b b' : Bool} (hb : b = b') {outs : List Int} (ho : b = true → outs = []) : PR n seen outs (b, st) (b', set) := by
  subst hb
  refine ⟨rfl, fun hb => ?_⟩
  rw [ho hb]
  exact ⟨by simpa using h, fun v hv => by simp at hv⟩
theorem operand_two {op : Int} (h : r1IsTwo op = true) : shOperand op = r5Operand op := by
  simp only [r1IsTwo, Bool.and_eq_true, decide_eq_true_eq] at h
  have h18 : (op == 18) = false := by simp; omega
  have h19 : (op == 19) = false := by simp; omega
  have h22 : (op == 22) = false := by simp; omega
  simp only [shOperand, r5Operand, h18, h19, h22, Bool.or_false, Bool.false_eq_true, if_false]
theorem operand_one {op : Int} (h : r1IsOne op = true) : shOperand op = r5Operand op := by
  simp only [r1IsOne, Bool.and_eq_true, decide_eq_true_eq] at h
  have h18 : (op == 18) = false := by simp; omega
  have h19 : (op == 19) = false := by simp; omega
  simp only [shOperand, r5Operand, h18, h19, Bool.false_or]
theorem level_two (op : Int) : (decide (wLevel op > 0) && decide (op ≤ 17)) = r1IsTwo op := by
  by_cases h0 : op < 0
  ·have : wLevel op = 0 := by simp [wLevel, h0]
   have h2 : r1IsTwo op = false := by simp [r1IsTwo]; omega
   rw [this, h2]; rfl
  by_cases h1 : op ≥ 29
  ·have : wLevel op = 0 := by simp [wLevel, h1]
   have h2 : r1IsTwo op = false := by simp [r1IsTwo]; omega
   rw [this, h2]; rfl
  rcases below29 (op := op) (by omega) (by omega) with rfl | rfl | rfl | rfl | rfl | rfl | rfl | rfl | rfl | rfl | rfl | rfl | rfl | rfl | rfl | rfl | rfl | rfl | rfl | rfl | rfl | rfl | rfl | rfl | rfl | rfl | rfl | rfl | rfl <;> rfl
theorem simple_rl (u : Un) (f : Fl) {st : List Int} {set : List Bool} {seen : List Int} (h : Rl f.types.length st set seen) (x : Nd) (w : Wh) :
    PR f.types.length seen x.outs (if r8Ender x.kind then (shEnd f st x w, st) else shSimple u f st x) (r8simple u f set x seen w) := by
  have U := fun want => (uses_rl h x.args want).symm
  have hlen : ∀ b, shUses f.types st x.args [] = b → ((x.args.length : Int) == 0) = b := fun b hb => by
    rw [← hb]
    unfold shUses eqf
    cases x.args with
    | nil => rfl
    | cons a r =>
      have e : ¬ (((a :: r).length : Int) = (([] : List Int).length : Int)) := by simp; omega
      have e2 : (((a :: r).length : Int) == 0) = false := by simp; omega
      rw [if_neg e, e2]
  unfold r8simple shSimple shEnd shSum shCall r8call
  by_cases k1 : x.kind = 1
  ·simp only [k1, r8Ender]; exact fin_rl h (U _) _ _
  by_cases k2 : x.kind = 2
  ·simp only [k2, r8Ender]; exact fin_rl h (by rw [U]) _ _
  by_cases k3 : x.kind = 3
  ·simp only [k3, r8Ender]
   cases ho : r1IsOne x.op with
   | false => exact .no
   | true => rw [operand_one ho]; exact fin_rl h (by rw [U]) _ _
  by_cases k4 : x.kind = 4
  ·simp only [k4, r8Ender, level_two]
   cases ho : r1IsTwo x.op with
   | false => exact .no
   | true => rw [operand_two ho]; exact fin_rl h (by rw [U]) _ _
  by_cases k5 : x.kind = 5
  ·simp only [k5, r8Ender]; exact fin_rl h (by rw [U]) _ _
  by_cases k6 : x.kind = 6
  ·simp only [k6, r8Ender]; exact nil_rl h (by rw [U]) _
  by_cases k7 : x.kind = 7
  ·simp only [k7, r8Ender]
   by_cases hp : r8Place x.name u.flows 0 < 0
   ·have e : ¬ (decide (r8Place x.name u.flows 0 ≥ 0)) = true := by simp; omega
    simp only [if_pos hp, if_neg e]
    exact .no
   have e : (decide (r8Place x.name u.flows 0 ≥ 0)) = true := by simp; omega
   simp only [if_neg hp, if_pos e]
   cases u.flows[(r8Place x.name u.flows 0).toNat]? with
   | none => exact .no
   | some g => exact fin_rl h (U _) _ _
  by_cases k8 : x.kind = 8
  ·simp only [k8, r8Ender]; exact fin_rl h (hlen _ rfl).symm _ _
  by_cases k9 : x.kind = 9
  ·simp only [k9, r8Ender]; exact nil_rl h (U _) _
  have out0 : ∀ c : Bool, ((x.outs.length : Int) == 0 && c) = true → x.outs = [] := fun c hc => by
    simp only [Bool.and_eq_true, beq_iff_eq] at hc
    exact List.eq_nil_of_length_eq_zero (by omega)
  by_cases k12 : x.kind = 12
  ·simp only [k12, r8Ender]
   show PR _ _ _ ((x.outs.length : Int) == 0 && w.If && shUses f.types st x.args w.Yield, st) (w.If && r8types f.types seen x.args w.Yield && (x.outs.length : Int) == 0, set)
   exact end_rl h (by rw [← U]; cases (w.If) <;> cases ((x.outs.length : Int) == 0) <;> simp) (fun hb => by rw [Bool.and_assoc] at hb; exact out0 _ hb)
  by_cases k13 : x.kind = 13
  ·simp only [k13, r8Ender]
   show PR _ _ _ ((x.outs.length : Int) == 0 && w.Loop && shUses f.types st x.args w.Next, st) (w.Loop && r8types f.types seen x.args w.Next && (x.outs.length : Int) == 0, set)
   exact end_rl h (by rw [← U]; cases (w.Loop) <;> cases ((x.outs.length : Int) == 0) <;> simp) (fun hb => by rw [Bool.and_assoc] at hb; exact out0 _ hb)
  by_cases k14 : x.kind = 14
  ·simp only [k14, r8Ender]
   show PR _ _ _ ((x.outs.length : Int) == 0 && w.Loop && shUses f.types st x.args w.Left, st) (w.Loop && r8types f.types seen x.args w.Left && (x.outs.length : Int) == 0, set)
   exact end_rl h (by rw [← U]; cases (w.Loop) <;> cases ((x.outs.length : Int) == 0) <;> simp) (fun hb => by rw [Bool.and_assoc] at hb; exact out0 _ hb)
  by_cases k15 : x.kind = 15
  ·simp only [k15, r8Ender]
   show PR _ _ _ ((x.outs.length : Int) == 0 && shUses f.types st x.args [f.ty], st) (r8types f.types seen x.args [f.ty] && (x.outs.length : Int) == 0, set)
   exact end_rl h (by rw [← U]; exact Bool.and_comm _ _) (fun hb => out0 _ hb)
  have e1 : (x.kind == 1) = false := by simpa using k1
  have e2 : (x.kind == 2) = false := by simpa using k2
  have e3 : (x.kind == 3) = false := by simpa using k3
  have e4 : (x.kind == 4) = false := by simpa using k4
  have e5 : (x.kind == 5) = false := by simpa using k5
  have e6 : (x.kind == 6) = false := by simpa using k6
  have e7 : (x.kind == 7) = false := by simpa using k7
  have e8 : (x.kind == 8) = false := by simpa using k8
  have e9 : (x.kind == 9) = false := by simpa using k9
  have e12 : (x.kind == 12) = false := by simpa using k12
  have e13 : (x.kind == 13) = false := by simpa using k13
  have e14 : (x.kind == 14) = false := by simpa using k14
  have e15 : (x.kind == 15) = false := by simpa using k15
  have ee : r8Ender x.kind = false := by simp [r8Ender]; omega
  simp only [e1, e2, e3, e4, e5, e6, e7, e8, e9, e12, e13, e14, e15, ee, Bool.false_eq_true, if_false, Bool.or_false]
  exact .no
theorem hideAll_eq : ∀ (l : List Nd) (st : List Int), shHideAll st l = shHide st (l.flatMap Nd.outs)
  | [], _ => rfl
  | x :: r, st => by
    have := hideAll_eq r (shHide st x.outs)
    simp only [shHideAll, List.foldl_cons, List.flatMap_cons, shHide, List.foldl_append] at this ⊢
    exact this
theorem hidden_rl {n : Nat} {st : List Int} {set : List Bool} {all l : List Int} (h : Rl n st set (all ++ l)) (hl : ∀ v ∈ l, 0 ≤ v ∧ v < n ∧ all.contains v = false) : Rl n (shHide st l) set all := by
  refine hide_rl l st set [] all hl (fun v hv => ?_) h.l1 h.l2 h.s (fun v hv hc => ?_)
  ·obtain ⟨h0, h1, _⟩ := hl v hv
   have hu := h.u v.toNat (by omega)
   have hc : (all ++ l).contains ((v.toNat : Nat) : Int) = true := by
     rw [show ((v.toNat : Nat) : Int) = v by omega]
     simp [hv]
   rw [hc] at hu
   have : st.getD v.toNat 0 = 1 := by simpa using hu.symm
   rw [this]; decide
  have hu := h.u v hv
  rw [List.contains_append, hc, Bool.or_false] at hu
  exact hu
def LR (u : Un) (f : Fl) (l : List Nd) : Prop := ∀ (deep : Int) (w : Wh) (st : List Int) (set : List Bool) (seen : List Int), Rl f.types.length st set seen →
  (r8list u f deep w seen set l).1 = (shList u f deep w st l).1 ∧ ((shList u f deep w st l).1 = true → Rl f.types.length (shList u f deep w st l).2 (r8list u f deep w seen set l).2 seen)
theorem andT_PR {n : Nat} {seen outs : List Int} {r : Bool × List Int} {q : Bool × List Bool} {k : List Int → Bool × List Int} {k' : List Bool → Bool × List Bool} (h : q.1 = r.1) (hk : r.1 = true → PR n seen outs (k r.2) (k' q.2)) : PR n seen outs (andQ r k) (andT q k') := by
  unfold andQ andT
  rw [h]
  cases hr : r.1 with
  | false => exact .no
  | true => exact hk hr
theorem tail_rl {f : Fl} {x : Nd} {st : List Int} {set : List Bool} {seen : List Int} (h : Rl f.types.length st set seen) : PR f.types.length seen x.outs (shTail f x st) (r8end f x set) := fin_rl h rfl _ _
theorem node_rl (u : Un) (f : Fl) (x : Nd) (ih : ∀ q ∈ x.kids, LR u f q) (deep : Int) (w : Wh) {st : List Int} {set : List Bool} {seen : List Int} (h : Rl f.types.length st set seen) :
    PR f.types.length seen x.outs (shNode u f deep w st x) (r8node u f deep w seen set x) := by
  cases hb : r8bare x with
  | false => rw [shNode_bare _ _ _ _ _ hb, r8node_bare _ _ _ _ _ _ hb]; exact .no
  | true =>
    by_cases h10 : x.kind = 10
    ·obtain ⟨a, b, hk⟩ := r8bare_if hb h10
     rw [shNode_if _ _ _ _ _ hb h10 hk, r8node_if _ _ _ _ _ _ hb h10 hk, uses_rl h]
     split
     ·obtain ⟨h1, h2⟩ := ih a (by rw [hk]; simp) (deep + 1) ⟨true, w.Loop, r8of f.types x.outs, w.Next, w.Left⟩ st set seen h
      refine andT_PR h1 fun ht => ?_
      obtain ⟨h3, h4⟩ := ih b (by rw [hk]; simp) (deep + 1) ⟨true, w.Loop, r8of f.types x.outs, w.Next, w.Left⟩ _ _ seen (h2 ht)
      exact andT_PR h3 fun ht2 => tail_rl (h4 ht2)
     exact .no
    by_cases h11 : x.kind = 11
    ·obtain ⟨a, hk⟩ := r8bare_loop hb h11
     rw [shNode_loop _ _ _ _ _ hb h11 hk, r8node_loop _ _ _ _ _ _ hb h11 hk, uses_rl h]
     split
     ·obtain ⟨h1, h2⟩ := sets_rl h x.params (List.replicate x.params.length 0)
      refine andT_PR h1 fun ht => ?_
      obtain ⟨h3, h4⟩ := h2 ht
      obtain ⟨h5, h6⟩ := ih a (by rw [hk]; simp) (deep + 1) ⟨false, true, [], r8of f.types x.params, r8of f.types x.outs⟩ _ _ _ h3
      exact andT_PR h5 fun ht2 => tail_rl (hidden_rl (h6 ht2) h4)
     exact .no
    have e10 : (x.kind == 10) = false := by simpa using h10
    have e11 : (x.kind == 11) = false := by simpa using h11
    rw [r8node_simple _ _ _ _ _ _ hb e10 e11]
    have hs := simple_rl u f h x w
    cases he : r8Ender x.kind with
    | true => rw [shNode_end _ _ _ _ _ hb e10 e11 he]; rw [if_pos he] at hs; exact hs
    | false => rw [shNode_simple _ _ _ _ _ hb e10 e11 he]; rw [if_neg (by simp [he])] at hs; exact hs
theorem go_rl (u : Un) (f : Fl) (deep : Int) (w : Wh) : ∀ (l : List Nd), (∀ x ∈ l, ∀ q ∈ x.kids, LR u f q) → ∀ (st : List Int) (set : List Bool) (all : List Int), Rl f.types.length st set all →
    PR f.types.length all (l.flatMap Nd.outs) (shGo u f deep w st l) (r8go u f deep w all set l)
  | [], _, st, set, all, h => by
    unfold shGo r8go
    exact ⟨rfl, fun _ => ⟨by simpa using h, fun v hv => by simp at hv⟩⟩
  | x :: r, ih, st, set, all, h => by
    unfold shGo r8go
    by_cases hd : deep > 100
    ·rw [if_pos hd, if_pos hd]; exact .no
    rw [if_neg hd, if_neg hd]
    obtain ⟨h1, h2⟩ := node_rl u f x (ih x (.head _)) deep w h
    refine andT_PR h1 fun ht => ?_
    obtain ⟨h3, h4⟩ := h2 ht
    by_cases hc : (r8Closed x != r.isEmpty) = true
    ·rw [if_pos hc, if_pos hc]; exact .no
    rw [if_neg hc, if_neg hc]
    obtain ⟨h5, h6⟩ := go_rl u f deep w r (fun y hy => ih y (.tail _ hy)) _ _ _ h3
    refine ⟨h5, fun ht2 => ?_⟩
    obtain ⟨h7, h8⟩ := h6 ht2
    refine ⟨by simpa using h7, fun v hv => ?_⟩
    rw [List.flatMap_cons, List.mem_append] at hv
    rcases hv with hv | hv
    ·exact h4 v hv
    obtain ⟨g1, g2, g3⟩ := h8 v hv
    rw [List.contains_append, Bool.or_eq_false_iff] at g3
    exact ⟨g1, g2, g3.1⟩
theorem list_rl (u : Un) (f : Fl) : ∀ (N : Nat) (l : List Nd), SizeOf.sizeOf l < N → LR u f l
  | 0, _, h => absurd h (Nat.not_lt_zero _)
  | N + 1, l, hN => by
    intro deep w st set seen h
    have ih : ∀ x ∈ l, ∀ q ∈ x.kids, LR u f q := fun x hx q hq => list_rl u f N q (Nat.lt_of_lt_of_le (kid_lt hx rfl hq) (Nat.le_of_lt_succ hN))
    obtain ⟨h1, h2⟩ := go_rl u f deep w l ih st set seen h
    unfold r8list shList ne andQ
    cases l with
    | nil =>
      simp only [List.isEmpty_nil, if_true]
      unfold shGo
      simp [shFin]
    | cons x r =>
      simp only [List.isEmpty_cons, Bool.false_eq_true, if_false]
      rw [h1]
      cases hg : (shGo u f deep w st (x :: r)).1 with
      | false => simp [hg]
      | true =>
        obtain ⟨h3, h4⟩ := h2 hg
        simp only [if_true, shFin]
        refine ⟨by simp, fun _ => ?_⟩
        rw [hideAll_eq]
        exact hidden_rl h3 h4
theorem shList_eq (u : Un) (f : Fl) (deep : Int) (w : Wh) {st : List Int} {set : List Bool} {seen : List Int} (h : Rl f.types.length st set seen) (l : List Nd) : (shList u f deep w st l).1 = (r8list u f deep w seen set l).1 :=
  ((list_rl u f _ l (Nat.lt_succ_self _)) deep w st set seen h).1.symm
theorem start_rl {k n : Nat} (h : k ≤ n) : Rl n (seens k n) (firsts k n) (iota k) := by
  refine ⟨seens_length h, firsts_length h, fun v hv => ?_, fun v hv => ?_⟩
  ·simp only [firsts, seens, List.getD_eq_getElem?_getD]
   by_cases e : v < k
   ·rw [List.getElem?_append_left (by simpa using e), List.getElem?_append_left (by simpa using e)]
    simp [List.getElem?_replicate, e]
   rw [List.getElem?_append_right (by simpa using e), List.getElem?_append_right (by simpa using e)]
   simp only [List.length_replicate, List.getElem?_replicate]
   rw [if_pos (by omega), if_pos (by omega)]
   rfl
  have hc : (iota k).contains (v : Int) = decide (v < k) := by
    simp only [iota]
    by_cases e : v < k
    ·simp [e]
     exact ⟨v, e, rfl⟩
    simp [e]
    intro x hx; omega
  rw [hc]
  simp only [seens, List.getD_eq_getElem?_getD]
  by_cases e : v < k
  ·rw [List.getElem?_append_left (by simpa using e)]
   simp [List.getElem?_replicate, e]
  rw [List.getElem?_append_right (by simpa using e)]
  simp only [List.length_replicate, List.getElem?_replicate]
  rw [if_pos (by omega)]
  simp [e]
theorem any_isTy : ∀ l : List Int, l.any (fun t => !isTy t) = !l.all (fun t => t == 1 || t == 2)
  | [] => rfl
  | t :: r => by rw [List.any_cons, List.all_cons, any_isTy r, Bool.not_and]; rfl
theorem shFlow_eq (u : Un) (f : Fl) (h0 : 0 ≤ f.params) (h1 : f.params ≤ f.types.length) : shFlow u f = r8Flow u f := by
  unfold shFlow r8Flow
  rw [shList_eq u f 1 r8where0 (start_rl (k := f.params.toNat) (by omega)) f.body]
  have e1 : decide (f.params < 0) = false := by simp; omega
  have e2 : decide (f.params > f.types.length) = false := by simp; omega
  have e3 := any_isTy f.types
  rw [e1, e2, e3]
  cases decide (f.params > 8) <;> cases decide ((f.types.length : Int) > 20000) <;> cases f.types.all (fun t => t == 1 || t == 2) <;> simp
def nmA (l : List Ar) : List (List UInt8) := l.map fun a => a.name.toList
def nmF (l : List Fl) : List (List UInt8) := l.map fun a => a.name.toList
theorem array_split (nm : ByteArray) : ∀ (pre l : List Ar) (i : Int), (nm.toList ∈ nmA pre → i ≤ r8Array nm (pre ++ l) i ∧ r8Array nm (pre ++ l) i < i + pre.length) ∧ (nm.toList ∉ nmA pre → r8Array nm (pre ++ l) i = r8Array nm l (i + pre.length))
  | [], l, i => by simp [nmA]
  | a :: pre, l, i => by
    obtain ⟨h1, h2⟩ := array_split nm pre l (i + 1)
    rw [List.cons_append, show r8Array nm (a :: (pre ++ l)) i = if (a.name.toList == nm.toList) = true then i else r8Array nm (pre ++ l) (i + 1) from rfl]
    by_cases e : a.name.toList = nm.toList
    ·have eb : (a.name.toList == nm.toList) = true := by simpa using e
     rw [if_pos eb]
     refine ⟨fun _ => ⟨Int.le_refl _, by simp; omega⟩, fun h => absurd (by simp [nmA, e]) h⟩
    have eb : ¬ (a.name.toList == nm.toList) = true := by simpa using e
    rw [if_neg eb]
    refine ⟨fun h => ?_, fun h => ?_⟩
    ·have : nm.toList ∈ nmA pre := by
       simp only [nmA, List.map_cons, List.mem_cons] at h
       exact h.resolve_left fun h => e h.symm
     have := h1 this
     simp only [List.length_cons]; omega
    have : nm.toList ∉ nmA pre := fun hm => h (by simp only [nmA, List.map_cons, List.mem_cons]; exact .inr hm)
    rw [h2 this]
    congr 1
    simp only [List.length_cons]; omega
theorem place_split (nm : ByteArray) : ∀ (pre l : List Fl) (i : Int), (nm.toList ∈ nmF pre → i ≤ r8Place nm (pre ++ l) i ∧ r8Place nm (pre ++ l) i < i + pre.length) ∧ (nm.toList ∉ nmF pre → r8Place nm (pre ++ l) i = r8Place nm l (i + pre.length))
  | [], l, i => by simp [nmF]
  | a :: pre, l, i => by
    obtain ⟨h1, h2⟩ := place_split nm pre l (i + 1)
    rw [List.cons_append, show r8Place nm (a :: (pre ++ l)) i = if (a.name.toList == nm.toList) = true then i else r8Place nm (pre ++ l) (i + 1) from rfl]
    by_cases e : a.name.toList = nm.toList
    ·have eb : (a.name.toList == nm.toList) = true := by simpa using e
     rw [if_pos eb]
     refine ⟨fun _ => ⟨Int.le_refl _, by simp; omega⟩, fun h => absurd (by simp [nmF, e]) h⟩
    have eb : ¬ (a.name.toList == nm.toList) = true := by simpa using e
    rw [if_neg eb]
    refine ⟨fun h => ?_, fun h => ?_⟩
    ·have : nm.toList ∈ nmF pre := by
       simp only [nmF, List.map_cons, List.mem_cons] at h
       exact h.resolve_left fun h => e h.symm
     have := h1 this
     simp only [List.length_cons]; omega
    have : nm.toList ∉ nmF pre := fun hm => h (by simp only [nmF, List.map_cons, List.mem_cons]; exact .inr hm)
    rw [h2 this]
    congr 1
    simp only [List.length_cons]; omega
theorem place_mem (nm : ByteArray) (l : List Fl) : r8Place nm l 0 ≥ 0 ↔ nm.toList ∈ nmF l := by
  obtain ⟨h1, h2⟩ := place_split nm l [] 0
  rw [List.append_nil] at h1 h2
  by_cases h : nm.toList ∈ nmF l
  ·exact ⟨fun _ => h, fun h => (h1 h).1⟩
  refine ⟨fun h3 => ?_, fun h4 => absurd h4 h⟩
  rw [h2 h] at h3
  simp [r8Place] at h3
theorem array_at (nm : ByteArray) (pre r : List Ar) (a : Ar) (h : a.name.toList = nm.toList) : r8Array nm (pre ++ a :: r) 0 = pre.length ↔ nm.toList ∉ nmA pre := by
  obtain ⟨h1, h2⟩ := array_split nm pre (a :: r) 0
  by_cases e : nm.toList ∈ nmA pre
  ·have := h1 e
   exact ⟨fun h => by omega, fun h => absurd e h⟩
  refine ⟨fun _ => e, fun _ => ?_⟩
  rw [h2 e]
  have eb : (a.name.toList == nm.toList) = true := by simpa using h
  rw [show r8Array nm (a :: r) (0 + pre.length) = if (a.name.toList == nm.toList) = true then (0 + pre.length : Int) else r8Array nm r (0 + pre.length + 1) from rfl, if_pos eb]
  omega
theorem place_at (nm : ByteArray) (pre r : List Fl) (a : Fl) (h : a.name.toList = nm.toList) : r8Place nm (pre ++ a :: r) 0 = pre.length ↔ nm.toList ∉ nmF pre := by
  obtain ⟨h1, h2⟩ := place_split nm pre (a :: r) 0
  by_cases e : nm.toList ∈ nmF pre
  ·have := h1 e
   exact ⟨fun h => by omega, fun h => absurd e h⟩
  refine ⟨fun _ => e, fun _ => ?_⟩
  rw [h2 e]
  have eb : (a.name.toList == nm.toList) = true := by simpa using h
  rw [show r8Place nm (a :: r) (0 + pre.length) = if (a.name.toList == nm.toList) = true then (0 + pre.length : Int) else r8Place nm r (0 + pre.length + 1) from rfl, if_pos eb]
  omega
theorem gA_iff (u : Un) : ∀ (pre l : List Ar), u.arrays = pre ++ l → (r8gA u l pre.length = true ↔ (∀ a ∈ l, shArr a = true ∧ a.name.toList ∉ nmF u.flows ∧ a.name.toList ∉ nmA pre) ∧ (nmA l).Nodup)
  | pre, [], _ => by simp [r8gA, nmA]
  | pre, a :: r, hu => by
    have ih := gA_iff u (pre ++ [a]) r (by simp [hu])
    have hlen : (((pre ++ [a]).length : Nat) : Int) = (pre.length : Int) + 1 := by simp
    rw [hlen] at ih
    rw [r8gA, Bool.and_eq_true, ih]
    have ha : gArr u a pre.length = true ↔ shArr a = true ∧ a.name.toList ∉ nmA pre ∧ a.name.toList ∉ nmF u.flows := by
      have h1 := array_at a.name pre r a rfl
      have h2 := place_mem a.name u.flows
      rw [← hu] at h1
      unfold gArr shArr
      simp only [Bool.and_eq_true, Bool.not_eq_true', decide_eq_false_iff_not, beq_iff_eq, h1, h2]
      constructor
      ·rintro ⟨⟨⟨⟨a1, a2⟩, a3⟩, a4⟩, a5⟩; exact ⟨⟨⟨a1, a2⟩, a3⟩, a4, a5⟩
      rintro ⟨⟨⟨a1, a2⟩, a3⟩, a4, a5⟩; exact ⟨⟨⟨⟨a1, a2⟩, a3⟩, a4⟩, a5⟩
    rw [ha]
    constructor
    ·rintro ⟨⟨b1, b2, b3⟩, b4, b5⟩
     refine ⟨fun x hx => ?_, ?_⟩
     ·rcases List.mem_cons.1 hx with rfl | hx
      ·exact ⟨b1, b3, b2⟩
      obtain ⟨c1, c2, c3⟩ := b4 x hx
      exact ⟨c1, c2, fun h => c3 (by simp only [nmA, List.map_append, List.mem_append]; exact .inl h)⟩
     refine List.nodup_cons.2 ⟨fun h => ?_, b5⟩
     obtain ⟨x, hx, e⟩ := List.mem_map.1 h
     exact (b4 x hx).2.2 (by simp only [nmA, List.map_append, List.mem_append, List.map_cons, List.map_nil, List.mem_singleton]; exact .inr e)
    rintro ⟨b1, b2⟩
    have b3 := List.nodup_cons.1 b2
    obtain ⟨c1, c2, c3⟩ := b1 a (.head _)
    refine ⟨⟨c1, c3, c2⟩, fun x hx => ?_, b3.2⟩
    obtain ⟨d1, d2, d3⟩ := b1 x (.tail _ hx)
    refine ⟨d1, d2, fun h => ?_⟩
    simp only [nmA, List.map_append, List.mem_append, List.map_cons, List.map_nil, List.mem_singleton] at h
    rcases h with h | h
    ·exact d3 h
    exact b3.1 (List.mem_map.2 ⟨x, hx, h⟩)
theorem gF_iff (u : Un) : ∀ (pre l : List Fl), u.flows = pre ++ l → (r8gF u l pre.length = true ↔ (∀ a ∈ l, shFlw a = true ∧ a.name.toList ∉ nmF pre) ∧ (nmF l).Nodup)
  | pre, [], _ => by simp [r8gF, nmF]
  | pre, a :: r, hu => by
    have ih := gF_iff u (pre ++ [a]) r (by simp [hu])
    have hlen : (((pre ++ [a]).length : Nat) : Int) = (pre.length : Int) + 1 := by simp
    rw [hlen] at ih
    rw [r8gF, Bool.and_eq_true, ih]
    have ha : gFlw u a pre.length = true ↔ shFlw a = true ∧ a.name.toList ∉ nmF pre := by
      have h1 := place_at a.name pre r a rfl
      rw [← hu] at h1
      unfold gFlw shFlw isTy
      simp only [Bool.and_eq_true, Bool.not_eq_true', decide_eq_false_iff_not, beq_iff_eq, h1]
      constructor
      ·rintro ⟨⟨⟨⟨a1, a2⟩, a3⟩, a4⟩, a5⟩; exact ⟨⟨⟨⟨a1, a3⟩, a4⟩, a5⟩, a2⟩
      rintro ⟨⟨⟨⟨a1, a3⟩, a4⟩, a5⟩, a2⟩; exact ⟨⟨⟨⟨a1, a2⟩, a3⟩, a4⟩, a5⟩
    rw [ha]
    constructor
    ·rintro ⟨⟨b1, b2⟩, b4, b5⟩
     refine ⟨fun x hx => ?_, ?_⟩
     ·rcases List.mem_cons.1 hx with rfl | hx
      ·exact ⟨b1, b2⟩
      obtain ⟨c1, c3⟩ := b4 x hx
      exact ⟨c1, fun h => c3 (by simp only [nmF, List.map_append, List.mem_append]; exact .inl h)⟩
     refine List.nodup_cons.2 ⟨fun h => ?_, b5⟩
     obtain ⟨x, hx, e⟩ := List.mem_map.1 h
     exact (b4 x hx).2 (by simp only [nmF, List.map_append, List.mem_append, List.map_cons, List.map_nil, List.mem_singleton]; exact .inr e)
    rintro ⟨b1, b2⟩
    have b3 := List.nodup_cons.1 b2
    obtain ⟨c1, c3⟩ := b1 a (.head _)
    refine ⟨⟨c1, c3⟩, fun x hx => ?_, b3.2⟩
    obtain ⟨d1, d3⟩ := b1 x (.tail _ hx)
    refine ⟨d1, fun h => ?_⟩
    simp only [nmF, List.map_append, List.mem_append, List.map_cons, List.map_nil, List.mem_singleton] at h
    rcases h with h | h
    ·exact d3 h
    exact b3.1 (List.mem_map.2 ⟨x, hx, h⟩)
def keysOf (es : List (Value × PV)) : List (List UInt8) := es.map fun e => match e.1 with
  | .string s => s.toList
  | _ => []
theorem mput_keysOf (s : ByteArray) (v : PV) : ∀ (es : List (Value × PV)), Cnt es → (s.toList ∈ keysOf es → keysOf (mput (.string s) v es) = keysOf es) ∧ (s.toList ∉ keysOf es → keysOf (mput (.string s) v es) = keysOf es ++ [s.toList])
  | [], _ => by simp [keysOf, mput]
  | (a, p) :: r, h => by
    have ha := h.1 (a, p) (.head _)
    have hr : Cnt r := ⟨fun e he => h.1 e (.tail _ he), fun e he => h.2 e (.tail _ he)⟩
    obtain ⟨h1, h2⟩ := mput_keysOf s v r hr
    cases a with
    | string t =>
      simp only [mput]
      by_cases e : s.toList = t.toList
      ·have eb : keyB (.string s) (.string t) = true := by simpa [keyB] using e
       rw [if_pos eb]
       exact ⟨fun _ => by simp [keysOf, e], fun h => absurd (by simp [keysOf, e]) h⟩
      have eb : ¬ keyB (.string s) (.string t) = true := by simpa [keyB] using e
      rw [if_neg eb]
      refine ⟨fun h => ?_, fun h => ?_⟩
      ·have : s.toList ∈ keysOf r := by
         simp only [keysOf, List.map_cons, List.mem_cons] at h
         exact h.resolve_left e
       have h3 := h1 this
       simp only [keysOf, List.map_cons] at h3 ⊢
       rw [h3]
      have : s.toList ∉ keysOf r := fun hm => h (by simp only [keysOf, List.map_cons, List.mem_cons]; exact .inr hm)
      have h3 := h2 this
      simp only [keysOf, List.map_cons, List.cons_append] at h3 ⊢
      rw [h3]
    | _ => simp [isKeyB] at ha
theorem bump_keysOf (s : ByteArray) {es : List (Value × PV)} (h : Cnt es) : (s.toList ∈ keysOf es → keysOf (bump s es) = keysOf es) ∧ (s.toList ∉ keysOf es → keysOf (bump s es) = keysOf es ++ [s.toList]) := by
  obtain ⟨n, hn⟩ := h.find (.string s)
  rw [bump_eq hn]
  exact mput_keysOf s _ es h
def countN (es : List (Value × PV)) (l : List ByteArray) : List (Value × PV) := l.foldl (fun e s => bump s e) es
def nmS (l : List ByteArray) : List (List UInt8) := l.map ByteArray.toList
theorem countN_len : ∀ (l : List ByteArray) (es : List (Value × PV)), Cnt es → (keysOf (countN es l)).length ≤ (keysOf es).length + l.length ∧
    ((keysOf (countN es l)).length = (keysOf es).length + l.length ↔ (∀ s ∈ l, s.toList ∉ keysOf es) ∧ (nmS l).Nodup)
  | [], es, _ => by simp [countN, nmS]
  | s :: r, es, h => by
    obtain ⟨ih1, ih2⟩ := countN_len r (bump s es) (h.bump s)
    obtain ⟨h1, h2⟩ := bump_keysOf s h
    show (keysOf (countN (bump s es) r)).length ≤ _ ∧ ((keysOf (countN (bump s es) r)).length = _ ↔ _)
    by_cases e : s.toList ∈ keysOf es
    ·rw [h1 e] at ih1
     refine ⟨by simp only [List.length_cons]; omega, fun hl => by simp only [List.length_cons] at hl; omega, fun hb => absurd e (hb.1 s (.head _))⟩
    have hk := h2 e
    rw [hk] at ih1 ih2
    simp only [List.length_append, List.length_cons, List.length_nil] at ih1 ih2 ⊢
    refine ⟨by omega, ?_⟩
    rw [show (keysOf es).length + (r.length + 1) = (keysOf es).length + (0 + 1) + r.length by omega, ih2]
    constructor
    ·rintro ⟨b1, b2⟩
     refine ⟨fun x hx => ?_, List.nodup_cons.2 ⟨fun hm => ?_, b2⟩⟩
     ·rcases List.mem_cons.1 hx with rfl | hx
      ·exact e
      exact fun hm => b1 x hx (List.mem_append.2 (.inl hm))
     obtain ⟨x, hx, he⟩ := List.mem_map.1 hm
     exact b1 x hx (by rw [he]; simp)
    rintro ⟨b1, b2⟩
    have b3 := List.nodup_cons.1 b2
    refine ⟨fun x hx hm => ?_, b3.2⟩
    rcases List.mem_append.1 hm with hm | hm
    ·exact b1 x (.tail _ hx) hm
    exact b3.1 (List.mem_map.2 ⟨x, hx, by simpa using hm⟩)
theorem count_iff (u : Un) : ((countF (countA [] u.arrays) u.flows).length : Int) = u.arrays.length + u.flows.length ↔ (nmA u.arrays ++ nmF u.flows).Nodup := by
  have e : countF (countA [] u.arrays) u.flows = countN [] (u.arrays.map Ar.name ++ u.flows.map Fl.name) := by
    simp only [countF, countA, countN, List.foldl_append, List.foldl_map]
  have hn : nmS (u.arrays.map Ar.name ++ u.flows.map Fl.name) = nmA u.arrays ++ nmF u.flows := by
    simp only [nmS, nmA, nmF, List.map_append, List.map_map]
    rfl
  obtain ⟨_, h2⟩ := countN_len (u.arrays.map Ar.name ++ u.flows.map Fl.name) [] .nil
  rw [e]
  simp only [keysOf, List.length_map, List.length_append, List.length_nil, Nat.zero_add] at h2
  rw [← hn]
  constructor
  ·intro h; exact (h2.1 (by omega)).2
  intro h
  have := h2.2 ⟨fun s _ => by simp, h⟩
  omega
theorem shHead_eq (u : Un) : shHead u = r8globals u := by
  have hA := gA_iff u [] u.arrays rfl
  have hF := gF_iff u [] u.flows rfl
  simp only [List.length_nil] at hA hF
  rw [Bool.eq_iff_iff]
  unfold shHead r8globals
  simp only [Bool.and_eq_true, List.all_eq_true, beq_iff_eq, count_iff]
  rw [show ((0 : Nat) : Int) = 0 from rfl] at hA hF
  rw [hA, hF, List.nodup_append]
  constructor
  ·rintro ⟨⟨⟨a1, a2⟩, a3, a4, a5⟩, a6⟩
   exact ⟨⟨⟨fun a ha => ⟨a1 a ha, fun hm => a5 _ (List.mem_map.2 ⟨a, ha, rfl⟩) _ hm rfl, by simp [nmA]⟩, a3⟩, fun f hf => ⟨a2 f hf, by simp [nmF]⟩, a4⟩, a6⟩
  rintro ⟨⟨⟨a1, a3⟩, a2, a4⟩, a6⟩
  refine ⟨⟨⟨fun a ha => (a1 a ha).1, fun f hf => (a2 f hf).1⟩, a3, a4, fun x hx y hy e => ?_⟩, a6⟩
  obtain ⟨a, ha, rfl⟩ := List.mem_map.1 hx
  exact (a1 a ha).2.1 (e ▸ hy)
theorem shflows_eq (u : Un) : ∀ (l : List Fl) (i : Int), (∀ f ∈ l, 0 ≤ f.params ∧ f.params ≤ f.types.length) → shflows u l i = r8flows u l i
  | [], _, _ => rfl
  | f :: r, i, h => by
    obtain ⟨h1, h2⟩ := h f (.head _)
    simp only [shflows, r8flows, shFlow_eq u f h1 h2, shflows_eq u r (i + 1) (fun f hf => h f (.tail _ hf))]
theorem shCheck_eq (u : Un) : shCheck u = r8Check u := by
  unfold shCheck r8Check
  rw [shHead_eq]
  cases h : r8globals u with
  | false => rfl
  | true => simp only [if_true]; exact shflows_eq u _ _ (r8globals_params h)
theorem Nd.enc_one (x : Nd) : ∀ y ∈ x.enc, y.one = true := by
  rw [Nd.enc_eq, Nd.cells_eta]
  intro y hy
  simp only [List.mem_cons, List.not_mem_nil, or_false] at hy
  rcases hy with rfl | rfl | rfl | rfl | rfl | rfl | rfl | rfl <;> rfl
def hmless (x : Nd) : Bool := x.kind == 1 || x.kind == 2 || x.kind == 3 || (x.kind == 4 && x.op != 4 && x.op != 5)
def vKey (v : Int) : Value := .int .i64 v
def vsOf (l : List Int) : List (Value × PV) := l.foldl (fun e v => mput (vKey v) (.agg []) e) []
def VSet (es : List (Value × PV)) : Prop := (∀ e ∈ es, isKeyB (.int .i64) e.1 = true) ∧ ∀ e ∈ es, e.2 = .agg []
theorem VSet.nil : VSet [] := ⟨fun _ h => by simp at h, fun _ h => by simp at h⟩
theorem VSet.put {es : List (Value × PV)} (h : VSet es) (v : Int) : VSet (mput (vKey v) (.agg []) es) := by
  refine ⟨fun e he => ?_, fun e he => ?_⟩
  ·rcases mput_mem he with rfl | he
   ·rfl
   exact h.1 e he
  rcases mput_mem he with rfl | he
  ·rfl
  exact h.2 e he
theorem vsOf_snoc (l : List Int) (v : Int) : mput (vKey v) (.agg []) (vsOf l) = vsOf (l ++ [v]) := by simp [vsOf]
theorem VSet.of (l : List Int) : VSet (vsOf l) := by
  have key : ∀ (l : List Int) (es : List (Value × PV)), VSet es → VSet (l.foldl (fun e v => mput (vKey v) (.agg []) e) es) := by
    intro l
    induction l with
    | nil => exact fun _ h => h
    | cons v r ih => exact fun es h => ih _ (h.put v)
  exact key l [] .nil
theorem mfind_put (k k' : Int) (p : PV) : ∀ (es : List (Value × PV)), VSet es → mfind (vKey k) (mput (vKey k') p es) = if k = k' then some p else mfind (vKey k) es
  | [], _ => by
    simp only [mput, mfind]
    by_cases e : k = k'
    ·simp [e, vKey, keyB]
    simp [e, vKey, keyB]
  | (a, q) :: r, h => by
    have ha := h.1 (a, q) (.head _)
    have hr : VSet r := ⟨fun e he => h.1 e (.tail _ he), fun e he => h.2 e (.tail _ he)⟩
    have ih := mfind_put k k' p r hr
    cases a with
    | int kk z =>
      simp only [mput]
      by_cases e1 : k' = z
      ·have b1 : keyB (vKey k') (.int kk z) = true := by simp [vKey, keyB, e1]
       rw [if_pos b1]
       simp only [mfind]
       by_cases e : k = k'
       ·simp [e, vKey, keyB]
       have b2 : ¬ keyB (vKey k) (vKey k') = true := by simp [vKey, keyB, e]
       have b3 : ¬ keyB (vKey k) (.int kk z) = true := by simp [vKey, keyB]; omega
       rw [if_neg b2, if_neg e, if_neg b3]
      have b1 : ¬ keyB (vKey k') (.int kk z) = true := by simp [vKey, keyB, e1]
      rw [if_neg b1]
      simp only [mfind, ih]
      by_cases e : k = z
      ·have b3 : keyB (vKey k) (.int kk z) = true := by simp [vKey, keyB, e]
       rw [if_pos b3, if_neg (by omega), if_pos b3]
      have b3 : ¬ keyB (vKey k) (.int kk z) = true := by simp [vKey, keyB, e]
      rw [if_neg b3, if_neg b3]
    | _ => simp [isKeyB] at ha
theorem vsOf_has (l : List Int) (v : Int) : (mfind (vKey v) (vsOf l)).isSome = l.contains v := by
  have key : ∀ (l : List Int) (es : List (Value × PV)), VSet es → (mfind (vKey v) (l.foldl (fun e v => mput (vKey v) (.agg []) e) es)).isSome = ((mfind (vKey v) es).isSome || l.contains v) := by
    intro l
    induction l with
    | nil => intro es _; simp
    | cons a r ih =>
      intro es h
      rw [List.foldl_cons, ih _ (h.put a), mfind_put _ _ _ _ h, List.contains_cons]
      by_cases e : v = a
      ·simp [e]
      have eb : (v == a) = false := by simpa using e
      rw [if_neg e, eb, Bool.false_or]
  have := key l [] .nil
  simpa [vsOf, mfind] using this
theorem unit_sub {F : Nat → Prop} {ρ : Loc} {σ : Heap'} {w : World} {v : Value} {k : Value} {es : List (Value × PV)} (h : VSet es) (hr : RepI F ρ σ w (.pv ((mfind k es).getD (.val (.agg #[])))) v) : RepI F ρ σ w (.pv (.agg [])) v := by
  cases hf : mfind k es with
  | none =>
    rw [hf] at hr
    obtain rfl := hr.val
    exact .pv _ _ (.agg [] #[] (fun _ => undef) rfl (fun j x hj => by simp at hj) fun j x hj => by simp at hj)
  | some p =>
    obtain ⟨a, ha⟩ := mfind_mem hf
    have := h.2 _ ha
    simp only at this
    subst this
    rw [hf] at hr
    exact hr
theorem enc_snoc (l : List Nd) (x : Nd) : (l ++ [x]).map Nd.enc = l.map Nd.enc ++ [[vInt x.kind, vInt x.op, vInt x.n, vStr x.name, ints x.args, ints x.outs, ints x.params, kids x.kids]] := by
  rw [List.map_append, List.map_cons, List.map_nil, Nd.enc_eq, Nd.cells_eta]
theorem hone_cells (x : Nd) : ∀ el ∈ chunks 8 1 [vInt x.kind, vInt x.op, vInt x.n, vStr x.name, ints x.args, ints x.outs, ints x.params, kids x.kids], ∀ y ∈ el, y.one = true := by
  intro el hel
  have : el = x.enc := by
    rw [Nd.enc_eq, Nd.cells_eta]
    exact List.mem_singleton.1 hel
  subst this
  exact x.enc_one
theorem hone_cells8 (a b c : Int) (s : ByteArray) (l1 l2 l3 : List Int) (ks : List (List Nd)) : ∀ el ∈ chunks 8 1 [vInt a, vInt b, vInt c, vStr s, ints l1, ints l2, ints l3, kids ks], ∀ y ∈ el, y.one = true := hone_cells (.mk a b c s l1 l2 l3 ks)
mutual
def hOkN : Nd → Bool
  | .mk kind op n name args outs params ks => (!hmless (.mk kind op n name args outs params ks) || !outs.isEmpty) && (kind != 11 || !ks.isEmpty) && hOkK ks
def hOkL : List Nd → Bool
  | [] => true
  | x :: r => hOkN x && hOkL r
def hOkK : List (List Nd) → Bool
  | [] => true
  | l :: r => hOkL l && hOkK r
end
theorem hOkN_eq (x : Nd) : hOkN x = ((!hmless x || !x.outs.isEmpty) && (x.kind != 11 || !x.kids.isEmpty) && hOkK x.kids) := by cases x; simp [hOkN, Nd.kind, Nd.outs, Nd.kids]
theorem hone_flow5 (a : ByteArray) (b c : Int) (l : List Int) (ns : List Nd) : ∀ el ∈ chunks 5 1 [vStr a, vInt b, vInt c, ints l, nodes ns], ∀ y ∈ el, y.one = true := by
  intro el hel y hy
  rw [List.mem_singleton.1 hel] at hy
  simp only [List.take, List.mem_cons, List.not_mem_nil, or_false] at hy
  rcases hy with rfl | rfl | rfl | rfl | rfl <;> rfl
theorem empty_unit {F : Nat → Prop} {ρ : Loc} {σ : Heap'} {w : World} {v : Value} (h : RepI F ρ σ w (.pv (.agg [.val (.slice none 0 0), .val (.slice none 0 0)])) v) : RepI F ρ σ w (.pv (Un.enc ⟨[], []⟩)) v :=
  sub_pv (PSub.agg (ps := [.val (.slice none 0 0), .val (.slice none 0 0)]) (qs := [.seq [], .seq []]) (And.intro PSub.nil (And.intro PSub.nil trivial))) h
def wAdd : List Int → List Int → List Int
  | s, [] => s
  | s, v :: r => wAdd (if s.contains v then s else s ++ [v]) r
def wHanded : List Int → List Int → List Int → List Int
  | s, a :: l, t :: to => wHanded (if s.contains t then wAdd s [a] else s) l to
  | s, _, _ => s
structure Hd where
  yield : List Int
  next : List Int
  left : List Int
abbrev hdv (h : Hd) : PV := .agg [ints h.yield, ints h.next, ints h.left]
mutual
def wNode (h : Hd) (s : List Int) : Nd → List Int
  | .mk kind op n name args outs params ks =>
    if kind == 12 then wHanded s args h.yield
    else if kind == 13 then wHanded s args h.next
    else if kind == 14 then wHanded s args h.left
    else if kind == 10 then wKids ⟨outs, h.next, h.left⟩ (wAdd s args) ks
    else if kind == 11 then wKids ⟨[], params, outs⟩ (wHanded s args params) ks
    else if !hmless (.mk kind op n name args outs params ks) || s.contains (outs.headD 0) then wAdd s args else s
def wList (h : Hd) (s : List Int) : List Nd → List Int
  | [] => s
  | x :: r => wList h (wNode h s x) r
def wKids (h : Hd) (s : List Int) : List (List Nd) → List Int
  | [] => s
  | l :: r => wKids h (wList h s l) r
end
theorem wNode_eq (h : Hd) (s : List Int) (x : Nd) : wNode h s x =
    if x.kind == 12 then wHanded s x.args h.yield
    else if x.kind == 13 then wHanded s x.args h.next
    else if x.kind == 14 then wHanded s x.args h.left
    else if x.kind == 10 then wKids ⟨x.outs, h.next, h.left⟩ (wAdd s x.args) x.kids
    else if x.kind == 11 then wKids ⟨[], x.params, x.outs⟩ (wHanded s x.args x.params) x.kids
    else if !hmless x || s.contains (x.outs.headD 0) then wAdd s x.args else s := by
  cases x; simp [wNode, Nd.kind, Nd.args, Nd.outs, Nd.params, Nd.kids]
def wKept (s : List Int) : List Int → List Int → List Int
  | a :: l, t :: to => if s.contains t then a :: wKept s l to else wKept s l to
  | _, _ => []
mutual
def sNode (s : List Int) (h : Hd) : Nd → List Nd
  | .mk kind op n name args outs params ks =>
    if kind == 12 then [.mk kind op n name (wKept s args h.yield) outs params ks]
    else if kind == 13 then [.mk kind op n name (wKept s args h.next) outs params ks]
    else if kind == 14 then [.mk kind op n name (wKept s args h.left) outs params ks]
    else if kind == 10 then [.mk kind op n name args (wKept s outs outs) params (sKids s ⟨outs, h.next, h.left⟩ ks)]
    else if kind == 11 then [.mk kind op n name (wKept s args params) (wKept s outs outs) (wKept s params params) (sKids s ⟨[], params, outs⟩ ks)]
    else if hmless (.mk kind op n name args outs params ks) && !s.contains (outs.headD 0) then [] else [.mk kind op n name args outs params ks]
def sList (s : List Int) (h : Hd) : List Nd → List Nd
  | [] => []
  | x :: r => sNode s h x ++ sList s h r
def sKids (s : List Int) (h : Hd) : List (List Nd) → List (List Nd)
  | [] => []
  | l :: r => sList s h l :: sKids s h r
end
theorem sNode_eq (s : List Int) (h : Hd) (x : Nd) : sNode s h x =
    if x.kind == 12 then [.mk x.kind x.op x.n x.name (wKept s x.args h.yield) x.outs x.params x.kids]
    else if x.kind == 13 then [.mk x.kind x.op x.n x.name (wKept s x.args h.next) x.outs x.params x.kids]
    else if x.kind == 14 then [.mk x.kind x.op x.n x.name (wKept s x.args h.left) x.outs x.params x.kids]
    else if x.kind == 10 then [.mk x.kind x.op x.n x.name x.args (wKept s x.outs x.outs) x.params (sKids s ⟨x.outs, h.next, h.left⟩ x.kids)]
    else if x.kind == 11 then [.mk x.kind x.op x.n x.name (wKept s x.args x.params) (wKept s x.outs x.outs) (wKept s x.params x.params) (sKids s ⟨[], x.params, x.outs⟩ x.kids)]
    else if hmless x && !s.contains (x.outs.headD 0) then [] else [x] := by
  cases x; simp [sNode, Nd.kind, Nd.op, Nd.n, Nd.name, Nd.args, Nd.outs, Nd.params, Nd.kids]
mutual
def wOkN (h : Hd) : Nd → Bool
  | .mk kind op n name args outs params ks =>
    if kind == 12 then decide (h.yield.length ≤ args.length)
    else if kind == 13 then decide (h.next.length ≤ args.length)
    else if kind == 14 then decide (h.left.length ≤ args.length)
    else if kind == 10 then ks.length == 2 && wOkK ⟨outs, h.next, h.left⟩ ks
    else if kind == 11 then decide (params.length ≤ args.length) && (ks.length == 1 && wOkK ⟨[], params, outs⟩ ks)
    else !hmless (.mk kind op n name args outs params ks) || !outs.isEmpty
def wOkL (h : Hd) : List Nd → Bool
  | [] => true
  | x :: r => wOkN h x && wOkL h r
def wOkK (h : Hd) : List (List Nd) → Bool
  | [] => true
  | l :: r => wOkL h l && wOkK h r
end
theorem wOkN_eq (h : Hd) (x : Nd) : wOkN h x =
    if x.kind == 12 then decide (h.yield.length ≤ x.args.length)
    else if x.kind == 13 then decide (h.next.length ≤ x.args.length)
    else if x.kind == 14 then decide (h.left.length ≤ x.args.length)
    else if x.kind == 10 then x.kids.length == 2 && wOkK ⟨x.outs, h.next, h.left⟩ x.kids
    else if x.kind == 11 then decide (x.params.length ≤ x.args.length) && (x.kids.length == 1 && wOkK ⟨[], x.params, x.outs⟩ x.kids)
    else !hmless x || !x.outs.isEmpty := by
  cases x; simp only [wOkN, Nd.kind, Nd.args, Nd.outs, Nd.params, Nd.kids]; rfl
theorem wOkL_mem : ∀ {h : Hd} {l : List Nd} {x : Nd}, wOkL h l = true → x ∈ l → wOkN h x = true
  | h, y :: r, x, hh, hx => by
    simp only [wOkL, Bool.and_eq_true] at hh
    rcases List.mem_cons.1 hx with rfl | hx
    ·exact hh.1
    exact wOkL_mem hh.2 hx
theorem wOkK_mem : ∀ {h : Hd} {l : List (List Nd)} {x : List Nd}, wOkK h l = true → x ∈ l → wOkL h x = true
  | h, y :: r, x, hh, hx => by
    simp only [wOkK, Bool.and_eq_true] at hh
    rcases List.mem_cons.1 hx with rfl | hx
    ·exact hh.1
    exact wOkK_mem hh.2 hx
def Pre (s s' : List Int) : Prop := ∃ q, s' = s ++ q
theorem Pre.refl (s : List Int) : Pre s s := ⟨[], by simp⟩
theorem Pre.trans {a b c : List Int} (h : Pre a b) (h' : Pre b c) : Pre a c := by
  obtain ⟨q, rfl⟩ := h
  obtain ⟨r, rfl⟩ := h'
  exact ⟨q ++ r, by rw [List.append_assoc]⟩
theorem Pre.len {a b : List Int} (h : Pre a b) : a.length ≤ b.length := by obtain ⟨q, rfl⟩ := h; simp
theorem Pre.eq {a b : List Int} (h : Pre a b) (hl : b.length ≤ a.length) : b = a := by
  obtain ⟨q, rfl⟩ := h
  have : q = [] := List.eq_nil_of_length_eq_zero (by simp at hl; omega)
  simp [this]
theorem Pre.sub {a b : List Int} (h : Pre a b) : ∀ v ∈ a, v ∈ b := by
  obtain ⟨q, rfl⟩ := h
  exact fun v hv => List.mem_append.2 (.inl hv)
theorem Pre.two {a b c : List Int} (h : Pre a b) (h' : Pre b c) (e : c = a) : b = a ∧ c = b := by
  have h1 := h.len
  have h2 := h'.len
  have e1 : b = a := h.eq (by rw [← e]; exact h2)
  exact ⟨e1, e.trans e1.symm⟩
theorem wAdd_pre : ∀ (l s : List Int), Pre s (wAdd s l)
  | [], s => .refl s
  | v :: r, s => by
    unfold wAdd
    split
    ·exact wAdd_pre r s
    exact Pre.trans ⟨[v], rfl⟩ (wAdd_pre r _)
theorem wHanded_pre : ∀ (l to s : List Int), Pre s (wHanded s l to)
  | [], _, s => by simp [wHanded]; exact .refl s
  | _ :: _, [], s => by simp [wHanded]; exact .refl s
  | a :: l, t :: to, s => by
    unfold wHanded
    split
    ·exact (wAdd_pre [a] s).trans (wHanded_pre l to _)
    exact wHanded_pre l to s
mutual
theorem wNode_pre : ∀ (x : Nd) (h : Hd) (s : List Int), Pre s (wNode h s x)
  | .mk kind op n name args outs params ks, h, s => by
    unfold wNode
    repeat' split
    ·exact wHanded_pre ..
    ·exact wHanded_pre ..
    ·exact wHanded_pre ..
    ·exact (wAdd_pre ..).trans (wKids_pre ks _ _)
    ·exact (wHanded_pre ..).trans (wKids_pre ks _ _)
    ·exact wAdd_pre ..
    exact .refl s
theorem wList_pre : ∀ (l : List Nd) (h : Hd) (s : List Int), Pre s (wList h s l)
  | [], h, s => by unfold wList; exact .refl s
  | x :: r, h, s => by unfold wList; exact (wNode_pre x h s).trans (wList_pre r h _)
theorem wKids_pre : ∀ (ks : List (List Nd)) (h : Hd) (s : List Int), Pre s (wKids h s ks)
  | [], h, s => by unfold wKids; exact .refl s
  | l :: r, h, s => by unfold wKids; exact (wList_pre l h s).trans (wKids_pre r h _)
end
mutual
def agN : Nd → List Int
  | .mk _ _ _ _ args _ _ ks => args ++ agK ks
def agL : List Nd → List Int
  | [] => []
  | x :: r => agN x ++ agL r
def agK : List (List Nd) → List Int
  | [] => []
  | l :: r => agL l ++ agK r
end
def WIn (A s : List Int) : Prop := s.Nodup ∧ ∀ v ∈ s, v ∈ A
theorem wAdd_in {A : List Int} : ∀ (l s : List Int), WIn A s → (∀ v ∈ l, v ∈ A) → WIn A (wAdd s l)
  | [], s, h, _ => h
  | v :: r, s, h, hl => by
    unfold wAdd
    split
    ·exact wAdd_in r s h fun v hv => hl v (.tail _ hv)
    rename_i hc
    refine wAdd_in r _ ⟨?_, fun w hw => ?_⟩ fun v hv => hl v (.tail _ hv)
    ·rw [List.nodup_append]
     refine ⟨h.1, by simp, fun a ha b hb e => ?_⟩
     obtain rfl := List.mem_singleton.1 hb
     subst e
     exact hc (List.contains_iff_mem.2 ha)
    rcases List.mem_append.1 hw with hw | hw
    ·exact h.2 w hw
    obtain rfl := List.mem_singleton.1 hw
    exact hl _ (.head _)
theorem wHanded_in {A : List Int} : ∀ (l to s : List Int), WIn A s → (∀ v ∈ l, v ∈ A) → WIn A (wHanded s l to)
  | [], _, s, h, _ => by simpa [wHanded] using h
  | _ :: _, [], s, h, _ => by simpa [wHanded] using h
  | a :: l, t :: to, s, h, hl => by
    unfold wHanded
    split
    ·exact wHanded_in l to _ (wAdd_in [a] s h fun v hv => by obtain rfl := List.mem_singleton.1 hv; exact hl _ (.head _)) fun v hv => hl v (.tail _ hv)
    exact wHanded_in l to s h fun v hv => hl v (.tail _ hv)
mutual
theorem wNode_in {A : List Int} : ∀ (x : Nd) (h : Hd) (s : List Int), WIn A s → (∀ v ∈ agN x, v ∈ A) → WIn A (wNode h s x)
  | .mk kind op n name args outs params ks, h, s, hs, hA => by
    have h1 : ∀ v ∈ args, v ∈ A := fun v hv => hA v (by simp [agN, hv])
    have h2 : ∀ v ∈ agK ks, v ∈ A := fun v hv => hA v (by simp [agN, hv])
    unfold wNode
    repeat' split
    ·exact wHanded_in _ _ _ hs h1
    ·exact wHanded_in _ _ _ hs h1
    ·exact wHanded_in _ _ _ hs h1
    ·exact wKids_in ks _ _ (wAdd_in _ _ hs h1) h2
    ·exact wKids_in ks _ _ (wHanded_in _ _ _ hs h1) h2
    ·exact wAdd_in _ _ hs h1
    exact hs
theorem wList_in {A : List Int} : ∀ (l : List Nd) (h : Hd) (s : List Int), WIn A s → (∀ v ∈ agL l, v ∈ A) → WIn A (wList h s l)
  | [], h, s, hs, _ => by unfold wList; exact hs
  | x :: r, h, s, hs, hA => by
    unfold wList
    exact wList_in r h _ (wNode_in x h s hs fun v hv => hA v (by simp [agL, hv])) fun v hv => hA v (by simp [agL, hv])
theorem wKids_in {A : List Int} : ∀ (ks : List (List Nd)) (h : Hd) (s : List Int), WIn A s → (∀ v ∈ agK ks, v ∈ A) → WIn A (wKids h s ks)
  | [], h, s, hs, _ => by unfold wKids; exact hs
  | l :: r, h, s, hs, hA => by
    unfold wKids
    exact wKids_in r h _ (wList_in l h s hs fun v hv => hA v (by simp [agK, hv])) fun v hv => hA v (by simp [agK, hv])
end
theorem nodup_len : ∀ (s A : List Int), s.Nodup → (∀ v ∈ s, v ∈ A) → s.length ≤ A.length
  | [], _, _, _ => Nat.zero_le _
  | v :: r, A, hn, hs => by
    have hv := hs v (.head _)
    have hn2 := List.nodup_cons.1 hn
    have ih := nodup_len r (A.erase v) hn2.2 fun w hw => by
      have hne : w ≠ v := fun e => hn2.1 (e ▸ hw)
      exact (List.mem_erase_of_ne hne).2 (hs w (.tail _ hw))
    rw [List.length_erase_of_mem hv] at ih
    have := List.length_pos_of_mem hv
    simp only [List.length_cons]
    omega
theorem WIn.len {A s : List Int} (h : WIn A s) : s.length ≤ A.length := nodup_len s A h.1 h.2
def hd0 : Hd := ⟨[], [], []⟩
def wStep (l : List Nd) (s : List Int) : List Int := wList hd0 s l
def wIter (l : List Nd) : Nat → List Int
  | 0 => []
  | n + 1 => wStep l (wIter l n)
def wSet (l : List Nd) : List Int := wIter l (agL l).length
theorem wIter_in (l : List Nd) : ∀ n, WIn (agL l) (wIter l n)
  | 0 => ⟨by simp [wIter], by simp [wIter]⟩
  | n + 1 => wList_in l hd0 _ (wIter_in l n) fun _ h => h
theorem wStep_pre (l : List Nd) (s : List Int) : Pre s (wStep l s) := wList_pre l hd0 s
theorem wIter_stay {l : List Nd} {n : Nat} (h : wStep l (wIter l n) = wIter l n) : ∀ k, wIter l (n + k) = wIter l n
  | 0 => rfl
  | k + 1 => by
    show wStep l (wIter l (n + k)) = _
    rw [wIter_stay h k, h]
theorem wIter_done {l : List Nd} {n : Nat} (hn : n ≤ (wIter l n).length) (h : wStep l (wIter l n) = wIter l n) : wIter l n = wSet l := by
  have hl := (wIter_in l n).len
  have := wIter_stay h ((agL l).length - n)
  unfold wSet
  rw [← this]
  congr 1
  omega
theorem wIter_grow {l : List Nd} : ∀ n, (∃ k, k ≤ n ∧ wStep l (wIter l k) = wIter l k) ∨ n ≤ (wIter l n).length
  | 0 => .inr (Nat.zero_le _)
  | n + 1 => by
    rcases wIter_grow (l := l) n with ⟨k, hk, h⟩ | h
    ·exact .inl ⟨k, by omega, h⟩
    have hp := wStep_pre l (wIter l n)
    by_cases e : (wStep l (wIter l n)).length ≤ (wIter l n).length
    ·exact .inl ⟨n, by omega, hp.eq e⟩
    refine .inr ?_
    show n + 1 ≤ (wStep l (wIter l n)).length
    omega
theorem wSet_fix (l : List Nd) : wStep l (wSet l) = wSet l := by
  rcases wIter_grow (l := l) (agL l).length with ⟨k, hk, h⟩ | h
  ·have e : wIter l (agL l).length = wIter l k := by
     have := wIter_stay h ((agL l).length - k)
     rwa [show k + ((agL l).length - k) = (agL l).length by omega] at this
   unfold wSet
   rw [e, h]
  have h2 := (wIter_in l ((agL l).length + 1)).len
  exact (wStep_pre l (wSet l)).eq (Nat.le_trans h2 h)
def wB (l : List Nd) : List Nd := sList (wSet l) hd0 l
theorem wKept_len (s : List Int) : ∀ l to, (wKept s l to).length ≤ to.length
  | [], _ => by simp [wKept]
  | _ :: _, [] => by simp [wKept]
  | a :: l, t :: to => by
    have ih := wKept_len s l to
    unfold wKept
    split <;> simp only [List.length_cons] <;> omega
theorem sNode_len (s : List Int) (h : Hd) (x : Nd) : (sNode s h x).length ≤ 1 := by
  rw [sNode_eq]
  repeat' split
  all_goals simp
theorem sList_len (s : List Int) (h : Hd) : ∀ l, (sList s h l).length ≤ l.length
  | [] => by simp [sList]
  | x :: r => by
    have h1 := sNode_len s h x
    have h2 := sList_len s h r
    simp only [sList, List.length_append, List.length_cons]
    omega
theorem ls_len : ∀ l : List Nd, l.length ≤ lsW l
  | [] => by simp
  | x :: r => by
    have h1 := ls_len r
    have h2 : 1 ≤ ndW x := by cases x; simp only [ndW]; omega
    simp only [lsW, List.length_cons]
    omega
def headTyAt (a b : List Int) (k : Nat) : Bool := decide (k < a.length) && decide (k < b.length) && a.getD k 0 == b.getD k 0
def headTy (a b : List Int) (n : Int) : Bool := (List.range n.toNat).all (headTyAt a b)
def headF (f g : Fl) : Bool := f.name.toList == g.name.toList && f.ty == g.ty && f.params == g.params && headTy f.types g.types f.params
def headFs : List Fl → List Fl → Bool
  | [], [] => true
  | x :: a, y :: b => headF x y && headFs a b
  | _, _ => false
def sameHeads (u v : Un) : Bool := u.arrays.length == v.arrays.length && u.flows.length == v.flows.length && sameAs u.arrays v.arrays && headFs u.flows v.flows
theorem headTy_no {a b : List Int} {n : Int} {k : Nat} (h : (k : Int) < n) (hk : headTyAt a b k = false) : headTy a b n = false := by
  unfold headTy
  rw [List.all_eq_false]
  exact ⟨k, by simp; omega, by simp [hk]⟩
theorem headTy_yes {a b : List Int} {n : Int} {k : Nat} (h : n ≤ k) (hk : ∀ i, i < k → headTyAt a b i = true) : headTy a b n = true := by
  unfold headTy
  rw [List.all_eq_true]
  intro i hi
  exact hk i (by simp at hi; omega)
theorem sameA_self (a : Ar) : sameA a a = true := by simp [sameA]
theorem sameAs_self : ∀ l : List Ar, sameAs l l = true
  | [] => rfl
  | a :: r => by simp [sameAs, sameA_self, sameAs_self r]
def inR (n : Nat) (ds : List Int) : Prop := ∀ v ∈ ds, 0 ≤ v ∧ v < n
def Frs (set : List Bool) (ds : List Int) : Prop := ds.Nodup ∧ ∀ v ∈ ds, set.getD v.toNat false = false
def marks (set : List Bool) (ds : List Int) : List Bool := ds.foldl (fun s v => s.set v.toNat true) set
theorem marks_length : ∀ (ds : List Int) (set : List Bool), (marks set ds).length = set.length
  | [], _ => rfl
  | v :: r, set => by have := marks_length r (set.set v.toNat true); simpa [marks] using this
theorem marks_app (set : List Bool) (a b : List Int) : marks set (a ++ b) = marks (marks set a) b := by simp [marks]
theorem marks_get {n : Nat} : ∀ (ds : List Int) (set : List Bool), set.length = n → inR n ds → ∀ v : Int, 0 ≤ v → v < n → (marks set ds).getD v.toNat false = (ds.contains v || set.getD v.toNat false)
  | [], set, _, _, v, _, _ => by simp [marks]
  | d :: r, set, hn, hr, v, h0, h1 => by
    have ih := marks_get r (set.set d.toNat true) (by simpa using hn) (fun v hv => hr v (.tail _ hv)) v h0 h1
    obtain ⟨d0, d1⟩ := hr d (.head _)
    show (marks (set.set d.toNat true) r).getD v.toNat false = _
    rw [ih, getD_set, List.contains_cons]
    by_cases e : v = d
    ·subst e
     rw [if_pos ⟨rfl, by omega⟩]; simp
    have e2 : ¬ (d.toNat = v.toNat ∧ d.toNat < set.length) := by omega
    have e3 : (v == d) = false := by simpa using e
    rw [if_neg e2, e3, Bool.false_or]
theorem frs_app {n : Nat} {set : List Bool} {a b : List Int} (hn : set.length = n) (ha : inR n a) (hb : inR n b) : Frs set (a ++ b) ↔ Frs set a ∧ Frs (marks set a) b := by
  unfold Frs
  rw [List.nodup_append]
  constructor
  ·rintro ⟨⟨h1, h2, h3⟩, h4⟩
   refine ⟨⟨h1, fun v hv => h4 v (by simp [hv])⟩, h2, fun v hv => ?_⟩
   rw [marks_get a set hn ha v (hb v hv).1 (hb v hv).2, h4 v (by simp [hv])]
   have : a.contains v = false := by
     rw [← Bool.not_eq_true, List.contains_iff_mem]
     exact fun hm => h3 v hm v hv rfl
   rw [this]; rfl
  rintro ⟨⟨h1, h2⟩, h3, h4⟩
  have hkey : ∀ v ∈ b, a.contains v = false ∧ set.getD v.toNat false = false := fun v hv => by
    have := h4 v hv
    rw [marks_get a set hn ha v (hb v hv).1 (hb v hv).2, Bool.or_eq_false_iff] at this
    exact this
  refine ⟨⟨h1, h3, fun x hx y hy e => ?_⟩, fun v hv => ?_⟩
  ·subst e
   have := (hkey x hy).1
   rw [← Bool.not_eq_true, List.contains_iff_mem] at this
   exact this hx
  rcases List.mem_append.1 hv with hv | hv
  ·exact h2 v hv
  exact (hkey v hv).2
def vOuts (tys : List Int) : List Int → List Int → Bool
  | [], [] => true
  | v :: r, w :: ws => shVal tys v w && vOuts tys r ws
  | _, _ => false
theorem vOuts_in {tys : List Int} : ∀ {l want : List Int}, vOuts tys l want = true → inR tys.length l
  | [], [], _ => fun v hv => by simp at hv
  | [], _ :: _, h => by simp [vOuts] at h
  | _ :: _, [], h => by simp [vOuts] at h
  | x :: r, w :: ws, h => by
    simp only [vOuts, Bool.and_eq_true, shVal, decide_eq_true_eq] at h
    intro v hv
    rcases List.mem_cons.1 hv with rfl | hv
    ·exact ⟨h.1.1.1, h.1.1.2⟩
    exact vOuts_in h.2 v hv
theorem vOuts_len {tys : List Int} : ∀ {l want : List Int}, vOuts tys l want = true → l.length = want.length
  | [], [], _ => rfl
  | [], _ :: _, h => by simp [vOuts] at h
  | _ :: _, [], h => by simp [vOuts] at h
  | x :: r, w :: ws, h => by
    simp only [vOuts, Bool.and_eq_true] at h
    simp [vOuts_len h.2]
theorem bad_iff (tys : List Int) (set : List Bool) (v w : Int) : r8bad tys set v w = false ↔ shVal tys v w = true ∧ set.getD v.toNat false = false := by
  unfold r8bad shVal
  simp only [Bool.or_eq_false_iff, decide_eq_false_iff_not, Bool.and_eq_true, decide_eq_true_eq, Bool.or_eq_true]
  constructor
  ·rintro ⟨⟨⟨h1, h2⟩, h3⟩, h4⟩
   refine ⟨⟨⟨by omega, by omega⟩, ?_⟩, h3⟩
   cases hw : (w == 0) with
   | true => exact .inl rfl
   | false => exact .inr (by simpa [bne, hw] using h4)
  rintro ⟨⟨⟨h1, h2⟩, h4⟩, h3⟩
  refine ⟨⟨⟨by omega, by omega⟩, h3⟩, ?_⟩
  rcases h4 with h4 | h4
  ·simp [bne, h4]
  rw [show (tys.getD v.toNat 0 != w) = false from by rw [bne, h4]; rfl, Bool.and_false]
theorem setsGo_iff (tys : List Int) : ∀ (l want : List Int) (set : List Bool), l.length = want.length → set.length = tys.length →
    ((r8setsGo tys set l want).1 = true ↔ vOuts tys l want = true ∧ Frs set l) ∧ ((r8setsGo tys set l want).1 = true → (r8setsGo tys set l want).2 = marks set l)
  | [], [], set, _, _ => by simp [r8setsGo, vOuts, Frs, marks]
  | [], _ :: _, _, h, _ => by simp at h
  | _ :: _, [], _, h, _ => by simp at h
  | x :: r, w :: ws, set, hl, hn => by
    obtain ⟨ih1, ih2⟩ := setsGo_iff tys r ws (set.set x.toNat true) (by simpa using hl) (by simpa using hn)
    simp only [r8setsGo]
    cases hb : r8bad tys set x w with
    | true =>
      simp only [if_true, Bool.false_eq_true, false_iff, not_and, false_implies, and_true]
      intro h1 h2
      simp only [vOuts, Bool.and_eq_true] at h1
      have := (bad_iff tys set x w).2 ⟨h1.1, h2.2 x (.head _)⟩
      rw [hb] at this; cases this
    | false =>
      obtain ⟨b1, b2⟩ := (bad_iff tys set x w).1 hb
      simp only [Bool.false_eq_true, if_false]
      refine ⟨?_, fun h => ih2 h⟩
      rw [ih1]
      simp only [vOuts, b1, Bool.true_and]
      refine and_congr_right fun hv => ?_
      have hx : inR tys.length [x] := fun v hv => by
        obtain rfl := List.mem_singleton.1 hv
        simp only [shVal, Bool.and_eq_true, decide_eq_true_eq] at b1
        exact ⟨b1.1.1, b1.1.2⟩
      have := frs_app (a := [x]) (b := r) hn hx (vOuts_in hv)
      rw [show x :: r = [x] ++ r from rfl, this]
      exact ⟨fun h => ⟨⟨by simp, fun v hv => by obtain rfl := List.mem_singleton.1 hv; exact b2⟩, h⟩, fun h => h.2⟩
theorem sets_iff (tys : List Int) (set : List Bool) (l want : List Int) (hn : set.length = tys.length) :
    ((r8sets tys set l want).1 = true ↔ vOuts tys l want = true ∧ Frs set l) ∧ ((r8sets tys set l want).1 = true → (r8sets tys set l want).2 = marks set l) := by
  unfold r8sets
  by_cases hl : l.length = want.length
  ·have e : ((l.length : Int) == want.length) = true := by simp; omega
   rw [if_pos e]
   exact setsGo_iff tys l want set hl hn
  have e : ¬ ((l.length : Int) == want.length) = true := by simp; omega
  rw [if_neg e]
  refine ⟨⟨fun h => (by cases h), fun h => absurd (vOuts_len h.1) hl⟩, fun h => by cases h⟩
structure SForm where
  b : Bool
  want : Option (List Int)
def SForm.run (s : SForm) (tys : List Int) (outs : List Int) (set : List Bool) : Bool × List Bool := match s.want with
  | some wt => andS s.b set (r8sets tys set outs wt)
  | none => (s.b && (outs.length : Int) == 0, set)
def SForm.ok (s : SForm) (tys : List Int) (outs : List Int) : Bool := match s.want with
  | some wt => s.b && vOuts tys outs wt
  | none => s.b && (outs.length : Int) == 0
def sForm (u : Un) (f : Fl) (x : Nd) (seen : List Int) (w : Wh) : SForm :=
  if x.kind == 1 then ⟨r8types f.types seen x.args [], some [1]⟩
  else if x.kind == 2 then ⟨(x.n == 0 || x.n == 1) && r8types f.types seen x.args [], some [2]⟩
  else if x.kind == 3 then ⟨r1IsOne x.op && r8types f.types seen x.args [(r5Operand x.op).1], some [(r5Operand x.op).2]⟩
  else if x.kind == 4 then ⟨r1IsTwo x.op && r8types f.types seen x.args [(r5Operand x.op).1, (r5Operand x.op).1] && f.types.getD (x.args.getD 0 0).toNat 0 == f.types.getD (x.args.getD 1 0).toNat 0, some [(r5Operand x.op).2]⟩
  else if x.kind == 5 then ⟨decide (r8Array x.name u.arrays 0 ≥ 0) && r8types f.types seen x.args [1], some [1]⟩
  else if x.kind == 6 then ⟨decide (r8Array x.name u.arrays 0 ≥ 0) && r8types f.types seen x.args [1, 1], none⟩
  else if x.kind == 7 then (if decide (r8Place x.name u.flows 0 ≥ 0) = true then match u.flows[(r8Place x.name u.flows 0).toNat]? with
      | some g => ⟨r8types f.types seen x.args (g.types.take g.params.toNat), some [g.ty]⟩
      | none => ⟨false, none⟩
    else ⟨false, none⟩)
  else if x.kind == 8 then ⟨(x.args.length : Int) == 0, some [1]⟩
  else if x.kind == 9 then ⟨r8types f.types seen x.args [1], none⟩
  else if x.kind == 12 then ⟨w.If && r8types f.types seen x.args w.Yield, none⟩
  else if x.kind == 13 then ⟨w.Loop && r8types f.types seen x.args w.Next, none⟩
  else if x.kind == 14 then ⟨w.Loop && r8types f.types seen x.args w.Left, none⟩
  else if x.kind == 15 then ⟨r8types f.types seen x.args [f.ty], none⟩
  else ⟨false, none⟩
theorem simple_form (u : Un) (f : Fl) (set : List Bool) (x : Nd) (seen : List Int) (w : Wh) : r8simple u f set x seen w = (sForm u f x seen w).run f.types x.outs set := by
  unfold r8simple sForm r8call
  by_cases k1 : (x.kind == 1) = true
  ·rw [if_pos k1, if_pos k1]; rfl
  rw [if_neg k1, if_neg k1]
  by_cases k2 : (x.kind == 2) = true
  ·rw [if_pos k2, if_pos k2]; rfl
  rw [if_neg k2, if_neg k2]
  by_cases k3 : (x.kind == 3) = true
  ·rw [if_pos k3, if_pos k3]; rfl
  rw [if_neg k3, if_neg k3]
  by_cases k4 : (x.kind == 4) = true
  ·rw [if_pos k4, if_pos k4]; rfl
  rw [if_neg k4, if_neg k4]
  by_cases k5 : (x.kind == 5) = true
  ·rw [if_pos k5, if_pos k5]; rfl
  rw [if_neg k5, if_neg k5]
  by_cases k6 : (x.kind == 6) = true
  ·rw [if_pos k6, if_pos k6]; rfl
  rw [if_neg k6, if_neg k6]
  by_cases k7 : (x.kind == 7) = true
  ·rw [if_pos k7, if_pos k7]
   by_cases hp : decide (r8Place x.name u.flows 0 ≥ 0) = true
   ·rw [if_pos hp, if_pos hp]
    cases u.flows[(r8Place x.name u.flows 0).toNat]? with
    | none => rfl
    | some g => rfl
   rw [if_neg hp, if_neg hp]; rfl
  rw [if_neg k7, if_neg k7]
  by_cases k8 : (x.kind == 8) = true
  ·rw [if_pos k8, if_pos k8]; rfl
  rw [if_neg k8, if_neg k8]
  by_cases k9 : (x.kind == 9) = true
  ·rw [if_pos k9, if_pos k9]; rfl
  rw [if_neg k9, if_neg k9]
  by_cases k12 : (x.kind == 12) = true
  ·rw [if_pos k12, if_pos k12]; rfl
  rw [if_neg k12, if_neg k12]
  by_cases k13 : (x.kind == 13) = true
  ·rw [if_pos k13, if_pos k13]; rfl
  rw [if_neg k13, if_neg k13]
  by_cases k14 : (x.kind == 14) = true
  ·rw [if_pos k14, if_pos k14]; rfl
  rw [if_neg k14, if_neg k14]
  by_cases k15 : (x.kind == 15) = true
  ·rw [if_pos k15, if_pos k15]; rfl
  rw [if_neg k15, if_neg k15]
  rfl
theorem run_iff {tys outs : List Int} {set : List Bool} (s : SForm) (hn : set.length = tys.length) : ((s.run tys outs set).1 = true ↔ s.ok tys outs = true ∧ Frs set outs) ∧ ((s.run tys outs set).1 = true → (s.run tys outs set).2 = marks set outs) := by
  obtain ⟨b, want⟩ := s
  cases want with
  | some wt =>
    obtain ⟨h1, h2⟩ := sets_iff tys set outs wt hn
    simp only [SForm.run, SForm.ok, andS]
    cases b with
    | false => simp
    | true => simp only [if_true, Bool.true_and]; exact ⟨h1, h2⟩
  | none =>
    simp only [SForm.run, SForm.ok]
    constructor
    ·constructor
     ·intro h
      refine ⟨h, ?_⟩
      simp only [Bool.and_eq_true, beq_iff_eq] at h
      have : outs = [] := List.eq_nil_of_length_eq_zero (by omega)
      subst this
      exact ⟨by simp, fun v hv => by simp at hv⟩
     exact fun h => h.1
    intro h
    simp only [Bool.and_eq_true, beq_iff_eq] at h
    have : outs = [] := List.eq_nil_of_length_eq_zero (by omega)
    subst this
    rfl
theorem ok_in {tys outs : List Int} {s : SForm} (h : s.ok tys outs = true) : inR tys.length outs := by
  obtain ⟨b, want⟩ := s
  cases want with
  | some wt => simp only [SForm.ok, Bool.and_eq_true] at h; exact vOuts_in h.2
  | none =>
    simp only [SForm.ok, Bool.and_eq_true, beq_iff_eq] at h
    have : outs = [] := List.eq_nil_of_length_eq_zero (by omega)
    subst this
    exact fun v hv => by simp at hv
mutual
def dN : Nd → List Int
  | .mk _ _ _ _ _ outs params ks => params ++ (dK ks ++ outs)
def dL : List Nd → List Int
  | [] => []
  | x :: r => dN x ++ dL r
def dK : List (List Nd) → List Int
  | [] => []
  | l :: r => dL l ++ dK r
end
theorem dN_eq (x : Nd) : dN x = x.params ++ (dK x.kids ++ x.outs) := by cases x; simp [dN, Nd.params, Nd.kids, Nd.outs]
def zer (l : List Int) : List Int := List.replicate l.length 0
def w1 (w : Wh) (f : Fl) (x : Nd) : Wh := ⟨true, w.Loop, r8of f.types x.outs, w.Next, w.Left⟩
def w2 (f : Fl) (x : Nd) : Wh := ⟨false, true, [], r8of f.types x.params, r8of f.types x.outs⟩
def outOk (x : Nd) : Bool := (x.outs.length : Int) == 0 || !r8Closed x
mutual
def vNode (u : Un) (f : Fl) (deep : Int) (w : Wh) (seen : List Int) : Nd → Bool
  | .mk kind op n name args outs params kids =>
    r8bare (.mk kind op n name args outs params kids) &&
    (if kind == 10 then
      match kids with
      | a :: b :: _ => r8types f.types seen args [2] && (!a.isEmpty && vGo u f (deep + 1) (w1 w f (.mk kind op n name args outs params kids)) seen a) && (!b.isEmpty && vGo u f (deep + 1) (w1 w f (.mk kind op n name args outs params kids)) seen b) &&
          outOk (.mk kind op n name args outs params kids) && vOuts f.types outs (zer outs)
      | _ => false
    else if kind == 11 then
      match kids with
      | a :: _ => r8types f.types seen args (r8of f.types params) && vOuts f.types params (zer params) && (!a.isEmpty && vGo u f (deep + 1) (w2 f (.mk kind op n name args outs params kids)) (seen ++ params) a) &&
          outOk (.mk kind op n name args outs params kids) && vOuts f.types outs (zer outs)
      | _ => false
    else (sForm u f (.mk kind op n name args outs params kids) seen w).ok f.types outs)
def vGo (u : Un) (f : Fl) (deep : Int) (w : Wh) (all : List Int) : List Nd → Bool
  | [] => true
  | x :: r => !decide (deep > 100) && vNode u f deep w all x && (r8Closed x == r.isEmpty) && vGo u f deep w (all ++ x.outs) r
end
def vList (u : Un) (f : Fl) (deep : Int) (w : Wh) (all : List Int) (l : List Nd) : Bool := !l.isEmpty && vGo u f deep w all l
theorem vNode_if (u : Un) (f : Fl) (deep : Int) (w : Wh) (seen : List Int) {x : Nd} {a b : List Nd} (h : r8bare x = true) (hk : x.kind = 10) (hx : x.kids = [a, b]) :
    vNode u f deep w seen x = (r8types f.types seen x.args [2] && vList u f (deep + 1) (w1 w f x) seen a && vList u f (deep + 1) (w1 w f x) seen b && outOk x && vOuts f.types x.outs (zer x.outs)) := by
  cases x
  simp only [Nd.kind, Nd.kids] at hk hx
  subst hk hx
  unfold vNode
  simp only [h, Bool.true_and, Nd.args, Nd.outs]
  rfl
theorem vNode_loop (u : Un) (f : Fl) (deep : Int) (w : Wh) (seen : List Int) {x : Nd} {a : List Nd} (h : r8bare x = true) (hk : x.kind = 11) (hx : x.kids = [a]) :
    vNode u f deep w seen x = (r8types f.types seen x.args (r8of f.types x.params) && vOuts f.types x.params (zer x.params) && vList u f (deep + 1) (w2 f x) (seen ++ x.params) a && outOk x && vOuts f.types x.outs (zer x.outs)) := by
  cases x
  simp only [Nd.kind, Nd.kids] at hk hx
  subst hk hx
  unfold vNode
  simp only [h, Bool.true_and, Nd.args, Nd.outs, Nd.params]
  rfl
theorem vNode_simple (u : Un) (f : Fl) (deep : Int) (w : Wh) (seen : List Int) {x : Nd} (h : r8bare x = true) (h1 : (x.kind == 10) = false) (h2 : (x.kind == 11) = false) :
    vNode u f deep w seen x = (sForm u f x seen w).ok f.types x.outs := by
  cases x
  simp only [Nd.kind] at h1 h2
  unfold vNode
  simp only [h, Bool.true_and, Nd.outs, h1, h2, Bool.false_eq_true, if_false]
theorem vNode_bare (u : Un) (f : Fl) (deep : Int) (w : Wh) (seen : List Int) {x : Nd} (h : vNode u f deep w seen x = true) : r8bare x = true := by
  cases x
  unfold vNode at h
  simp only [Bool.and_eq_true] at h
  exact h.1
theorem bare_params {x : Nd} (h : r8bare x = true) (hk : (x.kind == 11) = false) : x.params = [] := by
  simp only [r8bare, Bool.and_eq_true, hk, Bool.false_or, beq_iff_eq] at h
  exact List.eq_nil_of_length_eq_zero (by omega)
theorem bare_kids0 {x : Nd} (h : r8bare x = true) (h1 : (x.kind == 10) = false) (h2 : (x.kind == 11) = false) : x.kids = [] := by
  have := r8bare_kids h
  simp only [r8kn, h1, h2, Bool.false_eq_true, if_false] at this
  exact List.eq_nil_of_length_eq_zero (by omega)
theorem dN_simple {x : Nd} (h : r8bare x = true) (h1 : (x.kind == 10) = false) (h2 : (x.kind == 11) = false) : dN x = x.outs := by
  rw [dN_eq, bare_params h h2, bare_kids0 h h1 h2]; rfl
theorem dN_if {x : Nd} {a b : List Nd} (h : r8bare x = true) (hk : x.kind = 10) (hx : x.kids = [a, b]) : dN x = dL a ++ (dL b ++ x.outs) := by
  rw [dN_eq, bare_params h (by rw [hk]; rfl), hx]; simp [dK]
theorem dN_loop {x : Nd} {a : List Nd} (hx : x.kids = [a]) : dN x = x.params ++ (dL a ++ x.outs) := by
  rw [dN_eq, hx]; simp [dK]
theorem inR_app {n : Nat} {a b : List Int} : inR n (a ++ b) ↔ inR n a ∧ inR n b :=
  ⟨fun h => ⟨fun v hv => h v (by simp [hv]), fun v hv => h v (by simp [hv])⟩, fun h v hv => (List.mem_append.1 hv).elim (h.1 v) (h.2 v)⟩
theorem frs_app3 {n : Nat} {set : List Bool} {a b d : List Int} (hn : set.length = n) (ha : inR n a) (hb : inR n b) (hd : inR n d) : Frs set (a ++ (b ++ d)) ↔ Frs set a ∧ Frs (marks set a) b ∧ Frs (marks (marks set a) b) d := by
  rw [frs_app hn ha (inR_app.2 ⟨hb, hd⟩), frs_app ((marks_length a set).trans hn) hb hd]
def RG (u : Un) (f : Fl) (l : List Nd) : Prop := ∀ (deep : Int) (w : Wh) (all : List Int), vGo u f deep w all l = true → inR f.types.length (dL l)
theorem node_in (u : Un) (f : Fl) (x : Nd) (ih : ∀ q ∈ x.kids, RG u f q) (deep : Int) (w : Wh) (seen : List Int) (h : vNode u f deep w seen x = true) : inR f.types.length (dN x) := by
  have hb := vNode_bare u f deep w seen h
  by_cases h10 : x.kind = 10
  ·obtain ⟨a, b, hk⟩ := r8bare_if hb h10
   rw [vNode_if u f deep w seen hb h10 hk] at h
   simp only [Bool.and_eq_true, vList] at h
   rw [dN_if hb h10 hk]
   exact inR_app.2 ⟨ih a (by rw [hk]; simp) _ _ _ h.1.1.1.2.2, inR_app.2 ⟨ih b (by rw [hk]; simp) _ _ _ h.1.1.2.2, vOuts_in h.2⟩⟩
  by_cases h11 : x.kind = 11
  ·obtain ⟨a, hk⟩ := r8bare_loop hb h11
   rw [vNode_loop u f deep w seen hb h11 hk] at h
   simp only [Bool.and_eq_true, vList] at h
   rw [dN_loop hk]
   exact inR_app.2 ⟨vOuts_in h.1.1.1.2, inR_app.2 ⟨ih a (by rw [hk]; simp) _ _ _ h.1.1.2.2, vOuts_in h.2⟩⟩
  have e10 : (x.kind == 10) = false := by simpa using h10
  have e11 : (x.kind == 11) = false := by simpa using h11
  rw [vNode_simple u f deep w seen hb e10 e11] at h
  rw [dN_simple hb e10 e11]
  exact ok_in h
theorem go_in (u : Un) (f : Fl) : ∀ (l : List Nd), (∀ x ∈ l, ∀ q ∈ x.kids, RG u f q) → RG u f l
  | [], _ => fun _ _ _ _ v hv => by simp [dL] at hv
  | x :: r, ih => fun deep w all h => by
    simp only [vGo, Bool.and_eq_true] at h
    exact inR_app.2 ⟨node_in u f x (ih x (.head _)) _ _ _ h.1.1.2, go_in u f r (fun y hy => ih y (.tail _ hy)) _ _ _ h.2⟩
theorem rg_all (u : Un) (f : Fl) : ∀ (N : Nat) (l : List Nd), SizeOf.sizeOf l < N → RG u f l
  | 0, _, h => absurd h (Nat.not_lt_zero _)
  | N + 1, l, hN => go_in u f l fun x hx q hq => rg_all u f N q (Nat.lt_of_lt_of_le (kid_lt hx rfl hq) (Nat.le_of_lt_succ hN))
theorem rg (u : Un) (f : Fl) (l : List Nd) : RG u f l := rg_all u f _ l (Nat.lt_succ_self _)
def CH (u : Un) (f : Fl) (l : List Nd) : Prop := ∀ (deep : Int) (w : Wh) (seen : List Int) (set : List Bool), set.length = f.types.length →
  ((r8list u f deep w seen set l).1 = true ↔ vList u f deep w seen l = true ∧ Frs set (dL l)) ∧ ((r8list u f deep w seen set l).1 = true → (r8list u f deep w seen set l).2 = marks set (dL l))
theorem andT_iff {q : Bool × List Bool} {k : List Bool → Bool × List Bool} : ((andT q k).1 = true ↔ q.1 = true ∧ (k q.2).1 = true) ∧ ((andT q k).1 = true → (andT q k).2 = (k q.2).2) := by
  unfold andT
  cases q.1 with
  | false => simp
  | true => simp
theorem end_iff (f : Fl) (x : Nd) (set : List Bool) (hn : set.length = f.types.length) : ((r8end f x set).1 = true ↔ (outOk x = true ∧ vOuts f.types x.outs (zer x.outs) = true) ∧ Frs set x.outs) ∧ ((r8end f x set).1 = true → (r8end f x set).2 = marks set x.outs) := by
  obtain ⟨h1, h2⟩ := sets_iff f.types set x.outs (zer x.outs) hn
  unfold r8end andS
  show ((if outOk x = true then _ else _ : Bool × List Bool).1 = true ↔ _) ∧ _
  by_cases ho : outOk x = true
  ·simp only [ho, if_true, true_and]
   exact ⟨h1, fun h => by
     have ho2 : ((x.outs.length : Int) == 0 || !r8Closed x) = true := ho
     rw [if_pos ho2] at h ⊢
     exact h2 h⟩
  have ho2 : ¬ ((x.outs.length : Int) == 0 || !r8Closed x) = true := ho
  rw [if_neg ho, if_neg ho2]
  simp [ho]
theorem node_iff (u : Un) (f : Fl) (x : Nd) (ih : ∀ q ∈ x.kids, CH u f q) (deep : Int) (w : Wh) (seen : List Int) (set : List Bool) (hn : set.length = f.types.length) :
    ((r8node u f deep w seen set x).1 = true ↔ vNode u f deep w seen x = true ∧ Frs set (dN x)) ∧ ((r8node u f deep w seen set x).1 = true → (r8node u f deep w seen set x).2 = marks set (dN x)) := by
  cases hb : r8bare x with
  | false =>
    rw [r8node_bare _ _ _ _ _ _ hb]
    refine ⟨⟨fun h => (by cases h), fun h => ?_⟩, fun h => by cases h⟩
    have := vNode_bare u f deep w seen h.1
    rw [hb] at this; cases this
  | true =>
    by_cases h10 : x.kind = 10
    ·obtain ⟨a, b, hk⟩ := r8bare_if hb h10
     rw [r8node_if _ _ _ _ _ _ hb h10 hk, vNode_if u f deep w seen hb h10 hk, dN_if hb h10 hk, show (⟨true, w.Loop, r8of f.types x.outs, w.Next, w.Left⟩ : Wh) = w1 w f x from rfl]
     by_cases ht : r8types f.types seen x.args [2] = true
     ·rw [if_pos ht]
      obtain ⟨a1, a2⟩ := ih a (by rw [hk]; simp) (deep + 1) (w1 w f x) seen set hn
      have hna : (marks set (dL a)).length = f.types.length := (marks_length _ _).trans hn
      obtain ⟨b1, b2⟩ := ih b (by rw [hk]; simp) (deep + 1) (w1 w f x) seen (marks set (dL a)) hna
      have hnb : (marks (marks set (dL a)) (dL b)).length = f.types.length := (marks_length _ _).trans hna
      obtain ⟨e1, e2⟩ := end_iff f x (marks (marks set (dL a)) (dL b)) hnb
      have key : (andT (r8list u f (deep + 1) (w1 w f x) seen set a) (fun s1 => andT (r8list u f (deep + 1) (w1 w f x) seen s1 b) fun s2 => r8end f x s2)).1 = true ↔
          (r8list u f (deep + 1) (w1 w f x) seen set a).1 = true ∧ (r8list u f (deep + 1) (w1 w f x) seen (marks set (dL a)) b).1 = true ∧ (r8end f x (marks (marks set (dL a)) (dL b))).1 = true := by
        rw [andT_iff.1]
        refine and_congr_right fun h => ?_
        rw [a2 h, andT_iff.1]
        exact and_congr_right fun h2 => by rw [b2 h2]
      refine ⟨?_, fun h => ?_⟩
      ·rw [key, a1, b1, e1]
       simp only [ht, Bool.true_and, Bool.and_eq_true]
       constructor
       ·rintro ⟨⟨c1, c2⟩, ⟨c3, c4⟩, ⟨c5, c6⟩, c7⟩
        have ra := rg u f a _ _ _ (by simp only [vList, Bool.and_eq_true] at c1; exact c1.2)
        have rb := rg u f b _ _ _ (by simp only [vList, Bool.and_eq_true] at c3; exact c3.2)
        exact ⟨⟨⟨⟨c1, c3⟩, c5⟩, c6⟩, (frs_app3 hn ra rb (vOuts_in c6)).2 ⟨c2, c4, c7⟩⟩
       rintro ⟨⟨⟨⟨c1, c3⟩, c5⟩, c6⟩, c7⟩
       have ra := rg u f a _ _ _ (by simp only [vList, Bool.and_eq_true] at c1; exact c1.2)
       have rb := rg u f b _ _ _ (by simp only [vList, Bool.and_eq_true] at c3; exact c3.2)
       obtain ⟨d1, d2, d3⟩ := (frs_app3 hn ra rb (vOuts_in c6)).1 c7
       exact ⟨⟨c1, d1⟩, ⟨c3, d2⟩, ⟨c5, c6⟩, d3⟩
      obtain ⟨k1, k2, k3⟩ := key.1 h
      have h' := (andT_iff.1.1 h).2
      rw [andT_iff.2 h, a2 k1]
      rw [a2 k1] at h'
      rw [andT_iff.2 h', b2 k2, e2 k3, marks_app, marks_app]
     rw [if_neg ht]
     refine ⟨⟨fun h => (by cases h), fun h => ?_⟩, fun h => by cases h⟩
     simp only [Bool.and_eq_true] at h
     exact absurd h.1.1.1.1.1 ht
    by_cases h11 : x.kind = 11
    ·obtain ⟨a, hk⟩ := r8bare_loop hb h11
     rw [r8node_loop _ _ _ _ _ _ hb h11 hk, vNode_loop u f deep w seen hb h11 hk, dN_loop hk, show (⟨false, true, [], r8of f.types x.params, r8of f.types x.outs⟩ : Wh) = w2 f x from rfl, show List.replicate x.params.length 0 = zer x.params from rfl]
     by_cases ht : r8types f.types seen x.args (r8of f.types x.params) = true
     ·rw [if_pos ht]
      obtain ⟨a1, a2⟩ := sets_iff f.types set x.params (zer x.params) hn
      have hna : (marks set x.params).length = f.types.length := (marks_length _ _).trans hn
      obtain ⟨b1, b2⟩ := ih a (by rw [hk]; simp) (deep + 1) (w2 f x) (seen ++ x.params) (marks set x.params) hna
      have hnb : (marks (marks set x.params) (dL a)).length = f.types.length := (marks_length _ _).trans hna
      obtain ⟨e1, e2⟩ := end_iff f x (marks (marks set x.params) (dL a)) hnb
      have key : (andT (r8sets f.types set x.params (zer x.params)) (fun s1 => andT (r8list u f (deep + 1) (w2 f x) (seen ++ x.params) s1 a) fun s2 => r8end f x s2)).1 = true ↔
          (r8sets f.types set x.params (zer x.params)).1 = true ∧ (r8list u f (deep + 1) (w2 f x) (seen ++ x.params) (marks set x.params) a).1 = true ∧ (r8end f x (marks (marks set x.params) (dL a))).1 = true := by
        rw [andT_iff.1]
        refine and_congr_right fun h => ?_
        rw [a2 h, andT_iff.1]
        exact and_congr_right fun h2 => by rw [b2 h2]
      refine ⟨?_, fun h => ?_⟩
      ·rw [key, a1, b1, e1]
       simp only [ht, Bool.true_and, Bool.and_eq_true]
       constructor
       ·rintro ⟨⟨c1, c2⟩, ⟨c3, c4⟩, ⟨c5, c6⟩, c7⟩
        have rb := rg u f a _ _ _ (by simp only [vList, Bool.and_eq_true] at c3; exact c3.2)
        exact ⟨⟨⟨⟨c1, c3⟩, c5⟩, c6⟩, (frs_app3 hn (vOuts_in c1) rb (vOuts_in c6)).2 ⟨c2, c4, c7⟩⟩
       rintro ⟨⟨⟨⟨c1, c3⟩, c5⟩, c6⟩, c7⟩
       have rb := rg u f a _ _ _ (by simp only [vList, Bool.and_eq_true] at c3; exact c3.2)
       obtain ⟨d1, d2, d3⟩ := (frs_app3 hn (vOuts_in c1) rb (vOuts_in c6)).1 c7
       exact ⟨⟨c1, d1⟩, ⟨c3, d2⟩, ⟨c5, c6⟩, d3⟩
      obtain ⟨k1, k2, k3⟩ := key.1 h
      have h' := (andT_iff.1.1 h).2
      rw [andT_iff.2 h, a2 k1]
      rw [a2 k1] at h'
      rw [andT_iff.2 h', b2 k2, e2 k3, marks_app, marks_app]
     rw [if_neg ht]
     refine ⟨⟨fun h => (by cases h), fun h => ?_⟩, fun h => by cases h⟩
     simp only [Bool.and_eq_true] at h
     exact absurd h.1.1.1.1.1 ht
    have e10 : (x.kind == 10) = false := by simpa using h10
    have e11 : (x.kind == 11) = false := by simpa using h11
    rw [r8node_simple _ _ _ _ _ _ hb e10 e11, vNode_simple u f deep w seen hb e10 e11, dN_simple hb e10 e11, simple_form]
    exact run_iff _ hn
theorem go_iff (u : Un) (f : Fl) (deep : Int) (w : Wh) : ∀ (l : List Nd), (∀ x ∈ l, ∀ q ∈ x.kids, CH u f q) → ∀ (all : List Int) (set : List Bool), set.length = f.types.length →
    ((r8go u f deep w all set l).1 = true ↔ vGo u f deep w all l = true ∧ Frs set (dL l)) ∧ ((r8go u f deep w all set l).1 = true → (r8go u f deep w all set l).2 = marks set (dL l))
  | [], _, all, set, _ => by simp [r8go, vGo, dL, Frs, marks]
  | x :: r, ih, all, set, hn => by
    obtain ⟨n1, n2⟩ := node_iff u f x (ih x (.head _)) deep w all set hn
    have hm : (marks set (dN x)).length = f.types.length := (marks_length _ _).trans hn
    obtain ⟨r1, r2⟩ := go_iff u f deep w r (fun y hy => ih y (.tail _ hy)) (all ++ x.outs) (marks set (dN x)) hm
    unfold r8go vGo
    by_cases hd : deep > 100
    ·rw [if_pos hd]
     simp [hd]
    rw [if_neg hd]
    have hdb : (!decide (deep > 100)) = true := by simpa using hd
    by_cases hc : (r8Closed x != r.isEmpty) = true
    ·have hcb : (r8Closed x == r.isEmpty) = false := by
       cases hcc : (r8Closed x == r.isEmpty) with
       | false => rfl
       | true => simp [bne, hcc] at hc
     simp only [if_pos hc, hcb, Bool.and_false, Bool.false_and, Bool.false_eq_true, false_and, iff_false, Bool.not_eq_true]
     have : (andT (r8node u f deep w all set x) fun s1 => (false, s1)).1 = false := by
       unfold andT; split <;> rfl
     exact ⟨this, fun h => by rw [this] at h; cases h⟩
    have hcb : (r8Closed x == r.isEmpty) = true := by
      cases hcc : (r8Closed x == r.isEmpty) with
      | true => rfl
      | false => simp [bne, hcc] at hc
    simp only [if_neg hc, hcb, hdb, Bool.true_and, Bool.and_true, Bool.and_eq_true]
    have key : (andT (r8node u f deep w all set x) fun s1 => r8go u f deep w (all ++ x.outs) s1 r).1 = true ↔ (r8node u f deep w all set x).1 = true ∧ (r8go u f deep w (all ++ x.outs) (marks set (dN x)) r).1 = true := by
      rw [andT_iff.1]
      exact and_congr_right fun h => by rw [n2 h]
    refine ⟨?_, fun h => ?_⟩
    ·rw [key, n1, r1]
     constructor
     ·rintro ⟨⟨c1, c2⟩, c3, c4⟩
      exact ⟨⟨c1, c3⟩, (frs_app hn (node_in u f x (fun q _ => rg u f q) _ _ _ c1) (rg u f r _ _ _ c3)).2 ⟨c2, c4⟩⟩
     rintro ⟨⟨c1, c3⟩, c4⟩
     obtain ⟨d1, d2⟩ := (frs_app hn (node_in u f x (fun q _ => rg u f q) _ _ _ c1) (rg u f r _ _ _ c3)).1 c4
     exact ⟨⟨c1, d1⟩, c3, d2⟩
    obtain ⟨k1, k2⟩ := key.1 h
    rw [andT_iff.2 h, n2 k1, r2 k2]
    show _ = marks set (dN x ++ dL r)
    rw [marks_app]
theorem ch_all (u : Un) (f : Fl) : ∀ (N : Nat) (l : List Nd), SizeOf.sizeOf l < N → CH u f l
  | 0, _, h => absurd h (Nat.not_lt_zero _)
  | N + 1, l, hN => by
    intro deep w seen set hn
    obtain ⟨h1, h2⟩ := go_iff u f deep w l (fun x hx q hq => ch_all u f N q (Nat.lt_of_lt_of_le (kid_lt hx rfl hq) (Nat.le_of_lt_succ hN))) seen set hn
    unfold r8list ne vList
    cases l with
    | nil => simp
    | cons x r => simpa using ⟨h1, h2⟩
theorem r8list_iff (u : Un) (f : Fl) (l : List Nd) (deep : Int) (w : Wh) (seen : List Int) (set : List Bool) (hn : set.length = f.types.length) : (r8list u f deep w seen set l).1 = true ↔ vList u f deep w seen l = true ∧ Frs set (dL l) :=
  (ch_all u f _ l (Nat.lt_succ_self _) deep w seen set hn).1
theorem typesGo_sub {tys s s' : List Int} : ∀ {l want : List Int}, (∀ v ∈ l, s.contains v = true → s'.contains v = true) → r8typesGo tys s l want = true → r8typesGo tys s' l want = true
  | [], _, _, _ => by simp [r8typesGo]
  | _ :: _, [], _, _ => by simp [r8typesGo]
  | x :: r, w :: ws, hs, h => by
    simp only [r8typesGo, Bool.and_eq_true] at h ⊢
    refine ⟨?_, typesGo_sub (fun v hv => hs v (.tail _ hv)) h.2⟩
    have h1 := h.1
    unfold r8use at h1 ⊢
    cases hc : s.contains x with
    | false => rw [hc] at h1; simp at h1
    | true => rw [hs x (.head _) hc]; rw [hc] at h1; exact h1
theorem types_sub {tys s s' l want : List Int} (hs : ∀ v ∈ l, s.contains v = true → s'.contains v = true) (h : r8types tys s l want = true) : r8types tys s' l want = true := by
  unfold r8types at h ⊢
  simp only [Bool.and_eq_true] at h ⊢
  exact ⟨h.1, typesGo_sub hs h.2⟩
theorem hmless_kind {x : Nd} (h : hmless x = true) : (x.kind = 1 ∨ x.kind = 2 ∨ x.kind = 3 ∨ x.kind = 4) := by
  simp only [hmless, Bool.or_eq_true, Bool.and_eq_true, beq_iff_eq] at h
  rcases h with ((h | h) | h) | h
  ·exact .inl h
  ·exact .inr (.inl h)
  ·exact .inr (.inr (.inl h))
  exact .inr (.inr (.inr h.1.1))
theorem hmless_no {x : Nd} (h : hmless x = true) : (x.kind == 10) = false ∧ (x.kind == 11) = false ∧ r8Closed x = false ∧ r8LeavesN x = false := by
  have hk := hmless_kind h
  have h10 : (x.kind == 10) = false := by simp; omega
  have h11 : (x.kind == 11) = false := by simp; omega
  have h14 : (x.kind == 14) = false := by simp; omega
  refine ⟨h10, h11, ?_, ?_⟩
  ·simp only [r8Closed, h10, h11, Bool.false_and, Bool.false_eq_true, if_false, r8Ender]
   simp; omega
  rw [r8LeavesN_eq, h10, h14]; rfl
theorem sform_moved {u : Un} {f : Fl} {x : Nd} {s s' : List Int} {w w' : Wh} {outs : List Int} (hm : hmless x = true) (hs : ∀ v ∈ x.args, s.contains v = true → s'.contains v = true) (h : (sForm u f x s w).ok f.types outs = true) :
    (sForm u f x s' w').ok f.types outs = true ∧ outs.length = 1 := by
  have M : ∀ want, r8types f.types s x.args want = true → r8types f.types s' x.args want = true := fun want => types_sub hs
  have F : ∀ (b b' : Bool) (t : Int), (b = true → b' = true) → SForm.ok ⟨b, some [t]⟩ f.types outs = true → SForm.ok ⟨b', some [t]⟩ f.types outs = true ∧ outs.length = 1 := fun b b' t hb h => by
    simp only [SForm.ok, Bool.and_eq_true] at h ⊢
    exact ⟨⟨hb h.1, h.2⟩, vOuts_len h.2⟩
  unfold sForm at h ⊢
  by_cases k1 : (x.kind == 1) = true
  ·rw [if_pos k1] at h ⊢
   exact F _ _ _ (fun hb => M _ hb) h
  rw [if_neg k1] at h ⊢
  by_cases k2 : (x.kind == 2) = true
  ·rw [if_pos k2] at h ⊢
   exact F _ _ _ (fun hb => by simp only [Bool.and_eq_true] at hb ⊢; exact ⟨hb.1, M _ hb.2⟩) h
  rw [if_neg k2] at h ⊢
  by_cases k3 : (x.kind == 3) = true
  ·rw [if_pos k3] at h ⊢
   exact F _ _ _ (fun hb => by simp only [Bool.and_eq_true] at hb ⊢; exact ⟨hb.1, M _ hb.2⟩) h
  rw [if_neg k3] at h ⊢
  by_cases k4 : (x.kind == 4) = true
  ·rw [if_pos k4] at h ⊢
   exact F _ _ _ (fun hb => by simp only [Bool.and_eq_true] at hb ⊢; exact ⟨⟨hb.1.1, M _ hb.1.2⟩, hb.2⟩) h
  rw [if_neg k4] at h ⊢
  have hk := hmless_kind hm
  simp only [beq_iff_eq] at k1 k2 k3 k4
  omega
theorem dL_app : ∀ (a b : List Nd), dL (a ++ b) = dL a ++ dL b
  | [], _ => rfl
  | x :: r, b => by simp only [List.cons_append, dL, dL_app r b, List.append_assoc]
theorem leaves_app : ∀ (a b : List Nd), r8Leaves (a ++ b) = (r8Leaves a || r8Leaves b)
  | [], b => by simp [r8Leaves]
  | x :: r, b => by simp only [List.cons_append, r8Leaves, leaves_app r b, Bool.or_assoc]
theorem contains_headD {l : List Int} (h : l.length = 1) (v : Int) (hv : l.contains v = true) : v = l.headD 0 := by
  match l, h with
  | [a], _ => simpa using hv
theorem bare_kidsEq {kind op n : Int} {name : ByteArray} {args outs params : List Int} {ks ks' : List (List Nd)} (h : ks'.length = ks.length) : r8bare (.mk kind op n name args outs params ks') = r8bare (.mk kind op n name args outs params ks) := by
  unfold r8bare r8op r8num r8name r8kn
  simp only [Nd.kind, Nd.op, Nd.n, Nd.name, Nd.kids, Nd.params]
  rw [h]
  rfl
theorem flows_iff (u : Un) : ∀ (l : List Fl) (i : Int), (r8flows u l i).1 = 0 ↔ ∀ f ∈ l, r8Flow u f = true
  | [], _ => by simp [r8flows]
  | f :: r, i => by
    unfold r8flows
    cases h : r8Flow u f with
    | false => simp [h]
    | true => simp [h, flows_iff u r (i + 1)]
theorem flows_zero (u : Un) : ∀ (l : List Fl) (i : Int), (∀ f ∈ l, r8Flow u f = true) → r8flows u l i = (0, 0)
  | [], _, _ => rfl
  | f :: r, i, h => by
    unfold r8flows
    rw [if_pos (h f (.head _))]
    exact flows_zero u r (i + 1) fun g hg => h g (.tail _ hg)
theorem check_iff (u : Un) : (r8Check u).1 = 0 ↔ r8globals u = true ∧ ∀ f ∈ u.flows, r8Flow u f = true := by
  unfold r8Check
  cases h : r8globals u with
  | false => simp
  | true => simp [flows_iff]
mutual
theorem okN_valid (u : Un) (f : Fl) : ∀ (x : Nd) (deep : Int) (w : Wh) (s : List Int), vNode u f deep w s x = true → hOkN x = true
  | .mk kind op n name args outs params ks, deep, w, s, h => by
    have hb := vNode_bare u f deep w s h
    simp only [hOkN, Bool.and_eq_true]
    refine ⟨⟨?_, ?_⟩, ?_⟩
    ·cases hm : hmless (.mk kind op n name args outs params ks) with
     | false => rfl
     | true =>
       obtain ⟨e10, e11, _, _⟩ := hmless_no hm
       rw [vNode_simple u f deep w s hb e10 e11] at h
       obtain ⟨_, hl⟩ := sform_moved (s' := s) (w' := w) hm (fun _ _ h => h) h
       simp only [Nd.outs] at hl
       cases outs with
       | nil => simp at hl
       | cons _ _ => rfl
    ·cases hk : (kind == 11) with
     | false => simp [bne, hk]
     | true =>
       obtain ⟨a, ha⟩ := r8bare_loop hb (show kind = 11 by simpa using hk)
       simp only [Nd.kids] at ha
       simp [ha]
    by_cases h10 : kind = 10
    ·obtain ⟨a, b, hk⟩ := r8bare_if hb h10
     rw [vNode_if u f deep w s hb h10 hk] at h
     simp only [Bool.and_eq_true, vList] at h
     simp only [Nd.kids] at hk
     match ks, hk with
     | [a', b'], hk =>
       cases hk
       simp only [hOkK, Bool.and_eq_true, Bool.and_true]
       exact ⟨okL_valid u f a _ _ _ h.1.1.1.2.2, okL_valid u f b _ _ _ h.1.1.2.2⟩
    by_cases h11 : kind = 11
    ·obtain ⟨a, hk⟩ := r8bare_loop hb h11
     rw [vNode_loop u f deep w s hb h11 hk] at h
     simp only [Bool.and_eq_true, vList] at h
     simp only [Nd.kids] at hk
     match ks, hk with
     | [a'], hk =>
       cases hk
       simp only [hOkK, Bool.and_true]
       exact okL_valid u f a _ _ _ h.1.1.2.2
    have hk0 := bare_kids0 hb (show (kind == 10) = false by simpa using h10) (show (kind == 11) = false by simpa using h11)
    simp only [Nd.kids] at hk0
    rw [hk0]; rfl
theorem okL_valid (u : Un) (f : Fl) : ∀ (l : List Nd) (deep : Int) (w : Wh) (s : List Int), vGo u f deep w s l = true → hOkL l = true
  | [], _, _, _, _ => rfl
  | x :: r, deep, w, s, h => by
    simp only [vGo, Bool.and_eq_true] at h
    simp only [hOkL, Bool.and_eq_true]
    exact ⟨okN_valid u f x _ _ _ h.1.1.2, okL_valid u f r _ _ _ h.2⟩
end
theorem wtL_app : ∀ (a b : List Nd), wtL (a ++ b) = wtL a + wtL b
  | [], b => by simp [wtL]
  | x :: r, b => by simp only [List.cons_append, wtL, wtL_app r b]; omega
theorem wHanded_one : ∀ {l to s : List Int}, wHanded s l to = s → ∀ v ∈ wKept s l to, v ∈ s
  | [], _, s, _ => by simp [wKept]
  | _ :: _, [], s, _ => by simp [wKept]
  | a :: l, t :: to, s, h => by
    unfold wHanded at h
    unfold wKept
    split at h
    ·rename_i hc
     rw [if_pos hc]
     obtain ⟨e1, e2⟩ := Pre.two (wAdd_pre [a] s) (wHanded_pre l to _) h
     rw [e1] at h
     intro v hv
     rcases List.mem_cons.1 hv with rfl | hv
     ·rw [← e1]
      unfold wAdd wAdd
      split
      ·rename_i hc2; exact List.contains_iff_mem.1 hc2
      exact List.mem_append.2 (.inr (.head _))
     exact wHanded_one h v hv
    rename_i hc
    rw [if_neg hc]
    exact wHanded_one h
theorem wAdd_one : ∀ {l s : List Int}, wAdd s l = s → ∀ v ∈ l, v ∈ s
  | [], _, _ => by simp
  | v :: r, s, h => by
    unfold wAdd at h
    split at h
    ·rename_i hc
     intro w hw
     rcases List.mem_cons.1 hw with rfl | hw
     ·exact List.contains_iff_mem.1 hc
     exact wAdd_one h w hw
    obtain ⟨e1, _⟩ := Pre.two (⟨[v], rfl⟩ : Pre s (s ++ [v])) (wAdd_pre r _) h
    have := congrArg List.length e1
    simp at this
theorem kept_mem {s : List Int} : ∀ {l : List Int} {v : Int}, v ∈ l → v ∈ s → v ∈ wKept s l l
  | a :: l, v, h, hs => by
    unfold wKept
    rcases List.mem_cons.1 h with rfl | h
    ·rw [if_pos (List.contains_iff_mem.2 hs)]; exact .head _
    split
    ·exact .tail _ (kept_mem h hs)
    exact kept_mem h hs
theorem kept_sub {s : List Int} : ∀ (l : List Int), List.Sublist (wKept s l l) l
  | [] => by simp [wKept]
  | a :: l => by
    unfold wKept
    split
    ·exact (kept_sub l).cons_cons a
    exact (kept_sub l).cons a
theorem kept_len_eq {s : List Int} : ∀ {l to : List Int}, l.length = to.length → (wKept s l to).length = (wKept s to to).length
  | [], [], _ => rfl
  | a :: l, t :: to, h => by
    have ih := kept_len_eq (s := s) (l := l) (to := to) (by simpa using h)
    unfold wKept
    split
    ·simp [ih]
    exact ih
  | [], _ :: _, h => by simp at h
  | _ :: _, [], h => by simp at h
def KeepS (s all all' : List Int) : Prop := ∀ v, v ∈ s → all.contains v = true → all'.contains v = true
theorem KeepS.app {s a b c d : List Int} (h : KeepS s a b) (h2 : ∀ v ∈ c, v ∈ s → v ∈ d) : KeepS s (a ++ c) (b ++ d) := fun v hv hc => by
  rw [List.contains_append, Bool.or_eq_true] at hc ⊢
  rcases hc with hc | hc
  ·exact .inl (h v hv hc)
  exact .inr (List.contains_iff_mem.2 (h2 v (List.contains_iff_mem.1 hc) hv))
theorem typesGo_kept {tys all all' s : List Int} (hs : KeepS s all all') : ∀ {l to : List Int}, (∀ v ∈ wKept s l to, v ∈ s) → l.length = to.length → r8typesGo tys all l (to.map fun v => tys.getD v.toNat 0) = true →
    r8typesGo tys all' (wKept s l to) ((wKept s to to).map fun v => tys.getD v.toNat 0) = true
  | [], [], _, _, _ => by simp [wKept, r8typesGo]
  | a :: l, t :: to, hk, hl, h => by
    simp only [List.map_cons, r8typesGo, Bool.and_eq_true] at h
    have hk2 : ∀ v ∈ wKept s l to, v ∈ s := fun v hv => hk v (by unfold wKept; split <;> simp [hv])
    have ih := typesGo_kept hs hk2 (by simpa using hl) h.2
    unfold wKept
    by_cases hc : s.contains t = true
    ·rw [if_pos hc, if_pos hc]
     simp only [List.map_cons, r8typesGo, Bool.and_eq_true]
     refine ⟨?_, ih⟩
     have ha : a ∈ s := hk a (by unfold wKept; rw [if_pos hc]; exact .head _)
     have h1 := h.1
     unfold r8use at h1 ⊢
     cases hac : all.contains a with
     | false => rw [hac] at h1; simp at h1
     | true => rw [hs a ha hac]; rw [hac] at h1; exact h1
    rw [if_neg hc, if_neg hc]
    exact ih
  | [], _ :: _, _, h, _ => by simp at h
  | _ :: _, [], _, h, _ => by simp at h
theorem inr_all {tys l : List Int} (h : inR tys.length l) : l.all (r8inr tys) = true := by
  rw [List.all_eq_true]
  intro v hv
  simp only [r8inr, Bool.and_eq_true, decide_eq_true_eq]
  exact h v hv
theorem r8of_in {tys l : List Int} (h : inR tys.length l) : r8of tys l = l.map fun v => tys.getD v.toNat 0 := by unfold r8of; rw [if_pos (inr_all h)]
theorem inR_kept {n : Nat} {s l : List Int} (h : inR n l) : inR n (wKept s l l) := fun v hv => h v ((kept_sub l).subset hv)
theorem types_kept {tys all all' s l to : List Int} (hs : KeepS s all all') (hk : ∀ v ∈ wKept s l to, v ∈ s) (hr : inR tys.length to) (h : r8types tys all l (r8of tys to) = true) :
    r8types tys all' (wKept s l to) (r8of tys (wKept s to to)) = true := by
  rw [r8of_in hr] at h
  rw [r8of_in (inR_kept hr)]
  unfold r8types at h ⊢
  simp only [Bool.and_eq_true, List.length_map, beq_iff_eq] at h ⊢
  have hl : l.length = to.length := by omega
  exact ⟨by rw [kept_len_eq hl], typesGo_kept hs hk hl h.2⟩
theorem types_len {tys all l to : List Int} (hr : inR tys.length to) (h : r8types tys all l (r8of tys to) = true) : l.length = to.length := by
  rw [r8of_in hr] at h
  unfold r8types at h
  simp only [Bool.and_eq_true, List.length_map, beq_iff_eq] at h
  omega
theorem types_all {tys all all' s l want : List Int} (hs : KeepS s all all') (hl : ∀ v ∈ l, v ∈ s) (h : r8types tys all l want = true) : r8types tys all' l want = true := types_sub (fun v hv => hs v (hl v hv)) h
theorem zer_outs {tys : List Int} : ∀ {l : List Int}, inR tys.length l → vOuts tys l (zer l) = true
  | [], _ => rfl
  | v :: r, h => by
    have h1 := h v (.head _)
    have ih := zer_outs (tys := tys) (l := r) fun w hw => h w (.tail _ hw)
    simp only [zer, List.length_cons, List.replicate_succ, vOuts, Bool.and_eq_true, shVal, decide_eq_true_eq, Bool.or_eq_true]
    exact ⟨⟨h1, .inl rfl⟩, ih⟩
theorem sform_any {u : Un} {f : Fl} {x : Nd} {s s' : List Int} {w w' : Wh} {outs : List Int} (h12 : (x.kind == 12) = false) (h13 : (x.kind == 13) = false) (h14 : (x.kind == 14) = false) (hs : ∀ v ∈ x.args, s.contains v = true → s'.contains v = true) (h : (sForm u f x s w).ok f.types outs = true) : (sForm u f x s' w').ok f.types outs = true := by
  have M : ∀ want, r8types f.types s x.args want = true → r8types f.types s' x.args want = true := fun want => types_sub hs
  have F : ∀ (b b' : Bool) (want : Option (List Int)), (b = true → b' = true) → SForm.ok ⟨b, want⟩ f.types outs = true → SForm.ok ⟨b', want⟩ f.types outs = true := fun b b' want hb h => by
    cases want <;> simp only [SForm.ok, Bool.and_eq_true] at h ⊢ <;> exact ⟨hb h.1, h.2⟩
  unfold sForm at h ⊢
  simp only [h12, h13, h14, Bool.false_eq_true, if_false] at h ⊢
  by_cases k1 : (x.kind == 1) = true
  ·rw [if_pos k1] at h ⊢
   exact F _ _ _ (fun hb => M _ hb) h
  rw [if_neg k1] at h ⊢
  by_cases k2 : (x.kind == 2) = true
  ·rw [if_pos k2] at h ⊢
   exact F _ _ _ (fun hb => by simp only [Bool.and_eq_true] at hb ⊢; exact ⟨hb.1, M _ hb.2⟩) h
  rw [if_neg k2] at h ⊢
  by_cases k3 : (x.kind == 3) = true
  ·rw [if_pos k3] at h ⊢
   exact F _ _ _ (fun hb => by simp only [Bool.and_eq_true] at hb ⊢; exact ⟨hb.1, M _ hb.2⟩) h
  rw [if_neg k3] at h ⊢
  by_cases k4 : (x.kind == 4) = true
  ·rw [if_pos k4] at h ⊢
   exact F _ _ _ (fun hb => by simp only [Bool.and_eq_true] at hb ⊢; exact ⟨⟨hb.1.1, M _ hb.1.2⟩, hb.2⟩) h
  rw [if_neg k4] at h ⊢
  by_cases k5 : (x.kind == 5) = true
  ·rw [if_pos k5] at h ⊢
   exact F _ _ _ (fun hb => by simp only [Bool.and_eq_true] at hb ⊢; exact ⟨hb.1, M _ hb.2⟩) h
  rw [if_neg k5] at h ⊢
  by_cases k6 : (x.kind == 6) = true
  ·rw [if_pos k6] at h ⊢
   exact F _ _ _ (fun hb => by simp only [Bool.and_eq_true] at hb ⊢; exact ⟨hb.1, M _ hb.2⟩) h
  rw [if_neg k6] at h ⊢
  by_cases k7 : (x.kind == 7) = true
  ·rw [if_pos k7] at h ⊢
   by_cases hp : decide (r8Place x.name u.flows 0 ≥ 0) = true
   ·rw [if_pos hp] at h ⊢
    cases hg : u.flows[(r8Place x.name u.flows 0).toNat]? with
    | none => rw [hg] at h; exact h
    | some g => rw [hg] at h; exact F _ _ _ (fun hb => M _ hb) h
   rw [if_neg hp] at h ⊢; exact h
  rw [if_neg k7] at h ⊢
  by_cases k8 : (x.kind == 8) = true
  ·rw [if_pos k8] at h ⊢
   exact h
  rw [if_neg k8] at h ⊢
  by_cases k9 : (x.kind == 9) = true
  ·rw [if_pos k9] at h ⊢
   exact F _ _ _ (fun hb => M _ hb) h
  rw [if_neg k9] at h ⊢
  by_cases k15 : (x.kind == 15) = true
  ·rw [if_pos k15] at h ⊢
   exact F _ _ _ (fun hb => M _ hb) h
  rw [if_neg k15] at h ⊢
  exact h
mutual
theorem sNode_leaves (s : List Int) : ∀ (x : Nd) (h : Hd), r8Leaves (sNode s h x) = r8LeavesN x
  | .mk kind op n name args outs params ks, h => by
    have hk := fun h' => sKids_leaves s ks h'
    unfold sNode
    repeat' split
    all_goals first
    | (simp only [r8Leaves, r8LeavesN, hk, Bool.or_false]; done)
    | (rename_i hm; simp only [Bool.and_eq_true] at hm; rw [(hmless_no hm.1).2.2.2]; rfl)
theorem sList_leaves (s : List Int) : ∀ (l : List Nd) (h : Hd), r8Leaves (sList s h l) = r8Leaves l
  | [], h => by simp [sList]
  | x :: r, h => by simp only [sList, leaves_app, sNode_leaves s x h, sList_leaves s r h, r8Leaves]
theorem sKids_leaves (s : List Int) : ∀ (ks : List (List Nd)) (h : Hd), r8LeavesK (sKids s h ks) = r8LeavesK ks
  | [], h => by simp [sKids]
  | l :: r, h => by simp only [sKids, r8LeavesK, sList_leaves s l h, sKids_leaves s r h]
end
theorem sNode_one (s : List Int) (h : Hd) (x : Nd) (hm : hmless x = false) : ∃ y, sNode s h x = [y] ∧ y.kind = x.kind := by
  rw [sNode_eq]
  repeat' split
  all_goals first
  | exact ⟨_, rfl, rfl⟩
  | (rename_i hh; rw [hm] at hh; simp at hh)
theorem sList_last {u : Un} {f : Fl} {deep : Int} {w : Wh} (s : List Int) (h : Hd) : ∀ {l : List Nd} {all : List Int}, vGo u f deep w all l = true → l ≠ [] → sList s h l ≠ [] ∧ r8last (sList s h l) = r8last l
  | [x], all, hv, _ => by
    simp only [vGo, Bool.and_eq_true] at hv
    have hc : r8Closed x = true := by simpa using hv.1.2
    have hm : hmless x = false := by
      cases hh : hmless x with
      | false => rfl
      | true => rw [(hmless_no hh).2.2.1] at hc; cases hc
    obtain ⟨y, e, hk⟩ := sNode_one s h x hm
    simp [sList, e, r8last, hk]
  | x :: z :: r, all, hv, _ => by
    have hv2 := hv
    unfold vGo at hv2
    simp only [Bool.and_eq_true] at hv2
    obtain ⟨i1, i2⟩ := sList_last s h (l := z :: r) hv2.2 (by simp)
    have e : sList s h (x :: z :: r) = sNode s h x ++ sList s h (z :: r) := by rw [sList]
    have h1 : (sList s h (x :: z :: r)).getLast? = (sList s h (z :: r)).getLast? := by
      rw [e, List.getLast?_append]
      cases hl : (sList s h (z :: r)).getLast? with
      | none => exact absurd (List.getLast?_eq_none_iff.1 hl) i1
      | some q => rfl
    refine ⟨by rw [e]; simp [i1], ?_⟩
    unfold r8last at i2 ⊢
    rw [h1, i2]
    simp [List.getLast?_cons_cons]
def whOf (f : Fl) (i l : Bool) (h : Hd) : Wh := ⟨i, l, r8of f.types h.yield, r8of f.types h.next, r8of f.types h.left⟩
def hKept (s : List Int) (h : Hd) : Hd := ⟨wKept s h.yield h.yield, wKept s h.next h.next, wKept s h.left h.left⟩
def HdIn (f : Fl) (h : Hd) : Prop := inR f.types.length h.yield ∧ inR f.types.length h.next ∧ inR f.types.length h.left
theorem w1_of (f : Fl) (x : Nd) (i l : Bool) (h : Hd) : w1 (whOf f i l h) f x = whOf f true l ⟨x.outs, h.next, h.left⟩ := rfl
theorem w2_of (f : Fl) (x : Nd) : w2 f x = whOf f false true ⟨[], x.params, x.outs⟩ := rfl
def SP (u : Un) (f : Fl) (s : List Int) (l : List Nd) : Prop := ∀ (deep : Int) (i lp : Bool) (h : Hd) (all all' : List Int), HdIn f h → KeepS s all all' → wList h s l = s → vGo u f deep (whOf f i lp h) all l = true → vGo u f deep (whOf f i lp (hKept s h)) all' (sList s h l) = true
theorem SP.list {u : Un} {f : Fl} {s : List Int} {l : List Nd} (hh : SP u f s l) {deep : Int} {i lp : Bool} {h : Hd} {all all' : List Int} (hi : HdIn f h) (hs : KeepS s all all') (hw : wList h s l = s) (hv : vList u f deep (whOf f i lp h) all l = true) : vList u f deep (whOf f i lp (hKept s h)) all' (sList s h l) = true := by
  simp only [vList, Bool.and_eq_true] at hv ⊢
  refine ⟨?_, hh deep i lp h all all' hi hs hw hv.2⟩
  have hne : l ≠ [] := by intro e; subst e; simp at hv
  obtain ⟨h1, _⟩ := sList_last s h hv.2 hne
  cases hq : sList s h l with
  | nil => exact absurd hq h1
  | cons _ _ => rfl
theorem sForm12 {u : Un} {f : Fl} {x : Nd} {s : List Int} {w : Wh} (h : x.kind = 12) : sForm u f x s w = ⟨w.If && r8types f.types s x.args w.Yield, none⟩ := by unfold sForm; simp [h]
theorem sForm13 {u : Un} {f : Fl} {x : Nd} {s : List Int} {w : Wh} (h : x.kind = 13) : sForm u f x s w = ⟨w.Loop && r8types f.types s x.args w.Next, none⟩ := by unfold sForm; simp [h]
theorem sForm14 {u : Un} {f : Fl} {x : Nd} {s : List Int} {w : Wh} (h : x.kind = 14) : sForm u f x s w = ⟨w.Loop && r8types f.types s x.args w.Left, none⟩ := by unfold sForm; simp [h]
def NodeS (u : Un) (f : Fl) (s : List Int) (h : Hd) (deep : Int) (w' : Wh) (all' : List Int) (x : Nd) : Prop :=
  (sNode s h x = [] ∧ r8Closed x = false ∧ ∀ v ∈ x.outs, ¬ v ∈ s) ∨
  ∃ y, sNode s h x = [y] ∧ vNode u f deep w' all' y = true ∧ r8Closed y = r8Closed x ∧ ∀ v ∈ x.outs, v ∈ s → v ∈ y.outs
theorem node_end {u : Un} {f : Fl} {s : List Int} {deep : Int} {w w' : Wh} {all all' : List Int} {x : Nd} (to : List Int) (hto : inR f.types.length to) (hs : KeepS s all all') (hw : wHanded s x.args to = s) (hb : r8bare x = true) (h10 : (x.kind == 10) = false) (h11 : (x.kind == 11) = false)
    (b : Bool) (hf : sForm u f x all w = ⟨b && r8types f.types all x.args (r8of f.types to), none⟩)
    (hf' : sForm u f (.mk x.kind x.op x.n x.name (wKept s x.args to) x.outs x.params x.kids) all' w' = ⟨b && r8types f.types all' (wKept s x.args to) (r8of f.types (wKept s to to)), none⟩)
    (hv : vNode u f deep w all x = true) : vNode u f deep w' all' (.mk x.kind x.op x.n x.name (wKept s x.args to) x.outs x.params x.kids) = true := by
  have hb2 : r8bare (.mk x.kind x.op x.n x.name (wKept s x.args to) x.outs x.params x.kids) = true := by cases x; exact hb
  rw [vNode_simple u f deep w all hb h10 h11, hf] at hv
  rw [vNode_simple u f deep w' all' hb2 h10 h11, hf']
  simp only [SForm.ok, Bool.and_eq_true] at hv ⊢
  exact ⟨⟨hv.1.1, types_kept hs (wHanded_one hw) hto hv.1.2⟩, hv.2⟩
theorem node_s (u : Un) (f : Fl) (s : List Int) (x : Nd) (ih : ∀ q ∈ x.kids, SP u f s q) (deep : Int) (i lp : Bool) (h : Hd) (all all' : List Int) (hi : HdIn f h) (hs : KeepS s all all') (hw : wNode h s x = s) (hv : vNode u f deep (whOf f i lp h) all x = true) :
    NodeS u f s h deep (whOf f i lp (hKept s h)) all' x := by
  have hb := vNode_bare u f deep _ all hv
  rw [wNode_eq] at hw
  unfold NodeS
  rw [sNode_eq]
  by_cases h12 : x.kind = 12
  ·have e : (x.kind == 12) = true := by simp [h12]
   rw [if_pos e] at hw ⊢
   refine .inr ⟨_, rfl, node_end h.yield hi.1 hs hw hb (by simp [h12]) (by simp [h12]) i (sForm12 h12) (sForm12 h12) hv, by cases x; rfl, fun v hv _ => hv⟩
  rw [if_neg (by simpa using h12)] at hw ⊢
  by_cases h13 : x.kind = 13
  ·have e : (x.kind == 13) = true := by simp [h13]
   rw [if_pos e] at hw ⊢
   refine .inr ⟨_, rfl, node_end h.next hi.2.1 hs hw hb (by simp [h13]) (by simp [h13]) lp (sForm13 h13) (sForm13 h13) hv, by cases x; rfl, fun v hv _ => hv⟩
  rw [if_neg (by simpa using h13)] at hw ⊢
  by_cases h14 : x.kind = 14
  ·have e : (x.kind == 14) = true := by simp [h14]
   rw [if_pos e] at hw ⊢
   refine .inr ⟨_, rfl, node_end h.left hi.2.2 hs hw hb (by simp [h14]) (by simp [h14]) lp (sForm14 h14) (sForm14 h14) hv, by cases x; rfl, fun v hv _ => hv⟩
  rw [if_neg (by simpa using h14)] at hw ⊢
  by_cases h10 : x.kind = 10
  ·have e : (x.kind == 10) = true := by simp [h10]
   rw [if_pos e] at hw ⊢
   obtain ⟨a, b, hk⟩ := r8bare_if hb h10
   obtain ⟨e1, e2⟩ := Pre.two (wAdd_pre x.args s) (wKids_pre x.kids _ _) hw
   rw [e1, hk] at hw
   simp only [wKids] at hw
   obtain ⟨e3, e4⟩ := Pre.two (wList_pre a _ s) (wList_pre b _ _) hw
   rw [e3] at hw
   rw [vNode_if u f deep _ all hb h10 hk, w1_of] at hv
   simp only [Bool.and_eq_true] at hv
   have hin : HdIn f ⟨x.outs, h.next, h.left⟩ := ⟨vOuts_in hv.2, hi.2⟩
   have ha := (ih a (by rw [hk]; simp)).list hin hs e3 hv.1.1.1.2
   have hbb := (ih b (by rw [hk]; simp)).list hin hs hw hv.1.1.2
   have hva := hv.1.1.1.2
   have hvb := hv.1.1.2
   simp only [vList, Bool.and_eq_true] at hva hvb
   have hla := (sList_last s ⟨x.outs, h.next, h.left⟩ hva.2 (by intro e; simp [e] at hva)).2
   have hlb := (sList_last s ⟨x.outs, h.next, h.left⟩ hvb.2 (by intro e; simp [e] at hvb)).2
   cases x with
   | mk kind op n name args outs params ks =>
     simp only [Nd.kind, Nd.kids, Nd.outs, Nd.args, Nd.params, Nd.op, Nd.n, Nd.name] at *
     subst h10 hk
     have hc : r8Closed (.mk 10 op n name args (wKept s outs outs) params (sKids s ⟨outs, h.next, h.left⟩ [a, b])) = r8Closed (.mk 10 op n name args outs params [a, b]) := by
       simp [r8Closed, sKids, Nd.kind, Nd.kids, kid0, kid1, hla, hlb]
     refine .inr ⟨_, rfl, ?_, hc, fun v hv hvs => kept_mem hv hvs⟩
     have hb2 : r8bare (.mk 10 op n name args (wKept s outs outs) params (sKids s ⟨outs, h.next, h.left⟩ [a, b])) = true := (bare_kidsEq (ks := [a, b]) rfl).trans hb
     rw [vNode_if u f deep _ all' hb2 rfl rfl, w1_of]
     simp only [Bool.and_eq_true]
     refine ⟨⟨⟨⟨types_all hs (wAdd_one e1) hv.1.1.1.1, ha⟩, hbb⟩, ?_⟩, zer_outs (inR_kept (vOuts_in hv.2))⟩
     have ho := hv.1.2
     unfold outOk at ho ⊢
     rw [hc]
     simp only [Nd.outs, Bool.or_eq_true, beq_iff_eq] at ho ⊢
     refine ho.imp_left fun e => ?_
     have := wKept_len s outs outs
     omega
  rw [if_neg (by simpa using h10)] at hw ⊢
  by_cases h11 : x.kind = 11
  ·have e : (x.kind == 11) = true := by simp [h11]
   rw [if_pos e] at hw ⊢
   obtain ⟨a, hk⟩ := r8bare_loop hb h11
   obtain ⟨e1, e2⟩ := Pre.two (wHanded_pre x.args x.params s) (wKids_pre x.kids _ _) hw
   rw [e1, hk] at hw
   simp only [wKids] at hw
   rw [vNode_loop u f deep _ all hb h11 hk, w2_of] at hv
   simp only [Bool.and_eq_true] at hv
   have hp : inR f.types.length x.params := vOuts_in hv.1.1.1.2
   have hin : HdIn f ⟨[], x.params, x.outs⟩ := ⟨fun v hv => by simp at hv, hp, vOuts_in hv.2⟩
   have hs2 : KeepS s (all ++ x.params) (all' ++ wKept s x.params x.params) := hs.app fun v hv hvs => kept_mem hv hvs
   have ha := (ih a (by rw [hk]; simp)).list hin hs2 hw hv.1.1.2
   have hl := sList_leaves s a ⟨[], x.params, x.outs⟩
   cases x with
   | mk kind op n name args outs params ks =>
     simp only [Nd.kind, Nd.kids, Nd.outs, Nd.args, Nd.params, Nd.op, Nd.n, Nd.name] at *
     subst h11 hk
     have hc : r8Closed (.mk 11 op n name (wKept s args params) (wKept s outs outs) (wKept s params params) (sKids s ⟨[], params, outs⟩ [a])) = r8Closed (.mk 11 op n name args outs params [a]) := by
       simp [r8Closed, sKids, Nd.kind, Nd.kids, kid0, hl]
     refine .inr ⟨_, rfl, ?_, hc, fun v hv hvs => kept_mem hv hvs⟩
     have hb2 : r8bare (.mk 11 op n name (wKept s args params) (wKept s outs outs) (wKept s params params) (sKids s ⟨[], params, outs⟩ [a])) = true := (show _ = r8bare (.mk 11 op n name args outs params [a]) from rfl).trans hb
     rw [vNode_loop u f deep _ all' hb2 rfl rfl, w2_of]
     simp only [Bool.and_eq_true]
     refine ⟨⟨⟨⟨types_kept hs (wHanded_one e1) hp hv.1.1.1.1, zer_outs (inR_kept hp)⟩, ha⟩, ?_⟩, zer_outs (inR_kept (vOuts_in hv.2))⟩
     have ho := hv.1.2
     unfold outOk at ho ⊢
     rw [hc]
     simp only [Nd.outs, Bool.or_eq_true, beq_iff_eq] at ho ⊢
     refine ho.imp_left fun e => ?_
     have := wKept_len s outs outs
     omega
  rw [if_neg (by simpa using h11)] at hw ⊢
  have e10 : (x.kind == 10) = false := by simpa using h10
  have e11 : (x.kind == 11) = false := by simpa using h11
  rw [vNode_simple u f deep _ all hb e10 e11] at hv
  by_cases hd : (hmless x && !s.contains (x.outs.headD 0)) = true
  ·rw [if_pos hd]
   simp only [Bool.and_eq_true, Bool.not_eq_true'] at hd
   obtain ⟨_, hol⟩ := sform_moved (s' := all) (w' := whOf f i lp h) hd.1 (fun _ _ h => h) hv
   refine .inl ⟨rfl, (hmless_no hd.1).2.2.1, fun v hv hvs => ?_⟩
   have := contains_headD hol v (List.contains_iff_mem.2 hv)
   rw [← this, List.contains_iff_mem.2 hvs] at hd
   cases hd.2
  rw [if_neg hd]
  have hc : (!hmless x || s.contains (x.outs.headD 0)) = true := by
    cases h1 : hmless x <;> cases h2 : s.contains (x.outs.headD 0) <;> simp_all
  rw [if_pos hc] at hw
  refine .inr ⟨x, rfl, ?_, rfl, fun v hv _ => hv⟩
  rw [vNode_simple u f deep _ all' hb e10 e11]
  exact sform_any (by simpa using h12) (by simpa using h13) (by simpa using h14) (fun v hv => hs v (wAdd_one hw v hv)) hv
theorem go_s (u : Un) (f : Fl) (s : List Int) : ∀ (l : List Nd), (∀ x ∈ l, ∀ q ∈ x.kids, SP u f s q) → SP u f s l
  | [], _ => fun _ _ _ _ _ _ _ _ _ _ => by simp [sList, vGo]
  | x :: r, ih => fun deep i lp h all all' hi hs hw hv => by
    have hv0 := hv
    simp only [vGo, Bool.and_eq_true] at hv
    obtain ⟨⟨⟨hd, hx⟩, hc⟩, hr⟩ := hv
    unfold wList at hw
    obtain ⟨e1, e2⟩ := Pre.two (wNode_pre x h s) (wList_pre r h _) hw
    rw [e1] at hw
    rw [show sList s h (x :: r) = sNode s h x ++ sList s h r by rw [sList]]
    rcases node_s u f s x (ih x (.head _)) deep i lp h all all' hi hs e1 hx with ⟨h1, h2, h3⟩ | ⟨y, h1, h2, h3, h4⟩
    ·rw [h1, List.nil_append]
     refine go_s u f s r (fun z hz => ih z (.tail _ hz)) deep i lp h _ all' hi (fun v hv hc => ?_) hw hr
     rw [List.contains_append, Bool.or_eq_true] at hc
     rcases hc with hc | hc
     ·exact hs v hv hc
     exact absurd hv (h3 v (List.contains_iff_mem.1 hc))
    rw [h1, List.singleton_append]
    simp only [vGo, Bool.and_eq_true]
    refine ⟨⟨⟨hd, h2⟩, ?_⟩, go_s u f s r (fun z hz => ih z (.tail _ hz)) deep i lp h _ _ hi (hs.app h4) hw hr⟩
    rw [h3]
    have he : (sList s h r).isEmpty = r.isEmpty := by
      cases r with
      | nil => simp [sList]
      | cons z r' =>
        obtain ⟨g1, _⟩ := sList_last s h hr (by simp)
        cases hq : sList s h (z :: r') with
        | nil => exact absurd hq g1
        | cons _ _ => rfl
    rw [he]; exact hc
theorem sp_all (u : Un) (f : Fl) (s : List Int) : ∀ (N : Nat) (l : List Nd), SizeOf.sizeOf l < N → SP u f s l
  | 0, _, h => absurd h (Nat.not_lt_zero _)
  | N + 1, l, hN => go_s u f s l fun x hx q hq => sp_all u f s N q (Nat.lt_of_lt_of_le (kid_lt hx rfl hq) (Nat.le_of_lt_succ hN))
theorem vList_want (u : Un) (f : Fl) {all : List Int} {l : List Nd} (h : vList u f 1 r8where0 all l = true) : vList u f 1 r8where0 all (sList (wSet l) hd0 l) = true :=
  (sp_all u f (wSet l) _ l (Nat.lt_succ_self _)).list (i := false) (lp := false) (h := hd0) ⟨fun v hv => by simp [hd0] at hv, fun v hv => by simp [hd0] at hv, fun v hv => by simp [hd0] at hv⟩ (fun v _ hc => hc) (wSet_fix l) h
mutual
theorem sNode_sub (s : List Int) : ∀ (x : Nd) (h : Hd), List.Sublist (dL (sNode s h x)) (dN x)
  | .mk kind op n name args outs params ks, h => by
    have hk := fun h' => sKids_sub s ks h'
    unfold sNode
    repeat' split
    ·simp [dL, dN]
    ·simp [dL, dN]
    ·simp [dL, dN]
    ·simp only [dL, dN, List.append_nil]
     exact (List.Sublist.refl _).append ((hk _).append (kept_sub _))
    ·simp only [dL, dN, List.append_nil]
     exact (kept_sub _).append ((hk _).append (kept_sub _))
    ·simp [dL]
    simp [dL, dN]
theorem sList_sub (s : List Int) : ∀ (l : List Nd) (h : Hd), List.Sublist (dL (sList s h l)) (dL l)
  | [], h => by simp [sList]
  | x :: r, h => by
    simp only [sList, dL_app, dL]
    exact (sNode_sub s x h).append (sList_sub s r h)
theorem sKids_sub (s : List Int) : ∀ (ks : List (List Nd)) (h : Hd), List.Sublist (dK (sKids s h ks)) (dK ks)
  | [], h => by simp [sKids]
  | l :: r, h => by
    simp only [sKids, dK]
    exact (sList_sub s l h).append (sKids_sub s r h)
end
theorem Frs.sub {set : List Bool} {a b : List Int} (h : Frs set a) (hp : List.Sublist b a) : Frs set b := ⟨h.1.sublist hp, fun v hv => h.2 v (hp.subset hv)⟩
section
def mFlow (B : List Nd → List Nd) (f : Fl) : Fl := ⟨f.name, f.ty, f.params, f.types, B f.body⟩
def mUnit (B : List Nd → List Nd) (u : Un) : Un := ⟨u.arrays, u.flows.map (mFlow B)⟩
def passOf (B : List Nd → List Nd) (u : Un) : Un × Int := if (shCheck u).1 == 0 then (mUnit B u, 0) else (⟨[], []⟩, 1)
section
variable (B : List Nd → List Nd)
theorem place_m (name : ByteArray) : ∀ (l : List Fl) (i : Int), r8Place name (l.map (mFlow B)) i = r8Place name l i
  | [], _ => rfl
  | f :: r, i => by
    have ih := place_m name r (i + 1)
    unfold r8Place
    rw [List.map_cons]
    simp only [ih]
    rfl
theorem sForm_m (u : Un) (f : Fl) (x : Nd) (s : List Int) (w : Wh) : sForm (mUnit B u) (mFlow B f) x s w = sForm u f x s w := by
  unfold sForm
  simp only [mUnit, mFlow, place_m, List.getElem?_map]
  cases u.flows[(r8Place x.name u.flows 0).toNat]? with
  | none => rfl
  | some g => rfl
mutual
theorem vNode_m (u : Un) (f : Fl) : ∀ (x : Nd) (deep : Int) (w : Wh) (s : List Int), vNode (mUnit B u) (mFlow B f) deep w s x = vNode u f deep w s x
  | .mk kind op n name args outs params ks, deep, w, s => by
    unfold vNode
    rw [sForm_m]
    match ks with
    | [] => rfl
    | [a] =>
      have h1 := vGo_m u f a (deep + 1) (w2 f (.mk kind op n name args outs params [a])) (s ++ params)
      simp only [show w2 (mFlow B f) (.mk kind op n name args outs params [a]) = w2 f (.mk kind op n name args outs params [a]) from rfl, h1]
      rfl
    | a :: b :: r =>
      have h1 := vGo_m u f a (deep + 1) (w2 f (.mk kind op n name args outs params (a :: b :: r))) (s ++ params)
      have h2 := vGo_m u f a (deep + 1) (w1 w f (.mk kind op n name args outs params (a :: b :: r))) s
      have h3 := vGo_m u f b (deep + 1) (w1 w f (.mk kind op n name args outs params (a :: b :: r))) s
      simp only [show w2 (mFlow B f) (.mk kind op n name args outs params (a :: b :: r)) = w2 f (.mk kind op n name args outs params (a :: b :: r)) from rfl, show w1 w (mFlow B f) (.mk kind op n name args outs params (a :: b :: r)) = w1 w f (.mk kind op n name args outs params (a :: b :: r)) from rfl, h1, h2, h3]
      rfl
theorem vGo_m (u : Un) (f : Fl) : ∀ (l : List Nd) (deep : Int) (w : Wh) (s : List Int), vGo (mUnit B u) (mFlow B f) deep w s l = vGo u f deep w s l
  | [], _, _, _ => by simp [vGo]
  | x :: r, deep, w, s => by
    unfold vGo
    rw [vNode_m u f x, vGo_m u f r]
end
def BodyOk (u : Un) (f : Fl) (l : List Nd) : Prop := vList u f 1 r8where0 (iota f.params.toNat) l = true ∧ Frs (firsts f.params.toNat f.types.length) (dL l)
theorem flow_params {u : Un} {f : Fl} (h : r8Flow u f = true) : f.params.toNat ≤ f.types.length := by
  unfold r8Flow at h
  simp only [Bool.and_eq_true] at h
  have a1 := h.1.1.1.1.1
  have a2 := h.1.1.1.2
  simp only [Bool.not_eq_true', decide_eq_false_iff_not] at a1 a2
  omega
theorem flow_body {u : Un} {f : Fl} (h : r8Flow u f = true) : BodyOk u f f.body := by
  have hn : (firsts f.params.toNat f.types.length).length = f.types.length := firsts_length (flow_params h)
  unfold r8Flow at h
  simp only [Bool.and_eq_true] at h
  have h2 := h.2
  rw [r8list_iff u f f.body 1 r8where0 _ _ hn] at h2
  exact h2
theorem flow_m {u : Un} {f : Fl} (h : r8Flow u f = true) (hB : BodyOk u f f.body → BodyOk u f (B f.body)) : r8Flow (mUnit B u) (mFlow B f) = true := by
  have hb := hB (flow_body h)
  have hn : (firsts f.params.toNat f.types.length).length = f.types.length := firsts_length (flow_params h)
  unfold r8Flow at h ⊢
  simp only [Bool.and_eq_true] at h ⊢
  refine ⟨h.1, ?_⟩
  show (r8list (mUnit B u) (mFlow B f) 1 r8where0 (iota f.params.toNat) (firsts f.params.toNat f.types.length) (B f.body)).1 = true
  rw [r8list_iff (mUnit B u) (mFlow B f) (B f.body) 1 r8where0 _ _ hn]
  have hv := hb.1
  simp only [vList, Bool.and_eq_true] at hv ⊢
  exact ⟨⟨hv.1, by rw [vGo_m]; exact hv.2⟩, hb.2⟩
theorem gA_m (u : Un) : ∀ (l : List Ar) (i : Int), r8gA (mUnit B u) l i = r8gA u l i
  | [], _ => rfl
  | a :: r, i => by
    have h1 : gArr (mUnit B u) a i = gArr u a i := by simp only [gArr, mUnit, place_m]
    simp only [r8gA, gA_m u r, h1]
theorem gF_m (u : Un) : ∀ (l : List Fl) (i : Int), r8gF (mUnit B u) (l.map (mFlow B)) i = r8gF u l i
  | [], _ => rfl
  | a :: r, i => by
    have h1 : gFlw (mUnit B u) (mFlow B a) i = gFlw u a i := by
      simp only [gFlw, mUnit, place_m]
      rfl
    simp only [List.map_cons, r8gF, gF_m u r, h1]
theorem getD_map_m (l : List Fl) (k : Nat) : ((l.map (mFlow B)).getD k flDef).ty = (l.getD k flDef).ty ∧ ((l.map (mFlow B)).getD k flDef).params = (l.getD k flDef).params := by
  simp only [List.getD_eq_getElem?_getD, List.getElem?_map]
  cases l[k]? with
  | none => exact ⟨rfl, rfl⟩
  | some g => exact ⟨rfl, rfl⟩
theorem globals_m (u : Un) : r8globals (mUnit B u) = r8globals u := by
  unfold r8globals
  rw [show (mUnit B u).arrays = u.arrays from rfl, show (mUnit B u).flows = u.flows.map (mFlow B) from rfl, gA_m, gF_m]
  unfold r8main
  rw [show (mUnit B u).flows = u.flows.map (mFlow B) from rfl, place_m, (getD_map_m B _ _).1, (getD_map_m B _ _).2]
theorem check_m {u : Un} (h : (r8Check u).1 = 0) (hB : ∀ f ∈ u.flows, BodyOk u f f.body → BodyOk u f (B f.body)) : r8Check (mUnit B u) = (0, 0) := by
  obtain ⟨h1, h2⟩ := (check_iff u).1 h
  unfold r8Check
  rw [globals_m, h1, if_pos rfl]
  refine flows_zero (mUnit B u) _ 0 fun g hg => ?_
  obtain ⟨f, hf, rfl⟩ := List.mem_map.1 hg
  exact flow_m B (h2 f hf) (hB f hf)
theorem bodies_ok {u : Un} (h : (r8Check u).1 = 0) : ∀ f ∈ u.flows, BodyOk u f f.body := fun f hf => flow_body (((check_iff u).1 h).2 f hf)
theorem headF_m {f : Fl} (h : 0 ≤ f.params ∧ f.params ≤ f.types.length) : headF f (mFlow B f) = true := by
  have ht : headTy f.types f.types f.params = true := headTy_yes (k := f.params.toNat) (by omega) (fun i hi => by simp [headTyAt]; omega)
  simp [headF, mFlow, ht]
theorem headFs_m : ∀ {l : List Fl}, (∀ f ∈ l, 0 ≤ f.params ∧ f.params ≤ f.types.length) → headFs l (l.map (mFlow B)) = true
  | [], _ => rfl
  | f :: r, h => by simp [headFs, headF_m B (h f (.head _)), headFs_m (fun f hf => h f (.tail _ hf))]
theorem sameHeads_m {u : Un} (h : (shCheck u).1 = 0) : sameHeads u (mUnit B u) = true := by
  have hh : shHead u = true := by
    cases hh : shHead u with
    | true => rfl
    | false => simp [shCheck, hh] at h
  simp [sameHeads, mUnit, sameAs_self, headFs_m B (shHead_params hh)]
theorem wtF_m (hw : ∀ l, r8nodes (B l) ≤ r8nodes l) : ∀ l : List Fl, wtF (l.map (mFlow B)) ≤ wtF l
  | [] => Nat.le_refl _
  | f :: r => by
    have h1 := hw f.body
    have h2 := wtF_m hw r
    simp only [List.map_cons, wtF, mFlow] at h2 ⊢
    omega
theorem weight_m (hw : ∀ l, r8nodes (B l) ≤ r8nodes l) (u : Un) : r8Weight (mUnit B u) ≤ r8Weight u := by
  have := wtF_m B hw u.flows
  unfold r8Weight
  rw [show (mUnit B u).flows = u.flows.map (mFlow B) from rfl, List.length_map, show (mUnit B u).arrays = u.arrays from rfl]
  omega
theorem passOf_bad {u : Un} (h : (r8Check u).1 ≠ 0) : passOf B u = (⟨[], []⟩, 1) := by
  have : ((shCheck u).1 == 0) = false := by rw [shCheck_eq]; simpa using h
  simp [passOf, this]
theorem passOf_good {u : Un} (h : (r8Check u).1 = 0) : passOf B u = (mUnit B u, 0) := by
  have : ((shCheck u).1 == 0) = true := by rw [shCheck_eq]; simpa using h
  simp [passOf, this]
theorem passOf_weight (hw : ∀ l, r8nodes (B l) ≤ r8nodes l) (u : Un) : r8Weight (passOf B u).1 ≤ r8Weight u := by
  unfold passOf
  split
  ·exact weight_m B hw u
  simp [r8Weight, wtA, wtF]
end
end
theorem body_want {u : Un} {f : Fl} (h : BodyOk u f f.body) : BodyOk u f (wB f.body) := ⟨vList_want u f h.1, h.2.sub (sList_sub _ _ _)⟩
theorem check_want {u : Un} (h : (r8Check u).1 = 0) : r8Check (mUnit wB u) = (0, 0) := check_m wB h fun _ _ => body_want
mutual
theorem wOkN_valid (u : Un) (f : Fl) : ∀ (x : Nd) (deep : Int) (i lp : Bool) (h : Hd) (all : List Int), HdIn f h → vNode u f deep (whOf f i lp h) all x = true → wOkN h x = true
  | .mk kind op n name args outs params ks, deep, i, lp, h, all, hi, hv => by
    have hb := vNode_bare u f deep _ all hv
    unfold wOkN
    have END : ∀ (to : List Int) (b : Bool), inR f.types.length to → sForm u f (.mk kind op n name args outs params ks) all (whOf f i lp h) = ⟨b && r8types f.types all args (r8of f.types to), none⟩ → (kind == 10) = false → (kind == 11) = false → decide (to.length ≤ args.length) = true := fun to b hto hf h10 h11 => by
      rw [vNode_simple u f deep _ all hb h10 h11, hf] at hv
      simp only [SForm.ok, Bool.and_eq_true] at hv
      have := types_len hto hv.1.2
      simp; omega
    by_cases h12 : kind = 12
    ·rw [if_pos (by simp [h12])]
     exact END h.yield i hi.1 (sForm12 h12) (by simp [h12]) (by simp [h12])
    rw [if_neg (by simpa using h12)]
    by_cases h13 : kind = 13
    ·rw [if_pos (by simp [h13])]
     exact END h.next lp hi.2.1 (sForm13 h13) (by simp [h13]) (by simp [h13])
    rw [if_neg (by simpa using h13)]
    by_cases h14 : kind = 14
    ·rw [if_pos (by simp [h14])]
     exact END h.left lp hi.2.2 (sForm14 h14) (by simp [h14]) (by simp [h14])
    rw [if_neg (by simpa using h14)]
    by_cases h10 : kind = 10
    ·rw [if_pos (by simp [h10])]
     obtain ⟨a, b, hk⟩ := r8bare_if hb h10
     rw [vNode_if u f deep _ all hb h10 hk, w1_of] at hv
     simp only [Bool.and_eq_true, vList] at hv
     have hin : HdIn f ⟨outs, h.next, h.left⟩ := ⟨vOuts_in hv.2, hi.2⟩
     simp only [Nd.kids] at hk
     match ks, hk with
     | [a', b'], hk =>
       cases hk
       simp only [wOkK, Bool.and_eq_true, Bool.and_true]
       exact ⟨rfl, wOkL_valid u f a _ _ _ _ _ hin hv.1.1.1.2.2, wOkL_valid u f b _ _ _ _ _ hin hv.1.1.2.2⟩
    rw [if_neg (by simpa using h10)]
    by_cases h11 : kind = 11
    ·rw [if_pos (by simp [h11])]
     obtain ⟨a, hk⟩ := r8bare_loop hb h11
     rw [vNode_loop u f deep _ all hb h11 hk, w2_of] at hv
     simp only [Bool.and_eq_true, vList] at hv
     have hp : inR f.types.length params := vOuts_in hv.1.1.1.2
     have hin : HdIn f ⟨[], params, outs⟩ := ⟨fun v hv => by simp at hv, hp, vOuts_in hv.2⟩
     have hl := types_len hp hv.1.1.1.1
     simp only [Nd.kids] at hk
     match ks, hk with
     | [a'], hk =>
       cases hk
       simp only [wOkK, Bool.and_eq_true, Bool.and_true]
       exact ⟨by simp only [Nd.args] at hl; simp; omega, rfl, wOkL_valid u f a _ _ _ _ _ hin hv.1.1.2.2⟩
    rw [if_neg (by simpa using h11)]
    have hh := okN_valid u f _ deep _ all hv
    rw [hOkN_eq] at hh
    simp only [Bool.and_eq_true] at hh
    exact hh.1.1
theorem wOkL_valid (u : Un) (f : Fl) : ∀ (l : List Nd) (deep : Int) (i lp : Bool) (h : Hd) (all : List Int), HdIn f h → vGo u f deep (whOf f i lp h) all l = true → wOkL h l = true
  | [], _, _, _, _, _, _, _ => rfl
  | x :: r, deep, i, lp, h, all, hi, hv => by
    simp only [vGo, Bool.and_eq_true] at hv
    simp only [wOkL, Bool.and_eq_true]
    exact ⟨wOkN_valid u f x deep i lp h all hi hv.1.1.2, wOkL_valid u f r deep i lp h _ hi hv.2⟩
end
theorem hd0_in (f : Fl) : HdIn f hd0 := ⟨fun v hv => by simp [hd0] at hv, fun v hv => by simp [hd0] at hv, fun v hv => by simp [hd0] at hv⟩
theorem wok_valid {u : Un} (h : (shCheck u).1 = 0) : ∀ f ∈ u.flows, wOkL hd0 f.body = true := by
  rw [shCheck_eq] at h
  intro f hf
  have hb := (bodies_ok h f hf).1
  simp only [vList, Bool.and_eq_true] at hb
  exact wOkL_valid u f f.body 1 false false hd0 _ (hd0_in f) hb.2
theorem keptA_len (s : List Int) : ∀ l to, (wKept s l to).length ≤ l.length
  | [], _ => by simp [wKept]
  | _ :: _, [] => by simp [wKept]
  | a :: l, t :: to => by
    have ih := keptA_len s l to
    unfold wKept
    split <;> simp only [List.length_cons] <;> omega
mutual
theorem wt_sNode (s : List Int) : ∀ (x : Nd) (h : Hd), wtL (sNode s h x) ≤ wtN x
  | .mk kind op n name args outs params ks, h => by
    have hk := fun h' => wt_sKids s ks h'
    have k1 := fun to => keptA_len s args to
    have k2 := keptA_len s outs outs
    have k3 := keptA_len s params params
    unfold sNode
    repeat' split
    ·have := k1 h.yield; simp only [wtL, wtN]; omega
    ·have := k1 h.next; simp only [wtL, wtN]; omega
    ·have := k1 h.left; simp only [wtL, wtN]; omega
    ·have := hk ⟨outs, h.next, h.left⟩; simp only [wtL, wtN]; omega
    ·have := hk ⟨[], params, outs⟩; have := k1 params; simp only [wtL, wtN]; omega
    ·simp [wtL]
    simp [wtL, wtN]
theorem wt_sList (s : List Int) : ∀ (l : List Nd) (h : Hd), wtL (sList s h l) ≤ wtL l
  | [], h => by simp [sList]
  | x :: r, h => by
    have h1 := wt_sNode s x h
    have h2 := wt_sList s r h
    simp only [sList, wtL_app, wtL]
    omega
theorem wt_sKids (s : List Int) : ∀ (ks : List (List Nd)) (h : Hd), wtK (sKids s h ks) ≤ wtK ks
  | [], h => by simp [sKids]
  | l :: r, h => by
    have h1 := wt_sList s l h
    have h2 := wt_sKids s r h
    have h3 := sList_len s h l
    simp only [sKids, wtK]
    omega
end
theorem nodes_want (l : List Nd) : r8nodes (wB l) ≤ r8nodes l := by
  have h1 := wt_sList (wSet l) l hd0
  have h2 := sList_len (wSet l) hd0 l
  unfold r8nodes wB
  omega
mutual
def uN (v : Int) : Nd → Bool
  | .mk _ _ _ _ args _ _ ks => args.contains v || uK v ks
def uL (v : Int) : List Nd → Bool
  | [] => false
  | x :: r => uN v x || uL v r
def uK (v : Int) : List (List Nd) → Bool
  | [] => false
  | l :: r => uL v l || uK v r
end
theorem uN_eq (v : Int) (x : Nd) : uN v x = (x.args.contains v || uK v x.kids) := by cases x; simp [uN, Nd.args, Nd.kids]
theorem uL_app (v : Int) : ∀ a b : List Nd, uL v (a ++ b) = (uL v a || uL v b)
  | [], b => by simp [uL]
  | x :: r, b => by simp only [List.cons_append, uL, uL_app v r b, Bool.or_assoc]
def wIdle (x : Nd) : Bool := decide (x.kind ≤ 3) || (x.kind == 4 && x.op != 4 && x.op != 5)
mutual
def wdN (all : List Nd) : Nd → Bool
  | .mk kind op n name args outs params ks => !(wIdle (.mk kind op n name args outs params ks) && ((outs.length : Int) != 1 || !uL (outs.getD 0 0) all)) && wdK all ks
def wdL (all : List Nd) : List Nd → Bool
  | [] => true
  | x :: r => wdN all x && wdL all r
def wdK (all : List Nd) : List (List Nd) → Bool
  | [] => true
  | l :: r => wdL all l && wdK all r
end
theorem wdN_eq (all : List Nd) (x : Nd) : wdN all x = (!(wIdle x && ((x.outs.length : Int) != 1 || !uL (x.outs.getD 0 0) all)) && wdK all x.kids) := by cases x; simp only [wdN, Nd.kids, Nd.outs]
theorem wdL_app (all : List Nd) : ∀ a b : List Nd, wdL all (a ++ b) = (wdL all a && wdL all b)
  | [], b => by simp [wdL]
  | x :: r, b => by simp only [List.cons_append, wdL, wdL_app all r b, Bool.and_assoc]
def wRight (u : Un) : Bool := u.flows.all fun f => wdL f.body f.body
theorem wAdd_all {U : Int → Prop} : ∀ {l s : List Int}, (∀ v ∈ s, U v) → (∀ v ∈ l, U v) → ∀ v ∈ wAdd s l, U v
  | [], _, h, _ => h
  | a :: r, s, h, hl => by
    unfold wAdd
    split
    ·exact wAdd_all h fun v hv => hl v (.tail _ hv)
    refine wAdd_all (fun v hv => ?_) fun v hv => hl v (.tail _ hv)
    rcases List.mem_append.1 hv with hv | hv
    ·exact h v hv
    obtain rfl := List.mem_singleton.1 hv; exact hl _ (.head _)
theorem wHanded_all {U : Int → Prop} {S : List Int} : ∀ {l to s : List Int}, (∀ v ∈ s, U v) → (∀ v ∈ wKept S l to, U v) → (∀ v ∈ wHanded s l to, v ∈ S) → ∀ v ∈ wHanded s l to, U v
  | [], _, s, h, _, _ => by simpa [wHanded] using h
  | _ :: _, [], s, h, _, _ => by simpa [wHanded] using h
  | a :: l, t :: to, s, h, hk, hS => by
    unfold wHanded at hS ⊢
    unfold wKept at hk
    split at hS
    ·rename_i hc
     rw [if_pos hc]
     have ht : S.contains t = true := List.contains_iff_mem.2 (hS t ((wHanded_pre l to _).sub t ((wAdd_pre [a] s).sub t (List.contains_iff_mem.1 hc))))
     rw [if_pos ht] at hk
     exact wHanded_all (wAdd_all h fun v hv => by obtain rfl := List.mem_singleton.1 hv; exact hk _ (.head _)) (fun v hv => hk v (.tail _ hv)) hS
    rename_i hc
    rw [if_neg hc]
    exact wHanded_all h (fun v hv => hk v (by split <;> simp [hv])) hS
theorem uN_args {v : Int} {kind op n : Int} {name : ByteArray} {args outs params : List Int} {ks : List (List Nd)} (h : v ∈ args) : uL v [.mk kind op n name args outs params ks] = true := by
  simp [uL, uN, h]
theorem uN_kids {v : Int} {kind op n : Int} {name : ByteArray} {args outs params : List Int} {ks : List (List Nd)} (h : uK v ks = true) : uL v [.mk kind op n name args outs params ks] = true := by
  simp [uL, uN, h]
mutual
theorem wNode_all {U : Int → Prop} {S : List Int} : ∀ (x : Nd) (h : Hd) (s : List Int), (∀ v ∈ s, U v) → (∀ v, uL v (sNode S h x) = true → U v) → (∀ v ∈ wNode h s x, v ∈ S) → ∀ v ∈ wNode h s x, U v
  | .mk kind op n name args outs params ks, h, s, hs, hu, hS => by
    unfold sNode at hu
    unfold wNode at hS ⊢
    split at hS
    ·rename_i e
     rw [if_pos e] at hu ⊢
     exact wHanded_all hs (fun v hv => hu v (uN_args hv)) hS
    rename_i e12
    rw [if_neg e12] at hu ⊢
    split at hS
    ·rename_i e
     rw [if_pos e] at hu ⊢
     exact wHanded_all hs (fun v hv => hu v (uN_args hv)) hS
    rename_i e13
    rw [if_neg e13] at hu ⊢
    split at hS
    ·rename_i e
     rw [if_pos e] at hu ⊢
     exact wHanded_all hs (fun v hv => hu v (uN_args hv)) hS
    rename_i e14
    rw [if_neg e14] at hu ⊢
    split at hS
    ·rename_i e
     rw [if_pos e] at hu ⊢
     exact wKids_all ks _ _ (wAdd_all hs fun v hv => hu v (uN_args hv)) (fun v hv => hu v (uN_kids hv)) hS
    rename_i e10
    rw [if_neg e10] at hu ⊢
    split at hS
    ·rename_i e
     rw [if_pos e] at hu ⊢
     exact wKids_all ks _ _ (wHanded_all hs (fun v hv => hu v (uN_args hv)) fun v hv => hS v ((wKids_pre ks _ _).sub v hv)) (fun v hv => hu v (uN_kids hv)) hS
    rename_i e11
    rw [if_neg e11] at hu ⊢
    split at hS
    ·rename_i e
     rw [if_pos e]
     have hn : ¬ (hmless (.mk kind op n name args outs params ks) && !S.contains (outs.headD 0)) = true := by
       intro hh
       simp only [Bool.and_eq_true, Bool.not_eq_true'] at hh
       rw [hh.1, Bool.not_true, Bool.false_or] at e
       have := hS _ ((wAdd_pre args s).sub _ (List.contains_iff_mem.1 e))
       rw [List.contains_iff_mem.2 this] at hh
       cases hh.2
     rw [if_neg hn] at hu
     exact wAdd_all hs fun v hv => hu v (uN_args hv)
    rename_i e
    rw [if_neg e]
    exact hs
theorem wList_all {U : Int → Prop} {S : List Int} : ∀ (l : List Nd) (h : Hd) (s : List Int), (∀ v ∈ s, U v) → (∀ v, uL v (sList S h l) = true → U v) → (∀ v ∈ wList h s l, v ∈ S) → ∀ v ∈ wList h s l, U v
  | [], h, s, hs, _, _ => by unfold wList; exact hs
  | x :: r, h, s, hs, hu, hS => by
    unfold wList at hS ⊢
    unfold sList at hu
    exact wList_all r h _ (wNode_all x h s hs (fun v hv => hu v (by rw [uL_app, hv, Bool.true_or])) fun v hv => hS v ((wList_pre r h _).sub v hv)) (fun v hv => hu v (by rw [uL_app, hv, Bool.or_true])) hS
theorem wKids_all {U : Int → Prop} {S : List Int} : ∀ (ks : List (List Nd)) (h : Hd) (s : List Int), (∀ v ∈ s, U v) → (∀ v, uK v (sKids S h ks) = true → U v) → (∀ v ∈ wKids h s ks, v ∈ S) → ∀ v ∈ wKids h s ks, U v
  | [], h, s, hs, _, _ => by unfold wKids; exact hs
  | l :: r, h, s, hs, hu, hS => by
    unfold wKids at hS ⊢
    unfold sKids at hu
    exact wKids_all r h _ (wList_all l h s hs (fun v hv => hu v (by simp [uK, hv])) fun v hv => hS v ((wKids_pre r h _).sub v hv)) (fun v hv => hu v (by simp [uK, hv])) hS
end
theorem wIter_pre (l : List Nd) (n : Nat) : ∀ k, Pre (wIter l n) (wIter l (n + k))
  | 0 => .refl _
  | k + 1 => (wIter_pre l n k).trans (wStep_pre l _)
theorem wSet_used (l : List Nd) : ∀ v ∈ wSet l, uL v (wB l) = true := by
  have key : ∀ n, n ≤ (agL l).length → ∀ v ∈ wIter l n, uL v (wB l) = true := by
    intro n
    induction n with
    | zero => intro _ v hv; simp [wIter] at hv
    | succ n ih =>
      intro hn
      refine wList_all (S := wSet l) l hd0 _ (ih (by omega)) (fun v hv => hv) fun v hv => ?_
      have := wIter_pre l (n + 1) ((agL l).length - (n + 1))
      rw [show n + 1 + ((agL l).length - (n + 1)) = (agL l).length by omega] at this
      exact this.sub v hv
  exact key _ (Nat.le_refl _)
theorem idle_hm {u : Un} {f : Fl} {x : Nd} {s : List Int} {w : Wh} {outs : List Int} (h : (sForm u f x s w).ok f.types outs = true) (hi : wIdle x = true) : hmless x = true := by
  cases hm : hmless x with
  | true => rfl
  | false =>
    exfalso
    simp only [wIdle, Bool.or_eq_true, Bool.and_eq_true, decide_eq_true_eq, beq_iff_eq] at hi
    have h1 : x.kind ≠ 1 := fun e => by simp [hmless, e] at hm
    have h2 : x.kind ≠ 2 := fun e => by simp [hmless, e] at hm
    have h3 : x.kind ≠ 3 := fun e => by simp [hmless, e] at hm
    have h4 : x.kind ≤ 0 := by
      rcases hi with hi | ⟨⟨h4, h5⟩, h6⟩
      ·rcases Int.lt_or_le 0 x.kind with h | h
       ·exact absurd hi (by omega)
       exact h
      simp [hmless, h4, h5, h6] at hm
    have hf : sForm u f x s w = ⟨false, none⟩ := by
      unfold sForm
      repeat (rw [if_neg (by simp; omega)])
    rw [hf] at h
    simp [SForm.ok] at h
mutual
theorem wd_node (u : Un) (f : Fl) {A : List Nd} {s : List Int} (hA : ∀ v ∈ s, uL v A = true) : ∀ (x : Nd) (deep : Int) (w : Wh) (all : List Int) (h : Hd), vNode u f deep w all x = true → wdL A (sNode s h x) = true
  | .mk kind op n name args outs params ks, deep, w, all, h, hv => by
    have hb := vNode_bare u f deep _ all hv
    have NI : ∀ a b c d, kind > 4 → wIdle (.mk kind op n name a b c d) = false := fun a b c d hk => by
      show (decide (kind ≤ 3) || (kind == 4 && op != 4 && op != 5)) = false
      have h1 : decide (kind ≤ 3) = false := by simp; omega
      have h2 : (kind == 4) = false := by simp; omega
      rw [h1, h2]; rfl
    have KS : (kind == 10) = false → (kind == 11) = false → ks = [] := fun h1 h2 => bare_kids0 hb h1 h2
    have K0 : ∀ a b c d, kind > 4 → wdK A d = true → wdL A [.mk kind op n name a b c d] = true := fun a b c d hk hd => by
      simp only [wdL, wdN, NI a b c d hk, hd, Bool.false_and, Bool.not_false, Bool.and_true]
    unfold sNode
    by_cases h12 : kind = 12
    ·rw [if_pos (by simp [h12])]
     exact K0 _ _ _ _ (by omega) (by rw [KS (by simp [h12]) (by simp [h12])]; rfl)
    rw [if_neg (by simpa using h12)]
    by_cases h13 : kind = 13
    ·rw [if_pos (by simp [h13])]
     exact K0 _ _ _ _ (by omega) (by rw [KS (by simp [h13]) (by simp [h13])]; rfl)
    rw [if_neg (by simpa using h13)]
    by_cases h14 : kind = 14
    ·rw [if_pos (by simp [h14])]
     exact K0 _ _ _ _ (by omega) (by rw [KS (by simp [h14]) (by simp [h14])]; rfl)
    rw [if_neg (by simpa using h14)]
    by_cases h10 : kind = 10
    ·rw [if_pos (by simp [h10])]
     obtain ⟨a, b, hk⟩ := r8bare_if hb h10
     rw [vNode_if u f deep _ all hb h10 hk] at hv
     simp only [Bool.and_eq_true, vList] at hv
     simp only [Nd.kids] at hk
     match ks, hk with
     | [a', b'], hk =>
       cases hk
       refine K0 _ _ _ _ (by omega) ?_
       simp only [sKids, wdK, Bool.and_eq_true, Bool.and_true]
       exact ⟨wd_list u f hA a _ _ _ _ hv.1.1.1.2.2, wd_list u f hA b _ _ _ _ hv.1.1.2.2⟩
    rw [if_neg (by simpa using h10)]
    by_cases h11 : kind = 11
    ·rw [if_pos (by simp [h11])]
     obtain ⟨a, hk⟩ := r8bare_loop hb h11
     rw [vNode_loop u f deep _ all hb h11 hk] at hv
     simp only [Bool.and_eq_true, vList] at hv
     simp only [Nd.kids] at hk
     match ks, hk with
     | [a'], hk =>
       cases hk
       refine K0 _ _ _ _ (by omega) ?_
       simp only [sKids, wdK, Bool.and_true]
       exact wd_list u f hA a _ _ _ _ hv.1.1.2.2
    rw [if_neg (by simpa using h11)]
    have e10 : (kind == 10) = false := by simpa using h10
    have e11 : (kind == 11) = false := by simpa using h11
    have hk0 := KS e10 e11
    rw [vNode_simple u f deep _ all hb e10 e11] at hv
    split
    ·rfl
    rename_i hn
    subst hk0
    simp only [wdL, wdN, wdK, Bool.and_true, Bool.not_eq_true']
    cases hi : wIdle (.mk kind op n name args outs params []) with
    | false => rfl
    | true =>
      have hm := idle_hm hv hi
      obtain ⟨_, hol⟩ := sform_moved (s' := all) (w' := w) hm (fun _ _ h => h) hv
      simp only [Nd.outs] at hol
      have hc : s.contains (outs.headD 0) = true := by
        cases hc : s.contains (outs.headD 0) with
        | true => rfl
        | false => exact absurd (by rw [hm, hc]; rfl) hn
      have hu := hA _ (List.contains_iff_mem.1 hc)
      have he : outs.getD 0 0 = outs.headD 0 := by cases outs <;> rfl
      rw [he, hu, hol]
      rfl
theorem wd_list (u : Un) (f : Fl) {A : List Nd} {s : List Int} (hA : ∀ v ∈ s, uL v A = true) : ∀ (l : List Nd) (deep : Int) (w : Wh) (all : List Int) (h : Hd), vGo u f deep w all l = true → wdL A (sList s h l) = true
  | [], _, _, _, _, _ => by simp [sList, wdL]
  | x :: r, deep, w, all, h, hv => by
    simp only [vGo, Bool.and_eq_true] at hv
    rw [sList, wdL_app, wd_node u f hA x _ _ _ h hv.1.1.2, wd_list u f hA r _ _ _ h hv.2]
    rfl
end
theorem right_want (u : Un) : wRight (passOf wB u).1 = true := by
  by_cases h : (r8Check u).1 = 0
  ·rw [passOf_good wB h]
   unfold wRight
   rw [List.all_eq_true]
   intro g hg
   obtain ⟨f, hf, rfl⟩ := List.mem_map.1 (show g ∈ u.flows.map (mFlow wB) from hg)
   have hb := (bodies_ok h f hf).1
   simp only [vList, Bool.and_eq_true] at hb
   exact wd_list u f (wSet_used f.body) f.body 1 _ _ hd0 hb.2
  rw [passOf_bad wB h]
  rfl
def wM (s : List Int) : List (Nat × HO) := [(3002, .map (vsOf s))]
def wH (s : List Int) (g : Bool) : List (Nat × HO) := [(3001, .box [.mp 3002, iBool g]), (3002, .map (vsOf s))]
def gr (s s' : List Int) (g : Bool) : Bool := g || s.length != s'.length
theorem gr_self (s : List Int) (g : Bool) : gr s s g = g := by simp [gr]
theorem gr_put {s st : List Int} (h : Pre s st) (v : Int) (g : Bool) : gr s (st ++ [v]) g = true := by
  have := h.len
  simp [gr]
  right
  omega
theorem gr_trans {a b c : List Int} (h : Pre a b) (h' : Pre b c) (g : Bool) : gr b c (gr a b g) = gr a c g := by
  have h1 := h.len
  have h2 := h'.len
  unfold gr
  cases g with
  | true => simp
  | false =>
    simp only [Bool.false_or]
    by_cases e : a.length = b.length
    · have e1 : (a.length != b.length) = false := by simp [e]
      rw [e1, Bool.false_or, e]
    · have e3 : ¬ a.length = c.length := by omega
      have e1 : (a.length != b.length) = true := by simpa using e
      have e2 : (a.length != c.length) = true := by simpa using e3
      rw [e1, e2, Bool.true_or]
theorem gr_false {s s' : List Int} (h : Pre s s') : gr s s' false = false ↔ s' = s := by
  constructor
  · intro hg
    simp [gr] at hg
    exact h.eq (by omega)
  · rintro rfl; simp [gr]
theorem wAdd_has {st : List Int} {x : Int} {r : List Int} (h : st.contains x = true) : wAdd st (x :: r) = wAdd st r := by simp only [wAdd, h, if_true]
theorem wAdd_not {st : List Int} {x : Int} {r : List Int} (h : st.contains x = false) : wAdd st (x :: r) = wAdd (st ++ [x]) r := by simp only [wAdd, h, Bool.false_eq_true, if_false]
theorem Nd.eta (x : Nd) : Nd.mk x.kind x.op x.n x.name x.args x.outs x.params x.kids = x := by cases x; rfl
theorem cont_ne {y v : Int} {r : List Int} (h : (y == v) = false) : (y :: r).contains v = r.contains v := by
  have : (v == y) = false := by rw [beq_eq_false_iff_ne] at *; exact fun e => h e.symm
  rw [List.contains_cons, this, Bool.false_or]
theorem cont_eq {y v : Int} {r : List Int} (h : (y == v) = true) : (y :: r).contains v = true := by
  have : (v == y) = true := by rw [beq_iff_eq] at *; exact h.symm
  rw [List.contains_cons, this, Bool.true_or]
theorem hone_seq8 (a b c : Int) (s : ByteArray) (l1 l2 l3 : List Int) (e : List (List PV)) : ∀ el ∈ chunks 8 1 [vInt a, vInt b, vInt c, vStr s, ints l1, ints l2, ints l3, .seq e], ∀ y ∈ el, y.one = true := by
  intro el hel y hy
  have : el = [vInt a, vInt b, vInt c, vStr s, ints l1, ints l2, ints l3, .seq e] := List.mem_singleton.1 hel
  subst this
  simp only [List.mem_cons, List.not_mem_nil, or_false] at hy
  rcases hy with rfl | rfl | rfl | rfl | rfl | rfl | rfl | rfl <;> rfl
theorem enc_snocM (B : List Nd → List Nd) (l : List Fl) (x : Fl) : (l ++ [mFlow B x]).map Fl.enc = l.map Fl.enc ++ [[vStr x.name, vInt x.ty, vInt x.params, ints x.types, nodes (B x.body)]] := by
  rw [List.map_append]; rfl
theorem sc_harmlessW (x : Nd) : SC Tryz.prog 63 [.pv (ndv x)] [] (fun _ => False) (iBool (hmless x)) [] := by
  refine SC.of Tryz.func63 rfl (lb rfl) fun F ρ w => ?_
  refine tQ <| tG <| cE rfl (ok_box rfl rfl) <| sm 1 rfl <| nL <| tQ <| tQ <| tG <| sm 2 rfl <| nL <| tBk <| tQ ?_
  refine tQ <| tG <| sm 2 rfl <| nL ?_
  refine tC rfl (fun hc5 => ?_) fun hc5 => ?_
  ·refine tSk ?_
   refine tC rfl (fun hc5 => ?_) fun hc5 => ?_
   ·refine tQ <| tG <| sm 1 rfl <| nL <| tRt <| rOk rfl ?_ nPo
    simp_all [hmless]
   refine tQ <| tG <| sm 2 rfl <| nL ?_
   refine tC rfl (fun hc9 => ?_) fun hc9 => ?_
   ·refine tQ <| tG <| sm 4 rfl ?_
    refine wS 14 rfl (fun hb14 => ?_) fun hb14 => ?_
    ·refine sm 5 rfl <| nL <| tRt <| rOk rfl ?_ nPo
     simp_all [hmless]
    refine sm 5 rfl <| nL <| tRt <| rOk rfl ?_ nPo
    simp_all [hmless]
   refine tSk <| tQ <| tG <| sm 1 rfl <| nL <| tRt <| rOk rfl ?_ nPo
   simp_all [hmless]
  refine tQ <| tG <| sm 2 rfl <| nL ?_
  refine tC rfl (fun hc5 => ?_) fun hc5 => ?_
  ·refine tSk ?_
   refine tC rfl (fun hc5 => ?_) fun hc5 => ?_
   ·refine tQ <| tG <| sm 1 rfl <| nL <| tRt <| rOk rfl ?_ nPo
    simp_all [hmless]
   refine tQ <| tG <| sm 2 rfl <| nL ?_
   refine tC rfl (fun hc9 => ?_) fun hc9 => ?_
   ·refine tQ <| tG <| sm 4 rfl ?_
    refine wS 14 rfl (fun hb14 => ?_) fun hb14 => ?_
    ·refine sm 5 rfl <| nL <| tRt <| rOk rfl ?_ nPo
     simp_all [hmless]
    refine sm 5 rfl <| nL <| tRt <| rOk rfl ?_ nPo
    simp_all [hmless]
   refine tSk <| tQ <| tG <| sm 1 rfl <| nL <| tRt <| rOk rfl ?_ nPo
   simp_all [hmless]
  refine tG <| sm 2 rfl <| nL ?_
  refine tC rfl (fun hc5 => ?_) fun hc5 => ?_
  ·refine tQ <| tG <| sm 1 rfl <| nL <| tRt <| rOk rfl ?_ nPo
   simp_all [hmless]
  refine tQ <| tG <| sm 2 rfl <| nL ?_
  refine tC rfl (fun hc9 => ?_) fun hc9 => ?_
  ·refine tQ <| tG <| sm 4 rfl ?_
   refine wS 14 rfl (fun hb14 => ?_) fun hb14 => ?_
   ·refine sm 5 rfl <| nL <| tRt <| rOk rfl ?_ nPo
    simp_all [hmless]
   refine sm 5 rfl <| nL <| tRt <| rOk rfl ?_ nPo
   simp_all [hmless]
  refine tSk <| tQ <| tG <| sm 1 rfl <| nL <| tRt <| rOk rfl ?_ nPo
  simp_all [hmless]
theorem sc_wHas (s : List Int) (x : Int) : SC Tryz.prog 64 [.mp 3002, iInt x] (wM s) (fun k => k = 3002) (iBool (s.contains x)) (wM s) := by
  refine SC.of Tryz.func64 rfl (lb rfl) fun F ρ w => ?_
  have hV := VSet.of s
  have hes := hV.1
  have hzv : ((Tryz.prog.info? 125).bind (·.zero)) = some (.agg #[]) := tZ125
  refine tQ <| tG <| sm 1 rfl <| nL <| tQ <| tG <| sm 2 rfl <| cV rfl (ok_lookup2 (kv := vKey x) rfl rfl rfl rfl Tryz.underlying76 uT3 rfl hes hzv trivial) <| sm 1 rfl <| cV rfl (ok_extract rfl rfl rfl) <| WL.sub (Sub.cons2 (fun _ _ _ _ h => unit_sub hV h) Sub.rfl') <| cV rfl (ok_extract rfl rfl rfl) ?_
  refine cE rfl (aLc (k := 105) rfl tZ125 rfl rfl rfl rfl) <| c0 (sBA rfl rfl rfl rfl rfl (by simp) tS125 (flk rfl) (lb rfl)) <| sm 1 rfl <| nL <| tQ <| tG <| sm 2 rfl <| nL <| tRt <| rOk rfl ?_ (po1 rfl)
  rw [vsOf_has]
theorem sc_wAdd (l : List Int) (s : List Int) (g : Bool) : SC Tryz.prog 88 [.ptr 3001 0, .pv (ints l)] (wH s g) (fun _ => False) (.tup []) (wH (wAdd s l) (gr s (wAdd s l) g)) := by
  refine SC.of Tryz.func88 rfl (lb rfl) fun F ρ w => ?_
  refine Tr.lenOf (t := 1) rfl (fun hl => ?_)
  simp only [List.length_map] at hl
  have hzv : ((Tryz.prog.info? 125).bind (·.zero)) = some (.agg #[]) := tZ125
  refine tQ <| tG <| sm 1 rfl <| cV rfl (oSm uT35 rfl) <| sm 1 rfl <| nL <| tBk <| Tr.sub (Sub.of (fr' := [(10, iInt 0), (9, iInt l.length), (8, .pv (ints l)), (0, .ptr 3001 0)]) ⟨rfl, rfl, rfl, rfl, trivial⟩) <| Tr.heap (σ' := look (up (wH s (gr s s g)))) (by rw [gr_self]; exact fun _ => rfl) ?_
  refine Tr.loop (fun fr σ m => ∃ (k : Nat) (st : List Int), (k ≤ l.length) ∧ (wAdd s l = wAdd st (l.drop k)) ∧ (Pre s st) ∧ fr = [(10, iInt k), (9, iInt l.length), (8, .pv (ints l)), (0, .ptr 3001 0)] ∧ σ = look (up (wH st (gr s st g))) ∧ m = l.length - k) (n := l.length - 0) ?_ ?_
  ·exact ⟨0, s, Nat.zero_le _, rfl, .refl s, rfl, rfl, rfl⟩
  rintro fr σ m ⟨k, st, hI0, hI1, hI2, rfl, rfl, rfl⟩
  refine tQ <| tG <| sm 1 rfl <| nL <| tQ ?_
  refine tC rfl (fun hc11 => ?_) fun hc11 => ?_
  ·have hlt : k < l.length := by simpa using hc11
   have hd := List.drop_eq_getElem_cons hlt
   have hm := List.getElem_mem hlt
   have hi := map_get (f := eInt) (List.getElem?_eq_getElem hlt)
   generalize l[k] = x at hd hm hi
   have hV := VSet.of st
   have hes := hV.1
   refine tSk <| tQ <| tBk <| tQ <| tG <| cV rfl (iSq rfl rfl rfl uT35 hi tS3 rfl (by rfl)) <| sm 2 rfl <| nL <| tQ <| tG <| sm 1 rfl <| cV rfl (nCk rfl rfl rfl) ?_
   refine sm 3 rfl <| cV rfl (ok_lookup2 (kv := vKey x) rfl rfl rfl rfl Tryz.underlying76 uT3 rfl hes hzv trivial) <| sm 1 rfl <| cV rfl (ok_extract rfl rfl rfl) <| WL.sub (Sub.cons2 (fun _ _ _ _ h => unit_sub hV h) Sub.rfl') <| cV rfl (ok_extract rfl rfl rfl) <| cE rfl (aLc (k := 106) rfl tZ125 rfl rfl rfl rfl) <| c0 (sBA rfl rfl rfl rfl rfl ((fun h => h)) tS125 (flk rfl) (lb rfl)) <| sm 1 rfl <| nL <| tQ <| tG ?_
   refine sm 2 rfl <| nL ?_
   refine tC rfl (fun hc24 => ?_) fun hc24 => ?_
   ·have hc : st.contains x = false := by
      rw [← vsOf_has]; simpa using hc24
    refine tQ <| tG <| sm 1 rfl <| cV rfl (nCk rfl rfl rfl) <| sm 3 rfl <| cV rfl (bPu rfl rfl tZ125 tP125 rfl (fbk rfl) rfl) <| c0 (ok_mapUpdate rfl rfl rfl rfl rfl ((fun h => h)) Tryz.underlying76 uT3 rfl (by assumption)) <| nL <| tG <| sm 1 rfl <| cV rfl (nCk rfl rfl rfl) <| sm 1 rfl ?_
    refine c0 (sBx rfl rfl rfl rfl ((fun h => h)) tS4 (rfl) (lb rfl)) <| nL <| Tr.drop (k := 106) ?_
    refine Tr.heap (σ' := look (up (wH (st ++ [x]) (gr s (st ++ [x]) g)))) (by
      rw [gr_put hI2]; simp only [wH]; rw [← vsOf_snoc]
      intro j
      try simp only [look]
      by_cases h106 : 106 = j
      · subst h106; rfl
      · by_cases h3001 : 3001 = j
        · subst h3001; rfl
        · by_cases h3002 : 3002 = j
          · subst h3002; rfl
          · simp [wH, wM, look, up, beq_ne h106, beq_ne h3001, beq_ne h3002]) ?_
    refine tG <| cV rfl (oB rfl rfl (i64_add rfl (by omega))) <| sm 1 rfl <| nL ?_
    refine ⟨_, _, ?_, Sub.of (fr' := [(10, iInt (k + 1)), (9, iInt l.length), (8, .pv (ints l)), (0, .ptr 3001 0)]) ⟨rfl, rfl, rfl, rfl, trivial⟩, (k + 1), (st ++ [x]), ?_, ?_, ?_, rfl, rfl, rfl⟩
    ·omega
    ·omega
    ·rw [hI1, hd]
     rw [wAdd_not hc]
    first
    | exact hI2
    | exact hI2.trans ⟨_, rfl⟩
   have hc : st.contains x = true := by
     rw [← vsOf_has]; simpa using hc24
   refine tSk <| Tr.drop (k := 106) ?_
   refine Tr.heap (σ' := look (up (wH st (gr s st g)))) (by
     skip
     intro j
     try simp only [look]
     by_cases h106 : 106 = j
     · subst h106; rfl
     · by_cases h3001 : 3001 = j
       · subst h3001; rfl
       · by_cases h3002 : 3002 = j
         · subst h3002; rfl
         · simp [wH, wM, look, up, beq_ne h106, beq_ne h3001, beq_ne h3002]) ?_
   refine tG <| cV rfl (oB rfl rfl (i64_add rfl (by omega))) <| sm 1 rfl <| nL ?_
   refine ⟨_, _, ?_, Sub.of (fr' := [(10, iInt (k + 1)), (9, iInt l.length), (8, .pv (ints l)), (0, .ptr 3001 0)]) ⟨rfl, rfl, rfl, rfl, trivial⟩, (k + 1), st, ?_, ?_, ?_, rfl, rfl, rfl⟩
   ·omega
   ·omega
   ·rw [hI1, hd]
    rw [wAdd_has hc]
   first
   | exact hI2
   | exact hI2.trans ⟨_, rfl⟩
  refine tEx ?_
  have hge : l.length ≤ k := by simpa using hc11
  have he : wAdd s l = st := by rw [hI1, List.drop_eq_nil_of_le hge]; rfl
  rw [he]
  exact end_ok rfl rfl (po2 rfl rfl)
theorem sc_wHanded (l to : List Int) (s : List Int) (g : Bool) (hlt0 : to.length ≤ l.length) : SC Tryz.prog 87 [.ptr 3001 0, .pv (ints l), .pv (ints to)] (wH s g) (fun _ => False) (.tup []) (wH (wHanded s l to) (gr s (wHanded s l to) g)) := by
  refine SC.of Tryz.func87 rfl (lb rfl) fun F ρ w => ?_
  refine Tr.lenOf (t := 2) rfl (fun hl => ?_)
  simp only [List.length_map] at hl
  refine tQ <| tG <| sm 1 rfl <| cV rfl (oSm uT35 rfl) <| sm 1 rfl <| nL <| tBk <| Tr.sub (Sub.of (fr' := [(10, iInt 0), (9, iInt to.length), (8, .pv (ints to)), (0, .ptr 3001 0), (1, .pv (ints l))]) ⟨rfl, rfl, rfl, rfl, rfl, trivial⟩) <| Tr.heap (σ' := look (up (wH s (gr s s g)))) (by rw [gr_self]; exact fun _ => rfl) ?_
  refine Tr.loop (fun fr σ m => ∃ (k : Nat) (st : List Int), (k ≤ to.length) ∧ (wHanded s l to = wHanded st (l.drop k) (to.drop k)) ∧ (Pre s st) ∧ fr = [(10, iInt k), (9, iInt to.length), (8, .pv (ints to)), (0, .ptr 3001 0), (1, .pv (ints l))] ∧ σ = look (up (wH st (gr s st g))) ∧ m = to.length - k) (n := to.length - 0) ?_ ?_
  ·exact ⟨0, s, Nat.zero_le _, rfl, .refl s, rfl, rfl, rfl⟩
  rintro fr σ m ⟨k, st, hI0, hI1, hI2, rfl, rfl, rfl⟩
  refine tQ <| tG <| sm 1 rfl <| nL <| tQ ?_
  refine tC rfl (fun hc11 => ?_) fun hc11 => ?_
  ·have hlt : k < to.length := by simpa using hc11
   have hd := List.drop_eq_getElem_cons hlt
   have hm := List.getElem_mem hlt
   have hi := map_get (f := eInt) (List.getElem?_eq_getElem hlt)
   generalize to[k] = x at hd hm hi
   have hltw : k < l.length := by omega
   have hdw := List.drop_eq_getElem_cons hltw
   have hw := map_get (f := eInt) (List.getElem?_eq_getElem hltw)
   generalize l[k] = y at hdw hw
   refine tSk <| tQ <| tBk <| tQ <| tG <| sm 1 rfl <| cV rfl (iSq rfl rfl rfl uT35 hi tS3 rfl (by rfl)) <| sm 3 rfl <| nL <| tQ <| tG <| sm 1 rfl ?_
   refine cV rfl (nCk rfl rfl rfl) <| sm 3 rfl <| cE rfl (ocr (sc_wHas st x) ent64 rfl (po1 rfl) rfl nf rfl rfl) <| nL ?_
   refine tC rfl (fun hc20 => ?_) fun hc20 => ?_
   ·refine tG <| sm 3 rfl <| cV rfl (iSq rfl rfl rfl uT35 hw tS3 rfl (by rfl)) <| sm 1 rfl <| cE rfl (bSl rfl rfl uT35 tZ3 tS3 rfl rfl rfl rfl (fbk rfl) rfl) <| cE rfl (ocr (sc_wAdd [y] st (gr s st g)) ent88 rfl (po2 rfl rfl) rfl (fun k (h : _) => .inr h) rfl rfl) <| nL ?_
    refine Tr.heap (σ' := look (up (wH (wAdd st [y]) (gr s (wAdd st [y]) g)))) (by
      rw [← gr_trans hI2 (wAdd_pre [y] st)]
      intro j
      try simp only [look]
      by_cases h3001 : 3001 = j
      · subst h3001; rfl
      · by_cases h3002 : 3002 = j
        · subst h3002; rfl
        · simp [wH, wM, look, up, beq_ne h3001, beq_ne h3002]) ?_
    refine tG <| cV rfl (oB rfl rfl (i64_add rfl (by omega))) <| sm 1 rfl <| nL ?_
    refine ⟨_, _, ?_, Sub.of (fr' := [(10, iInt (k + 1)), (9, iInt to.length), (8, .pv (ints to)), (0, .ptr 3001 0), (1, .pv (ints l))]) ⟨rfl, rfl, rfl, rfl, rfl, trivial⟩, (k + 1), (wAdd st [y]), ?_, ?_, ?_, rfl, rfl, rfl⟩
    ·omega
    ·omega
    ·rw [hI1, hd, hdw]
     (have hc : st.contains x = true := hc20; simp only [wHanded, hc, if_true]; done)
    first
    | exact hI2
    | exact hI2.trans (wAdd_pre _ _)
   refine tSk ?_
   refine Tr.heap (σ' := look (up (wH st (gr s st g)))) (by
     skip
     intro j
     try simp only [look]
     by_cases h3001 : 3001 = j
     · subst h3001; rfl
     · by_cases h3002 : 3002 = j
       · subst h3002; rfl
       · simp [wH, wM, look, up, beq_ne h3001, beq_ne h3002]) ?_
   refine tG <| cV rfl (oB rfl rfl (i64_add rfl (by omega))) <| sm 1 rfl <| nL ?_
   refine ⟨_, _, ?_, Sub.of (fr' := [(10, iInt (k + 1)), (9, iInt to.length), (8, .pv (ints to)), (0, .ptr 3001 0), (1, .pv (ints l))]) ⟨rfl, rfl, rfl, rfl, rfl, trivial⟩, (k + 1), st, ?_, ?_, ?_, rfl, rfl, rfl⟩
   ·omega
   ·omega
   ·rw [hI1, hd, hdw]
    (have hc : st.contains x = false := hc20; simp only [wHanded, hc, Bool.false_eq_true, if_false]; done)
   first
   | exact hI2
   | exact hI2.trans (wAdd_pre _ _)
  refine tEx ?_
  have hge : to.length ≤ k := by simpa using hc11
  have he : wHanded s l to = st := by rw [hI1, List.drop_eq_nil_of_le hge]; cases l.drop k <;> rfl
  rw [he]
  exact end_ok rfl rfl (po2 rfl rfl)
theorem sc_wKept (l to : List Int) (s : List Int) (hlt0 : to.length ≤ l.length) (hb : to.length ≤ 1073741824) : SC Tryz.prog 62 [.mp 3002, .pv (ints l), .pv (ints to)] (wM s) (fun k => k = 3002) (.pv (ints (wKept s l to))) (wM s) := by
  refine SC.of Tryz.func62 rfl (lb rfl) fun F ρ w => ?_
  refine Tr.lenOf (t := 2) rfl (fun hl => ?_)
  simp only [List.length_map] at hl
  refine tQ <| tG <| sm 1 rfl <| nL <| tQ <| tQ <| Tr.grow (t := 6) (k := 106) ⟨3, 1⟩ rfl rfl rfl rfl rfl <| tG <| sm 1 rfl <| cV rfl (oSm uT35 rfl) <| sm 1 rfl <| nL ?_
  refine tBk <| Tr.sub (Sub.of (fr' := [(11, iInt 0), (10, iInt to.length), (9, .pv (ints to)), (6, .sl 106 (([] : List Int).map eInt).length), (0, .mp 3002), (1, .pv (ints l))]) ⟨rfl, rfl, rfl, rfl, rfl, rfl, trivial⟩) ?_
  refine Tr.loop (fun fr σ m => ∃ (k : Nat) (acc : List Int), (k ≤ to.length) ∧ (acc ++ wKept s (l.drop k) (to.drop k) = wKept s l to) ∧ fr = [(11, iInt k), (10, iInt to.length), (9, .pv (ints to)), (6, .sl 106 (acc.map eInt).length), (0, .mp 3002), (1, .pv (ints l))] ∧ σ = look [(106, some (.row ⟨3, 1⟩ (acc.map eInt))), (3002, some (.map (vsOf s)))] ∧ m = to.length - k) (n := to.length - 0) ?_ ?_
  ·exact ⟨0, ([] : List Int), Nat.zero_le _, rfl, rfl, rfl, rfl⟩
  rintro fr σ m ⟨k, acc, hI0, hI1, rfl, rfl, rfl⟩
  refine tQ <| tG <| sm 1 rfl <| nL <| tQ ?_
  refine tC rfl (fun hc12 => ?_) fun hc12 => ?_
  ·have hlt : k < to.length := by simpa using hc12
   have hd := List.drop_eq_getElem_cons hlt
   have hm := List.getElem_mem hlt
   have hi := map_get (f := eInt) (List.getElem?_eq_getElem hlt)
   generalize to[k] = x at hd hm hi
   have hltw : k < l.length := by omega
   have hdw := List.drop_eq_getElem_cons hltw
   have hw := map_get (f := eInt) (List.getElem?_eq_getElem hltw)
   generalize l[k] = y at hdw hw
   have hal : (acc.map eInt).length = acc.length := by simp
   have hol : acc.length + (wKept s (l.drop k) (to.drop k)).length ≤ 1073741824 := by
     have h1 := congrArg List.length hI1
     have h2 := wKept_len s l to
     simp only [List.length_append] at h1
     omega
   refine tSk <| tQ <| tBk <| tQ <| tG <| sm 1 rfl <| cV rfl (iSq rfl rfl rfl uT35 hi tS3 rfl (by rfl)) <| sm 3 rfl <| nL <| tQ <| tG <| sm 2 rfl ?_
   refine cE rfl (ocr (sc_wHas s x) ent64 rfl (po1 rfl) rfl (fun k (h : _) => .inr h) rfl rfl) <| nL ?_
   refine tC rfl (fun hc18 => ?_) fun hc18 => ?_
   ·have hol2 : acc.length + 1 ≤ 1073741824 := by
      have h1 := hol
      rw [hd, hdw] at h1
      have hc : s.contains x = true := hc18
      simp only [wKept, hc, if_true, List.length_cons] at h1
      omega
    refine tG <| sm 3 rfl <| cV rfl (iSq rfl rfl rfl uT35 hw tS3 rfl (by rfl)) <| sm 1 rfl <| cE rfl (bSl rfl rfl uT35 tZ3 tS3 rfl rfl rfl rfl (fbk rfl) rfl) ?_
    refine cE rfl (aPp rfl rfl rfl rfl (by rfl) (by simp) uT35 tB3 (by decide) (by (simp [chunks]; done)) (by (simp [chunks, PV.one]; rfl)) (by simp [maxLen, chunks]; omega) (by simp [chunks]; omega)) ?_
    refine sm 1 rfl <| nL ?_
    refine Tr.heap (σ' := look [(106, some (.row ⟨3, 1⟩ ((acc ++ [y]).map eInt))), (3002, some (.map (vsOf s)))]) (by
      rw [List.map_append]
      intro j
      try simp only [look]
      by_cases h106 : 106 = j
      · subst h106; rfl
      · by_cases h3002 : 3002 = j
        · subst h3002; rfl
        · simp [wH, wM, look, up, beq_ne h106, beq_ne h3002]) ?_
    refine tG <| cV rfl (oB rfl rfl (i64_add rfl (by omega))) <| sm 1 rfl <| nL ?_
    refine ⟨_, _, ?_, Sub.of (fr' := [(11, iInt (k + 1)), (10, iInt to.length), (9, .pv (ints to)), (6, .sl 106 ((acc ++ [y]).map eInt).length), (0, .mp 3002), (1, .pv (ints l))]) ⟨rfl, rfl, rfl, (by exact congrArg (fun z => some (IV.sl _ z)) (by rw [List.map_append]; simp [chunks])), rfl, rfl, trivial⟩, (k + 1), (acc ++ [y]), ?_, ?_, rfl, rfl, rfl⟩
    ·omega
    ·omega
    rw [← hI1, hd, hdw]
    (have hc : s.contains x = true := hc18; simp only [wKept, hc, if_true, List.append_assoc, List.singleton_append]; done)
   refine tSk ?_
   refine Tr.heap (σ' := look [(106, some (.row ⟨3, 1⟩ (acc.map eInt))), (3002, some (.map (vsOf s)))]) (by
     skip
     intro j
     try simp only [look]
     by_cases h106 : 106 = j
     · subst h106; rfl
     · by_cases h3002 : 3002 = j
       · subst h3002; rfl
       · simp [wH, wM, look, up, beq_ne h106, beq_ne h3002]) ?_
   refine tG <| cV rfl (oB rfl rfl (i64_add rfl (by omega))) <| sm 1 rfl <| nL ?_
   refine ⟨_, _, ?_, Sub.of (fr' := [(11, iInt (k + 1)), (10, iInt to.length), (9, .pv (ints to)), (6, .sl 106 (acc.map eInt).length), (0, .mp 3002), (1, .pv (ints l))]) ⟨rfl, rfl, rfl, (by rfl), rfl, rfl, trivial⟩, (k + 1), acc, ?_, ?_, rfl, rfl, rfl⟩
   ·omega
   ·omega
   rw [← hI1, hd, hdw]
   (have hc : s.contains x = false := hc18; simp only [wKept, hc, Bool.false_eq_true, if_false]; done)
  refine tEx <| tQ <| Tr.freeze (t := 6) (k := 106) rfl rfl (by simp) <| tG <| sm 2 rfl <| nL <| tRt <| rOk rfl ?_ (po1 rfl)
  have hge : to.length ≤ k := by simpa using hc12
  have he : acc = wKept s l to := by rw [← hI1, List.drop_eq_nil_of_le hge]; cases l.drop k <;> simp [wKept]
  rw [he]
  rfl
theorem sc_wNode (x : Nd) (h : Hd) (s : List Int) (g : Bool) (hok : wOkN h x = true) (ih : ∀ q ∈ x.kids, ∀ (h : Hd) (s : List Int) (g : Bool), wOkL h q = true → SC Tryz.prog 39 [.ptr 3001 0, .pv (nodes q), .pv (hdv h)] (wH s g) (fun _ => False) (.tup []) (wH (wList h s q) (gr s (wList h s q) g))) : SC Tryz.prog 61 [.ptr 3001 0, .pv (ndv x), .pv (hdv h)] (wH s g) (fun _ => False) (.tup []) (wH (wNode h s x) (gr s (wNode h s x) g)) := by
  refine SC.of Tryz.func61 rfl (lb rfl) fun F ρ w => ?_
  refine tQ <| tG <| cE rfl (ok_box rfl rfl) <| cE rfl (ok_boxOwnP (k := 105) rfl rfl rfl rfl rfl rfl) <| nL <| tQ <| tG <| sm 2 rfl <| nL <| tBk <| tQ <| tG ?_
  refine sm 2 rfl <| nL ?_
  refine tC rfl (fun hc26 => ?_) fun hc26 => ?_
  ·have hk : (x.kind == 12) = true := hc26
   have hle : h.yield.length ≤ x.args.length := by
     rw [wOkN_eq] at hok
     simpa [hk] using hok
   have hN : wNode h s x = wHanded s x.args h.yield := by
     rw [wNode_eq]
     simp only [hk, if_true, Bool.false_eq_true, if_false]
   refine tG <| sm 5 rfl <| cE rfl (ocr (sc_wHanded x.args h.yield s g hle) ent87 rfl (po2 rfl rfl) rfl (fun k (h : _) => .inr h) rfl rfl) <| nL ?_
   rw [hN]
   exact end_ok rfl rfl (po2 rfl rfl)
  have hk12 : (x.kind == 12) = false := hc26
  refine tQ <| tG <| sm 2 rfl <| nL ?_
  refine tC rfl (fun hc34 => ?_) fun hc34 => ?_
  ·have hk : (x.kind == 13) = true := hc34
   have hle : h.next.length ≤ x.args.length := by
     rw [wOkN_eq] at hok
     simpa [hk12, hk] using hok
   have hN : wNode h s x = wHanded s x.args h.next := by
     rw [wNode_eq]
     simp only [hk12, hk, if_true, Bool.false_eq_true, if_false]
   refine tG <| sm 5 rfl <| cE rfl (ocr (sc_wHanded x.args h.next s g hle) ent87 rfl (po2 rfl rfl) rfl (fun k (h : _) => .inr h) rfl rfl) <| nL ?_
   rw [hN]
   exact end_ok rfl rfl (po2 rfl rfl)
  have hk13 : (x.kind == 13) = false := hc34
  refine tQ <| tG <| sm 2 rfl <| nL ?_
  refine tC rfl (fun hc42 => ?_) fun hc42 => ?_
  ·have hk : (x.kind == 14) = true := hc42
   have hle : h.left.length ≤ x.args.length := by
     rw [wOkN_eq] at hok
     simpa [hk12, hk13, hk] using hok
   have hN : wNode h s x = wHanded s x.args h.left := by
     rw [wNode_eq]
     simp only [hk12, hk13, hk, if_true, Bool.false_eq_true, if_false]
   refine tG <| sm 5 rfl <| cE rfl (ocr (sc_wHanded x.args h.left s g hle) ent87 rfl (po2 rfl rfl) rfl (fun k (h : _) => .inr h) rfl rfl) <| nL ?_
   rw [hN]
   exact end_ok rfl rfl (po2 rfl rfl)
  have hk14 : (x.kind == 14) = false := hc42
  refine tQ <| tG <| sm 2 rfl <| nL ?_
  refine tC rfl (fun hc50 => ?_) fun hc50 => ?_
  ·have hk : (x.kind == 10) = true := hc50
   rw [wOkN_eq] at hok
   simp only [hk12, hk13, hk14, hk, if_true, Bool.false_eq_true, if_false, Bool.and_eq_true, beq_iff_eq] at hok
   obtain ⟨a, b, hks⟩ : ∃ a b, x.kids = [a, b] := by
     have h1 := hok.1
     match x.kids, h1 with
     | [a, b], _ => exact ⟨a, b, rfl⟩
   have hi0 : (x.kids.map eKid)[0]? = some [nodes a] := by rw [hks]; rfl
   have hi1 : (x.kids.map eKid)[1]? = some [nodes b] := by rw [hks]; rfl
   have ha : a ∈ x.kids := by rw [hks]; exact .head _
   have hb : b ∈ x.kids := by rw [hks]; exact .tail _ (.head _)
   have hoa := wOkK_mem hok.2 ha
   have hob := wOkK_mem hok.2 hb
   have hN : wNode h s x = wList ⟨x.outs, h.next, h.left⟩ (wList ⟨x.outs, h.next, h.left⟩ (wAdd s x.args) a) b := by
     rw [wNode_eq]
     simp only [hk12, hk13, hk14, hk, if_true, Bool.false_eq_true, if_false, hks]
     rfl
   have p1 := wAdd_pre x.args s
   have p2 := wList_pre a ⟨x.outs, h.next, h.left⟩ (wAdd s x.args)
   have p3 := wList_pre b ⟨x.outs, h.next, h.left⟩ (wList ⟨x.outs, h.next, h.left⟩ (wAdd s x.args) a)
   refine tQ <| tG <| sm 3 rfl <| cE rfl (ocr (sc_wAdd x.args s g) ent88 rfl (po2 rfl rfl) rfl (fun k (h : _) => .inr h) rfl rfl) <| nL <| tQ <| tG <| sm 3 rfl <| c0 (sBx rfl rfl rfl rfl ((fun h => h)) tS35 (rfl) (lb rfl)) <| nL <| tQ <| tDr mixed (fun k => k ∈ ([105] : List Nat)) ?_
   refine wR 1 [0, 1, 2, 3, 4, 5] (by kernel_rfl) (fun _ _ _ h => h) <| smR 3 rfl <| rV rfl rfl (iSq rfl rfl rfl uT41 hi0 tS44 rfl (by rfl)) <| smR 1 rfl <| rV rfl rfl (lBP rfl rfl rfl Tryz.underlying81 rfl tS81 (lb rfl) rfl (by decide)) <| nR <| wO 6 (by kernel_rfl) <| wI rfl rfl nf (nAp rfl) (fun _ _ => ocr (ih a ha ⟨x.outs, h.next, h.left⟩ (wAdd s x.args) (gr s (wAdd s x.args) g) hoa) ent39 rfl (po2 rfl rfl) rfl (fun k (h : _) => by (simp only [List.mem_cons, List.not_mem_nil, or_false] at h; rcases h with rfl <;> first | exact .inl rfl | exact .inr rfl | exact .inr (by decide))) rfl rfl) <| wDn (by kernel_rfl) <| tDr mixed (fun k => k ∈ ([105] : List Nat)) <| wR 1 [0, 1, 2, 3, 4, 5] (by kernel_rfl) (fun _ _ _ h => h) <| smR 3 rfl ?_
   refine rV rfl rfl (iSq rfl rfl rfl uT41 hi1 tS44 rfl (by rfl)) <| smR 1 rfl <| rV rfl rfl (lBP rfl rfl rfl Tryz.underlying81 rfl tS81 (lb rfl) rfl (by decide)) <| nR <| wO 6 (by kernel_rfl) <| wI rfl rfl nf (nAp rfl) (fun _ _ => ocr (ih b hb ⟨x.outs, h.next, h.left⟩ (wList ⟨x.outs, h.next, h.left⟩ (wAdd s x.args) a) (gr (wAdd s x.args) (wList ⟨x.outs, h.next, h.left⟩ (wAdd s x.args) a) (gr s (wAdd s x.args) g)) hob) ent39 rfl (po2 rfl rfl) rfl (fun k (h : _) => by (simp only [List.mem_cons, List.not_mem_nil, or_false] at h; rcases h with rfl <;> first | exact .inl rfl | exact .inr rfl | exact .inr (by decide))) rfl rfl) <| wDn (by kernel_rfl) ?_
   rw [hN, ← gr_trans (p1.trans p2) p3, ← gr_trans p1 p2]
   exact end_ok rfl rfl (po2 rfl rfl)
  have hk10 : (x.kind == 10) = false := hc50
  refine tQ <| tG <| sm 2 rfl <| nL ?_
  refine tC rfl (fun hc73 => ?_) fun hc73 => ?_
  ·have hk : (x.kind == 11) = true := hc73
   rw [wOkN_eq] at hok
   simp only [hk12, hk13, hk14, hk10, hk, if_true, Bool.false_eq_true, if_false, Bool.and_eq_true, beq_iff_eq, decide_eq_true_eq] at hok
   have hle := hok.1
   obtain ⟨a, hks⟩ : ∃ a, x.kids = [a] := by
     have h1 := hok.2.1
     match x.kids, h1 with
     | [a], _ => exact ⟨a, rfl⟩
   have hi0 : (x.kids.map eKid)[0]? = some [nodes a] := by rw [hks]; rfl
   have ha : a ∈ x.kids := by rw [hks]; exact .head _
   have hoa := wOkK_mem hok.2.2 ha
   have hN : wNode h s x = wList ⟨[], x.params, x.outs⟩ (wHanded s x.args x.params) a := by
     rw [wNode_eq]
     simp only [hk12, hk13, hk14, hk10, hk, if_true, Bool.false_eq_true, if_false, hks]
     rfl
   have p1 := wHanded_pre x.args x.params s
   have p2 := wList_pre a ⟨[], x.params, x.outs⟩ (wHanded s x.args x.params)
   refine tQ <| tG <| sm 5 rfl <| cE rfl (ocr (sc_wHanded x.args x.params s g hle) ent87 rfl (po2 rfl rfl) rfl (fun k (h : _) => .inr h) rfl rfl) <| nL <| tDr mixed (fun k => k ∈ ([105] : List Nat)) <| wR 1 [0, 1, 2, 3, 4, 5, 6, 7, 8, 9] (by kernel_rfl) (fun _ _ _ h => h) <| smR 3 rfl <| rV rfl rfl (iSq rfl rfl rfl uT41 hi0 tS44 rfl (by rfl)) <| smR 5 rfl <| rV rfl rfl (bPu rfl rfl tZ81 tP81 rfl (fbk rfl) rfl) <| nR ?_
   refine wO 10 (by kernel_rfl) <| wI rfl rfl nf (nAp rfl) (fun _ _ => cRr (ih a ha ⟨[], x.params, x.outs⟩ (wHanded s x.args x.params) (gr s (wHanded s x.args x.params) g) hoa) ent39 rfl rfl (sSm rfl (sSm rfl (Subs.cons (fun _ _ _ _ h => sub_pv (p := .agg [.val (.slice none 0 0), ints x.params, ints x.outs]) (PSub.agg ⟨PSub.nil, PSub.refl _, PSub.refl _, trivial⟩) h) Subs.nil))) (po2 rfl rfl) (by rfl) (fun k (h : _) => by (simp only [List.mem_cons, List.not_mem_nil, or_false] at h; rcases h with rfl <;> first | exact .inl rfl | exact .inr rfl | exact .inr (by decide))) rfl (by rfl)) <| wDn (by kernel_rfl) ?_
   rw [hN, ← gr_trans p1 p2]
   exact end_ok rfl rfl (po2 rfl rfl)
  have hk11 : (x.kind == 11) = false := hc73
  rw [wOkN_eq] at hok
  simp only [hk12, hk13, hk14, hk10, hk11, Bool.false_eq_true, if_false] at hok
  have hN : wNode h s x = if !hmless x || s.contains (x.outs.headD 0) then wAdd s x.args else s := by
    rw [wNode_eq]
    simp only [hk12, hk13, hk14, hk10, hk11, Bool.false_eq_true, if_false]
  refine tQ <| tDr mixed (fun k => k ∈ ([3001, 3002, 105] : List Nat)) <| wR 13 [0] (by kernel_rfl) (fun _ _ _ h => h) <| rV rfl rfl (lEA rfl rfl uT43 rfl tS43 (lb rfl)) <| nR <| wO 1 (by kernel_rfl) <| wI rfl rfl nf nw (fun _ _ => ocq (sc_harmlessW _) ent63 rfl rfl) <| wR 2 [2, 3, 4, 5, 6, 7, 8, 9, 10, 11] (by kernel_rfl) (fun _ _ _ h => h) <| smR 2 rfl ?_
  refine WR.split (t := 11) rfl (fun hb11 => ?_) (fun hb11 => ?_)
  ·refine smR 8 rfl <| nR <| wN 12 (by kernel_rfl) (fun _ _ _ h => h) rfl rfl rfl <| wR 0 [13] (by kernel_rfl) (fun _ _ _ h => h) <| smR 1 rfl <| nR <| wDn (by kernel_rfl) <| Tr.condT rfl <| tG <| sm 3 rfl <| cE rfl (ocr (sc_wAdd x.args s g) ent88 rfl (po2 rfl rfl) rfl (fun k (h : _) => .inr h) rfl rfl) <| nL ?_
   have hN2 : wNode h s x = wAdd s x.args := by
     rw [hN]
     (have hh : hmless x = false := by simpa using hb11
      rw [hh]; rfl)
   rw [hN2]
   exact end_ok rfl rfl (po2 rfl rfl)
  have hhm : hmless x = true := by simpa using hb11
  obtain ⟨o0, ors, hos⟩ := List.exists_cons_of_ne_nil (show x.outs ≠ [] from fun e => by rw [hhm, e] at hok; cases hok)
  have ho0 : (x.outs.map eInt)[0]? = some [vInt o0] := by rw [hos]; rfl
  have hoh : x.outs.headD 0 = o0 := by rw [hos]; rfl
  refine smR 1 rfl <| ryV rfl rfl rfl (nCk rfl rfl rfl) <| smR 1 rfl <| ryV rfl rfl rfl (oLb Tryz.underlying76 rfl rfl rfl (by decide)) <| smR 2 rfl <| ryV rfl rfl rfl (iSq rfl rfl rfl uT35 ho0 tS3 rfl (by rfl)) <| smR 1 rfl <| nR <| wO 12 (by kernel_rfl) <| wY rfl rfl rfl nf (nAp rfl) (fun _ _ => ocr (sc_wHas s o0) ent64 rfl (po1 rfl) rfl (fun k (h : _) => by (simp only [List.mem_cons, List.not_mem_nil, or_false] at h; rcases h with rfl | rfl | rfl <;> first | exact .inl rfl | exact .inr rfl | exact .inr (by decide))) rfl rfl) <| wR 0 [13] (by kernel_rfl) (fun _ _ _ h => h) <| smR 1 rfl ?_
  refine nR <| wDn (by kernel_rfl) ?_
  refine tC rfl (fun hc21 => ?_) fun hc21 => ?_
  ·refine tG <| sm 3 rfl <| cE rfl (ocr (sc_wAdd x.args s g) ent88 rfl (po2 rfl rfl) rfl (fun k (h : _) => .inr h) rfl rfl) <| nL ?_
   have hN2 : wNode h s x = wAdd s x.args := by
     rw [hN]
     (have hh : s.contains o0 = true := hc21
      rw [hoh, hh, Bool.or_true]; rfl)
   rw [hN2]
   exact end_ok rfl rfl (po2 rfl rfl)
  refine tSk ?_
  have hh : s.contains o0 = false := hc21
  have hN2 : wNode h s x = s := by
    rw [hN, hhm, hoh, hh]; rfl
  rw [hN2, gr_self]
  exact end_ok rfl rfl (po2 rfl rfl)
theorem sc_wList_aux (N : Nat) : ∀ (l : List Nd) (h : Hd) (s : List Int) (g : Bool) (hok : wOkL h l = true), SizeOf.sizeOf l < N → SC Tryz.prog 39 [.ptr 3001 0, .pv (nodes l), .pv (hdv h)] (wH s g) (fun _ => False) (.tup []) (wH (wList h s l) (gr s (wList h s l) g)) := by
  induction N with
  | zero => intro l h s g hok hN; exact absurd hN (Nat.not_lt_zero _)
  | succ N ih =>
    intro l h s g hok hN
    refine SC.of Tryz.func39 rfl (lb rfl) fun F ρ w => ?_
    refine Tr.lenOf (t := 1) rfl (fun hl => ?_)
    simp only [List.length_map] at hl
    refine tQ <| tG <| cE rfl (ok_box rfl rfl) <| nL <| tQ <| tG <| sm 1 rfl <| cV rfl (oSm uT44 rfl) <| sm 1 rfl <| nL <| tBk <| Tr.sub (Sub.of (fr' := [(10, iInt 0), (9, iInt l.length), (8, .pv (nodes l)), (5, .pv (.ept [ints h.yield, ints h.next, ints h.left] 0)), (0, .ptr 3001 0)]) ⟨rfl, rfl, rfl, rfl, rfl, trivial⟩) ?_
    refine Tr.heap (σ' := look (up (wH s (gr s s g)))) (by rw [gr_self]; exact fun _ => rfl) ?_
    refine Tr.loop (fun fr σ m => ∃ (k : Nat) (st : List Int), (k ≤ l.length) ∧ (wList h s l = wList h st (l.drop k)) ∧ (Pre s st) ∧ fr = [(10, iInt k), (9, iInt l.length), (8, .pv (nodes l)), (5, .pv (.ept [ints h.yield, ints h.next, ints h.left] 0)), (0, .ptr 3001 0)] ∧ σ = look (up (wH st (gr s st g))) ∧ m = l.length - k) (n := l.length - 0) ?_ ?_
    ·exact ⟨0, s, Nat.zero_le _, rfl, .refl s, rfl, rfl, rfl⟩
    rintro fr σ m ⟨k, st, hI0, hI1, hI2, rfl, rfl, rfl⟩
    refine tQ <| tG <| sm 1 rfl <| nL <| tQ ?_
    refine tC rfl (fun hc11 => ?_) fun hc11 => ?_
    ·have hlt : k < l.length := by simpa using hc11
     have hd := List.drop_eq_getElem_cons hlt
     have hm := List.getElem_mem hlt
     have hi := nodes_get (List.getElem?_eq_getElem hlt)
     generalize l[k] = x at hd hm hi
     have hxok := wOkL_mem hok hm
     refine tSk <| tQ <| tBk <| tQ <| tG <| cV rfl (iSq rfl rfl rfl uT44 hi tS43 rfl (by rfl)) <| cV rfl (lEA rfl rfl uT43 rfl tS43 (lb rfl)) <| cE rfl (aLc (k := 107) rfl tZ43 rfl rfl rfl rfl) <| c0 (sBA rfl rfl rfl rfl rfl ((fun h => h)) tS43 (flk rfl) (lb rfl)) <| nL <| Tr.freezeBox (t := 7) (k := 107) rfl rfl rfl ?_
     refine Tr.heap (σ' := look (up (wH st (gr s st g)))) (by
       skip
       intro j
       try simp only [look]
       by_cases h107 : 107 = j
       · subst h107; rfl
       · by_cases h3001 : 3001 = j
         · subst h3001; rfl
         · by_cases h3002 : 3002 = j
           · subst h3002; rfl
           · simp [wH, wM, look, up, beq_ne h107, beq_ne h3001, beq_ne h3002]) ?_
     refine tG <| sm 1 rfl <| cV rfl (lEA rfl rfl uT43 rfl tS43 (lb rfl)) <| cV rfl (lEA rfl rfl Tryz.underlying81 rfl tS81 (lb rfl)) <| cE rfl (ocr (sc_wNode x h st (gr s st g) hxok (fun q hq h s g hq2 => ih q h s g hq2 (Nat.lt_of_lt_of_le (kid_lt hm rfl hq) (Nat.le_of_lt_succ hN)))) ent61 rfl (po2 rfl rfl) rfl (fun k (h : _) => .inr h) rfl rfl) <| nL ?_
     refine Tr.heap (σ' := look (up (wH (wNode h st x) (gr s (wNode h st x) g)))) (by
       rw [← gr_trans hI2 (wNode_pre x h st)]
       intro j
       try simp only [look]
       by_cases h3001 : 3001 = j
       · subst h3001; rfl
       · by_cases h3002 : 3002 = j
         · subst h3002; rfl
         · simp [wH, wM, look, up, beq_ne h3001, beq_ne h3002]) ?_
     refine tG <| cV rfl (oB rfl rfl (i64_add rfl (by omega))) <| sm 1 rfl <| nL ?_
     refine ⟨_, _, ?_, Sub.of (fr' := [(10, iInt (k + 1)), (9, iInt l.length), (8, .pv (nodes l)), (5, .pv (.ept [ints h.yield, ints h.next, ints h.left] 0)), (0, .ptr 3001 0)]) ⟨rfl, rfl, rfl, rfl, rfl, trivial⟩, (k + 1), (wNode h st x), ?_, ?_, ?_, rfl, rfl, rfl⟩
     ·omega
     ·omega
     ·rw [hI1, hd]; rfl
     exact hI2.trans (wNode_pre _ _ _)
    refine tEx ?_
    have hge : l.length ≤ k := by simpa using hc11
    have he : wList h s l = st := by rw [hI1, List.drop_eq_nil_of_le hge]; rfl
    rw [he]
    exact end_ok rfl rfl (po2 rfl rfl)
theorem sc_wList (l : List Nd) (h : Hd) (s : List Int) (g : Bool) (hok : wOkL h l = true) : SC Tryz.prog 39 [.ptr 3001 0, .pv (nodes l), .pv (hdv h)] (wH s g) (fun _ => False) (.tup []) (wH (wList h s l) (gr s (wList h s l) g)) := sc_wList_aux _ l h s g hok (Nat.lt_succ_self _)
section
variable {P : Program} {c : Cx} {R1 : Nat → Prop} {o : Oper} {fr : Fr} {σ : Heap'} {ops : Array Oper} {Q : Exit → Fr → Heap' → Prop} {fuel : Nat} {listed : Array Bool} {T : List Nat}
def clean (T : List Nat) (listed : Array Bool) : Bool := T.all fun t => !listed.getD t true
def latest (ops : Array Oper) (T : List Nat) (i : Nat) : Bool :=
  !T.contains i && T.all fun t => ((ops[t]?).map (·.after.any fun e => Region.binds .any e && (e.on == i || T.contains e.on))).getD false
theorem clean_of_set {i : Nat} (h : clean T (listed.setIfInBounds i true) = true) : clean T listed = true := by
  simp only [clean, List.all_eq_true] at *
  intro t ht
  have h1 := h t ht
  by_cases e : i = t
  ·subst e
   by_cases hlt : i < listed.size
   ·simp [hlt] at h1
   simp [hlt] at h1
  rw [getD_set_ne true e] at h1
  exact h1
theorem clean_set {i : Nat} (hi : i ∉ T) (h : clean T listed = true) : clean T (listed.setIfInBounds i true) = true := by
  simp only [clean, List.all_eq_true] at *
  intro t ht
  have hne : i ≠ t := fun e => by subst e; exact hi ht
  rw [getD_set_ne true hne]
  exact h t ht
def wpAnyC (P : Program) (ops : Array Oper) (Q : Exit → Act → World → Prop) (S : World → Prop) (T : List Nat) : Nat → Array Bool → Act → World → Prop
  | 0, listed, a, w => Region.ready .any ops listed = [] ∧ Q .normal a w
  | fuel + 1, listed, a, w =>
    (Region.ready .any ops listed = [] → Q .normal a w) ∧
    ∀ i ∈ Region.ready .any ops listed, wpOp P ops Q i (fun a' w' => (clean T (listed.setIfInBounds i true) = true → S w') ∧ wpAnyC P ops Q S T fuel (listed.setIfInBounds i true) a' w') a w
variable {Q' : Exit → Act → World → Prop} {S S' : World → Prop}
theorem wpAny_of_clean : ∀ (fuel : Nat) (listed : Array Bool) (a : Act) (w : World), wpAnyC P ops Q' S T fuel listed a w → wpAny P .any ops Q' fuel listed a w
  | 0, _, _, _, h => h
  | fuel + 1, _, _, _, h => ⟨h.1, fun i hi => wpOp_mono (fun a' w' h' => wpAny_of_clean fuel _ a' w' h'.2) (h.2 i hi)⟩
theorem wpAnyC_of_any : ∀ (fuel : Nat) (listed : Array Bool) (a : Act) (w : World), clean T listed = false → wpAny P .any ops Q' fuel listed a w → wpAnyC P ops Q' S T fuel listed a w
  | 0, _, _, _, _, h => h
  | fuel + 1, listed, _, _, hc, h => ⟨h.1, fun i hi => wpOp_mono (fun a' w' h' =>
      have hc' : clean T (listed.setIfInBounds i true) = false := Bool.eq_false_iff.2 fun h => by rw [clean_of_set h] at hc; cases hc
      ⟨fun h => (by rw [hc'] at h; cases h), wpAnyC_of_any fuel _ a' w' hc' h'⟩) (h.2 i hi)⟩
theorem wpAnyC_mono (hS : ∀ w, S' w → S w) : ∀ (fuel : Nat) (listed : Array Bool) (a : Act) (w : World), wpAnyC P ops Q' S' T fuel listed a w → wpAnyC P ops Q' S T fuel listed a w
  | 0, _, _, _, h => h
  | fuel + 1, _, _, _, h => ⟨h.1, fun i hi => wpOp_mono (fun a' w' h' => ⟨fun hc => hS _ (h'.1 hc), wpAnyC_mono hS fuel _ a' w' h'.2⟩) (h.2 i hi)⟩
theorem latest_spec {i : Nat} (hT : latest ops T i = true) (hun : listed.getD i true = false) (hc : clean T listed = true) {j : Nat} (hj : j ∈ Region.ready .any ops listed) : j ∉ T := by
  intro hjT
  simp only [latest, Bool.and_eq_true, List.all_eq_true] at hT
  obtain ⟨_, oj, hoj, hall⟩ := mem_ready.1 hj
  have h1 := hT.2 j hjT
  rw [hoj] at h1
  simp only [Option.map_some, Option.getD_some, Array.any_eq_true'] at h1
  obtain ⟨e, he, h2⟩ := h1
  simp only [Bool.and_eq_true, Bool.or_eq_true, beq_iff_eq, List.contains_eq_mem, decide_eq_true_eq] at h2
  have h3 := hall e he h2.1
  rcases h2.2 with h4 | h4
  ·rw [h4] at h3
   rcases Nat.lt_or_ge i listed.size with h' | h'
   ·simp [h'] at h3 hun; rw [hun] at h3; cases h3
   simp [Array.getElem?_eq_none h'] at h3
  have h5 := List.all_eq_true.1 hc e.on h4
  simp only [Bool.not_eq_true'] at h5
  rcases Nat.lt_or_ge e.on listed.size with h' | h'
  ·simp [h'] at h3 h5; rw [h5] at h3; cases h3
  simp [Array.getElem?_eq_none h'] at h3
theorem wpAnyC_first {i : Nat} {oi : Oper} {v : Value} (hi : ops[i]? = some oi) (hsel : ∀ (j : Nat) (o : Oper) cs b, ops[j]? = some o → o.op ≠ .select cs b)
    (hQ : ∀ c a w, Q' (.panic c) (a.put oi.dst v) w → Q' (.panic c) a w) {U : List Nat} (hTU : ∀ t ∈ T, t ∈ U) (hT : latest ops U i = true) :
    ∀ (fuel : Nat) (listed : Array Bool) (a : Act) (w : World),
      (∀ j oj, ops[j]? = some oj → j ≠ i → listed.getD j true = false → (∀ e ∈ oj.after, Region.binds .any e = true → e.on ≠ i) → oi.apart ops oj = true) →
      i ∈ Region.ready .any ops listed → YieldsIf P ops S oi v a → S w → clean U listed = true →
      wpAnyC P ops Q' S T fuel (listed.setIfInBounds i true) (a.put oi.dst v) w → wpAnyC P ops Q' S T (fuel + 1) listed a w := by
  have hiU : i ∉ U := by
    simp only [latest, Bool.and_eq_true, Bool.not_eq_true', List.contains_eq_mem, decide_eq_false_iff_not] at hT
    exact hT.1
  have hTc : ∀ {l : Array Bool}, clean U l = true → clean T l = true := fun {l} h => by
    simp only [clean, List.all_eq_true] at *
    exact fun t ht => h t (hTU t ht)
  intro fuel
  induction fuel with
  | zero =>
    intro listed a w _ hr hy hS hc H
    refine ⟨fun h => (by rw [h] at hr; cases hr), fun j hj => ?_⟩
    by_cases hji : j = i
    ·subst hji; exact hy.wpOp hi hS ⟨fun _ => hS, H⟩
    have := ready_mono hj hji
    rw [H.1] at this
    cases this
  | succ fuel ih =>
    intro listed a w hfree hr hy hS hc H
    refine ⟨fun h => (by rw [h] at hr; cases hr), fun j hj => ?_⟩
    by_cases hji : j = i
    ·subst hji; exact hy.wpOp hi hS ⟨fun _ => hS, H⟩
    have h1 := H.2 j (ready_mono hj hji)
    have hjU : j ∉ U := latest_spec hT (mem_ready.1 hr).1 hc hj
    have hcj : clean U (listed.setIfInBounds j true) = true := clean_set hjU hc
    have hcij : clean T ((listed.setIfInBounds i true).setIfInBounds j true) = true := hTc (clean_set hjU (clean_set hiU hc))
    obtain ⟨hjun, oj, hoj, hall⟩ := mem_ready.1 hj
    have hnot : ∀ e ∈ oj.after, Region.binds .any e = true → e.on ≠ i := fun e he hb heq => by
      have h1 := hall e he hb
      have h0 := (mem_ready.1 hr).1
      rw [heq] at h1
      rcases Nat.lt_or_ge i listed.size with h' | h'
      ·simp [h'] at h0 h1; rw [h0] at h1; cases h1
      simp [Array.getElem?_eq_none h'] at h1
    have h2 := wpOp_putIf hoj (hfree j oj hoj hji hjun hnot) (fun cs b => hsel i oi cs b hi) (fun cs b => hsel j oj cs b hoj) hQ hy h1
    have hfree' : ∀ k ok, ops[k]? = some ok → k ≠ i → (listed.setIfInBounds j true).getD k true = false →
        (∀ e ∈ ok.after, Region.binds .any e = true → e.on ≠ i) → oi.apart ops ok = true := fun k ok hk hki hun hno => by
      refine hfree k ok hk hki ?_ hno
      by_cases hjk : j = k
      ·subst hjk; exact hjun
      rw [getD_set_ne true hjk] at hun; exact hun
    refine wpOp_mono (fun a' w' h3 => ⟨fun _ => h3.2.1 hcij, ih (listed.setIfInBounds j true) a' w' hfree' (ready_mono hr (Ne.symm hji)) h3.1 (h3.2.1 hcij) hcj ?_⟩) h2
    rw [Array.setIfInBounds_comm _ _ hji]
    exact h3.2.2
theorem wpAnyC_take {i : Nat} {oi : Oper} {v : Value} {fuel : Nat} {listed : Array Bool} {a : Act} {w : World} (hi : ops[i]? = some oi)
    (hs : Region.noSelect ops = true) (hf : Region.free .any ops listed i = true) (hr : (Region.ready .any ops listed).contains i = true) {U : List Nat} (hTU : T.all (U.contains ·) = true) (hT : latest ops U i = true) (hc : clean U listed = true)
    (hQ : ∀ c a w, Q' (.panic c) (a.put oi.dst v) w → Q' (.panic c) a w) (hy : YieldsIf P ops S oi v a) (hS : S w)
    (h : wpAnyC P ops Q' S T fuel (listed.setIfInBounds i true) (a.put oi.dst v) w) : wpAnyC P ops Q' S T (fuel + 1) listed a w :=
  wpAnyC_first hi (Region.noSelect_spec hs) hQ (fun t ht => by simpa using List.all_eq_true.1 hTU t ht) hT fuel listed a w (Region.free_spec hi hf) (by simpa using hr) hy hS hc h
def WC (P : Program) (c : Cx) (R1 : Nat → Prop) (T : List Nat) (ops : Array Oper) (Q : Exit → Fr → Heap' → Prop) (fuel : Nat) (listed : Array Bool) (fr : Fr) (σ : Heap') : Prop :=
  ∀ ρ w a (S : World → Prop), All c ρ σ w fr a → (∀ w', SameFor c.F R1 ρ w w' → S w') → wpAnyC P ops (lift c Q) S T fuel listed a w
theorem WC.take {i d : Nat} {x : IV} (U : List Nat) (hTU : T.all (U.contains ·) = true) (hT : latest ops U i = true) (hc : clean U listed = true) (hi : ops[i]? = some o) (hs : Region.noSelect ops = true) (hf : Region.free .any ops listed i = true) (hr : (Region.ready .any ops listed).contains i = true) (hQ : ∀ ch fr σ, ¬ Q (.panic ch) fr σ)
    (hg : o.guard = none) (hd : o.dst = some d) (hn : Nat.blt d c.n = true) (hok : OkV P c R1 o fr σ x) (h : WC P c R1 T ops Q fuel (listed.setIfInBounds i true) ((d, x) :: fr) σ) : WC P c R1 T ops Q (fuel + 1) listed fr σ := by
  intro ρ w a S ha hS
  obtain ⟨v, hrun, hv⟩ := hok ρ w a ha
  refine wpAnyC_mono (S' := SameFor c.F R1 ρ w) hS _ _ _ _ <| wpAnyC_take hi hs hf hr hTU hT hc (fun ch a w ⟨_, σ, fr, _, hq⟩ => absurd hq (hQ ch fr σ)) (.inl ⟨by simp [Region.wanted, hg], fun w2 h2 => hrun w2 h2⟩) (.refl _ _ _ _) ?_
  refine h ρ w _ _ ?_ fun w' h' => h'
  have := ha.put (d := o.dst) hv (by rw [hd]; intro t ht; cases ht; simpa using hn)
  rwa [hd] at this ⊢
def WIC (P : Program) (c : Cx) (R1 : Nat → Prop) (T : List Nat) (ops : Array Oper) (Q : Exit → Fr → Heap' → Prop) (fuel : Nat) (listed : Array Bool) (fr : Fr) (σ : Heap') (i : Nat) : Prop :=
  ∀ ρ w a (S : World → Prop), All c ρ σ w fr a → (∀ w', SameFor c.F R1 ρ w w' → S w') → wpOp P ops (lift c Q) i (fun a' w' => (clean T (listed.setIfInBounds i true) = true → S w') ∧ wpAnyC P ops (lift c Q) S T fuel (listed.setIfInBounds i true) a' w') a w
theorem WC.all {rs : List Nat} (hr : Region.ready .any ops listed = rs) (hne : rs ≠ []) (h : ∀ i ∈ rs, WIC P c R1 T ops Q fuel listed fr σ i) : WC P c R1 T ops Q (fuel + 1) listed fr σ :=
  fun ρ w a S ha hS => ⟨fun h0 => absurd (hr ▸ h0) hne, hr ▸ fun i hi => h i hi ρ w a S ha hS⟩
theorem WC.one {i : Nat} (hr : Region.ready .any ops listed = [i]) (h : WIC P c R1 T ops Q fuel listed fr σ i) : WC P c R1 T ops Q (fuel + 1) listed fr σ :=
  WC.all hr (by simp) (by simpa using h)
theorem WIC.op {i : Nat} {x : IV} {σ' : Heap'} {fr' : Fr} (hi : ops[i]? = some o) (hg : o.guard = none) (hfr : fr' = fr.put o.dst x) (hn : ∀ t, o.dst = some t → Nat.blt t c.n = true) (hR : ∀ k, c.R k → R1 k) (hnew : ∀ k, σ k = none → σ' k ≠ none → c.σ k = none)
    (hok : ∀ ρ w, Ok P ⟨c.F, R1, ρ, σ, w, c.n⟩ o fr σ x σ') (h : WC P c R1 T ops Q fuel (listed.setIfInBounds i true) fr' σ') : WIC P c R1 T ops Q fuel listed fr σ i := by
  intro ρ w a S ha hS
  unfold wpOp
  simp only [hi]
  rw [if_pos (by simp [Region.wanted, hg])]
  refine .inl (hok ρ w ρ w a _ _ ⟨ha.rel, ha.fr, .refl _ _ _ _ _, ha.df, ha.sz⟩ fun ρ' w' v ha' hv => ?_)
  have hall : All c ρ' σ' w' fr a := ⟨ha'.rel, ha'.fr, ha.tr.trans ha'.tr hR hnew, ha'.df, ha'.sz⟩
  refine ⟨fun _ => hS w' (SameFor.of ha.rel ha'.tr), h ρ' w' _ S ?_ fun w'' h'' => hS w'' (SameFor.trans ha.rel ha'.tr h'')⟩
  rw [hfr]
  exact hall.put hv fun t ht => by simpa using hn t ht
theorem WIC.last {i : Nat} {R2 : Nat → Prop} {x : IV} {σ' : Heap'} {fr' : Fr} (hT : clean T (listed.setIfInBounds i true) = false) (hi : ops[i]? = some o) (hg : o.guard = none) (hfr : fr' = fr.put o.dst x) (hn : ∀ t, o.dst = some t → Nat.blt t c.n = true) (hR : ∀ k, c.R k → R2 k) (hnew : ∀ k, σ k = none → σ' k ≠ none → c.σ k = none)
    (hok : ∀ ρ w, Ok P ⟨c.F, R2, ρ, σ, w, c.n⟩ o fr σ x σ') (h : WA P c R2 ops Q fuel (listed.setIfInBounds i true) fr' σ') : WIC P c R1 T ops Q fuel listed fr σ i := by
  intro ρ w a S ha hS
  unfold wpOp
  simp only [hi]
  rw [if_pos (by simp [Region.wanted, hg])]
  refine .inl (hok ρ w ρ w a _ _ ⟨ha.rel, ha.fr, .refl _ _ _ _ _, ha.df, ha.sz⟩ fun ρ' w' v ha' hv => ?_)
  have hall : All c ρ' σ' w' fr a := ⟨ha'.rel, ha'.fr, ha.tr.trans ha'.tr hR hnew, ha'.df, ha'.sz⟩
  refine ⟨fun h => (by rw [hT] at h; cases h), wpAnyC_of_any fuel _ _ _ hT (wpAny_of_held _ _ _ _ (h ρ' w' _ (SameFor c.F R2 ρ' w') ?_ fun w'' h'' => h''))⟩
  rw [hfr]
  exact hall.put hv fun t ht => by simpa using hn t ht
theorem Tr.drawnC {id : Nat} (hm : P.follows .mixedOrders = true) (R1 : Nat → Prop) (T : List Nat) (h : WC P c R1 T ops Q ops.size (Array.replicate ops.size false) fr σ) : Tr P c (.region id ops true) fr σ Q :=
  fun ρ w a ha => wp_region_any hm (wpAny_of_clean _ _ _ _ (h ρ _ a (SameFor c.F R1 ρ { w with drawn := w.drawn + 1 }) ha.drew fun _ h => h))
end
end Go.Proofs.YtiflpehjefhnmaaGreat
