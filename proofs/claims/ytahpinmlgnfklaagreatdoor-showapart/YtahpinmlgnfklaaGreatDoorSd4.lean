/- PART 4 of 6 of a proof: see the last part. -/
import Derived.Test.YtahpinmlgnfklaaGreatDoorSd3
set_option maxRecDepth 8000
set_option maxHeartbeats 2000000
set_option linter.unusedSimpArgs false
set_option linter.unusedVariables false
set_option linter.unusedSectionVars false
namespace Go.Proofs.YtahpinmlgnfklaaGreatDoor
open Go
section
open Go Go.Shelf Go.RowKit
set_option maxRecDepth 100000
set_option maxHeartbeats 2000000
set_option linter.unusedVariables false
theorem calls_StringG {P : Program} {ρ : Ren} (L : Lays.n169 P ρ) (X : Builder.Extra P ρ) (b g cap : Nat) (cur : Array Value) (l : List UInt8) (w : World) (c0 : w.cell? ⟨b, 1, none⟩ = some (.slice (some ⟨g, 0, none⟩) l.length cap))
    (hg : w.heap[g]? = some (.cells cur (ρ.t 5) (0, 0))) (h0 : l ≠ []) (hc : l.length ≤ cap) (hm : cap ≤ maxLen) (hs : cur.size = cap) (htake : cur.toList.take l.length = Lib.byteCells l) :
    Calls P (ρ.f 169) #[.pointer (some ⟨b, 0, none⟩)] w fun e w' => e = .returned (.string ⟨l.toArray⟩) ∧ w' = w.drew.freeze ⟨g, 0, none⟩ l.length := by
  have hl0 : l.length ≠ 0 := by simpa using h0
  have c1 : w.drew.cell? ⟨b, 1, none⟩ = some (.slice (some ⟨g, 0, none⟩) l.length cap) := c0
  have hg' : w.drew.heap[g]? = some (.cells cur (ρ.t 5) (0, 0)) := hg
  have hSD : (Builtin.unsafeSliceData_ #[ρ.t 37] (ρ.t 127) #[.slice (some ⟨g, 0, none⟩) l.length cap]).run P w.drew = .ok (.pointer (some ⟨g, 0, none⟩)) w.drew :=
    Lib.run_unsafeSliceData_row _ _ _ _ _ _ (by omega)
  have hUS : (Builtin.unsafeString_ #[ρ.t 127, ρ.t 3] (ρ.t 9) #[.pointer (some ⟨g, 0, none⟩), .int .i64 l.length]).run P w.drew = .ok (.string ⟨l.toArray⟩) (w.drew.freeze ⟨g, 0, none⟩ l.length) := by
    refine Lib.run_unsafeString_row w.drew (ρ.t 127) (ρ.t 3) (ρ.t 9) (ρ.t 5) L.t127 X.cellsByte g cur.size (by simp [World.shape?, hg']) l h0 (by omega) (by unfold maxLen at hm; omega) ?_
    intro j x hx
    have h1 : (Lib.byteCells l)[j]? = some (.int .u8 x.toNat) := by simp [Lib.byteCells, hx]
    rw [← htake, List.getElem?_take] at h1
    split at h1
    ·rw [Addr.add_mid, Nat.zero_add, cell_at hg', ← Array.getElem?_toList]; exact h1
    cases h1
  have mixed := L.mixed
  have t72 := L.t72; have a72 := L.a72; have z72 := L.z72; have v72 := L.v72; have u72 := run_underlying L.t72
  have t70 := L.t70; have a70 := L.a70; have z70 := L.z70; have v70 := L.v70; have u70 := run_underlying L.t70
  have t37 := L.t37; have a37 := L.a37; have z37 := L.z37; have v37 := L.v37; have u37 := run_underlying L.t37
  have t127 := L.t127; have a127 := L.a127; have z127 := L.z127; have v127 := L.v127; have u127 := run_underlying L.t127
  have t3 := L.t3; have a3 := L.a3; have z3 := L.z3; have v3 := L.v3; have u3 := run_underlying L.t3
  have t9 := L.t9; have a9 := L.a9; have z9 := L.z9; have v9 := L.v9; have u9 := run_underlying L.t9
  have t5 := X.t5; have a5 := X.a5; have z5 := X.z5; have v5 := X.v5; have u5 := run_underlying X.t5
  go_enter L.f169, Body.n169_ntmps ρ
  go_wp2
  go_region_o
  all_goals (go_wp2; go_ret; exact ⟨rfl, rfl⟩)
theorem All.spent {c : Cx} {ρ : Loc} {hp : Hp} {w w' : World} {fr : Fr} {a : Act} {k b cc : Nat} (h : All c ρ (look hp) w fr a) (hk : ρ k = some (b, cc)) (hR : ¬ c.R k)
    (hos : w'.os = w.os) (ht : w'.tape = w.tape) (hout : w'.output = w.output) (hsz : w'.heap.size = w.heap.size) (hblk : ∀ j, j ≠ b → w'.heap[j]? = w.heap[j]?) : All c (locUpd ρ k none) (look ((k, none) :: hp)) w' fr a := by
  have hlk : ∀ j, j ≠ k → look ((k, none) :: hp) j = look hp j := fun j hj => look_ne (Ne.symm hj)
  have hlk' : look ((k, none) :: hp) k = none := look_hd
  have hρ : ∀ j, j ≠ k → locUpd ρ k none j = ρ j := fun j hj => locUpd_ne (Ne.symm hj)
  have hne : ∀ j x, look ((k, none) :: hp) j = some x → j ≠ k := fun j x hj e => by subst e; rw [hlk'] at hj; cases hj
  have t : Trans c.F (· ≠ k) ρ (look hp) w (locUpd ρ k none) (look ((k, none) :: hp)) w' := by
    refine ⟨hos, ht, hout, by omega, fun j hj hall => hblk j fun e => hall k cc (e ▸ hk) rfl, ?_, fun j _ _ _ h1 => hρ j (hne _ _ h1), fun j _ _ _ h1 => hρ j (hne _ _ h1), fun j _ _ _ _ _ h1 _ => hρ j (hne _ _ h1), ?_, ?_, ?_, ?_⟩
    ·intro j b c' hj hb
     by_cases e : j = k
     ·subst e; rw [locUpd_same] at hj; cases hj
     rwa [hρ j e] at hj
    ·intro j s s' els els' h1 h2
     rw [hlk j (hne _ _ h2), h1] at h2
     cases h2; exact Nat.le_refl _
    all_goals intro j
    ·intro cs h2
     rw [hlk j (hne _ _ h2)] at h2; exact .inr ⟨_, h2⟩
    ·intro cs h2
     rw [hlk j (hne _ _ h2)] at h2; exact .inr ⟨_, h2⟩
    intro s cs h2
    rw [hlk j (hne _ _ h2)] at h2; exact .inr ⟨_, h2⟩
  have hnone : ∀ j, ¬ (look hp j = none ∧ look ((k, none) :: hp) j ≠ none) := fun j hj => by
    by_cases e : j = k
    ·subst e; exact hj.2 hlk'
    rw [hlk j e] at hj; exact hj.2 hj.1
  have hnn : ∀ x, ¬ Names (fun j => look hp j = none ∧ look ((k, none) :: hp) j ≠ none) x := fun x hx => by
    obtain ⟨j, hj⟩ := hx.some
    exact hnone j hj
  refine h.step t (fun j hj e => hR (e ▸ hj)) ⟨?_, ?_, fun b hb => by rw [hsz]; exact h.rel.old b hb, fun j b' c' hj => ?_, fun j o1 h1 h2 => ?_⟩ (fun j h1 h2 => absurd ⟨h1, h2⟩ (hnone j)) fun _ x _ => hnn x
  ·intro j j' b c1 c2 h1 h2
   by_cases e : j = k
   ·subst e; rw [locUpd_same] at h1; cases h1
   by_cases e' : j' = k
   ·subst e'; rw [locUpd_same] at h2; cases h2
   rw [hρ j e] at h1; rw [hρ j' e'] at h2
   exact h.rel.inj _ _ _ _ _ h1 h2
  ·intro j b c1 h1 hF
   by_cases e : j = k
   ·subst e; rw [locUpd_same] at h1; cases h1
   rw [hρ j e] at h1; exact h.rel.apart _ _ _ h1 hF
  ·by_cases e : j = k
   ·subst e; rw [locUpd_same] at hj; cases hj
   rw [hρ j e] at hj
   obtain ⟨o1, h1, h2⟩ := h.rel.obj j b' c' hj
   refine ⟨o1, (hlk j e).trans h1, h2.keep t (hblk b' fun e' => e ?_) fun x _ => hnn x⟩
   subst e'
   exact h.rel.inj _ _ _ _ _ hj hk
  have e := hne _ _ h1
  rw [hlk j e] at h1; rw [hρ j e] at h2; exact h.rel.real j o1 h1 h2
theorem freeze_other (w : World) (a : Addr) (n j : Nat) (h : j ≠ a.block) : (w.freeze a n).heap[j]? = w.heap[j]? := by
  unfold World.freeze
  split
  ·rfl
  rw [Array.getElem?_modify, if_neg (Ne.symm h)]
theorem freeze_size (w : World) (a : Addr) (n : Nat) : (w.freeze a n).heap.size = w.heap.size := by
  unfold World.freeze
  split
  ·rfl
  simp
theorem freeze_rest (w : World) (a : Addr) (n : Nat) : (w.freeze a n).os = w.os ∧ (w.freeze a n).tape = w.tape ∧ (w.freeze a n).output = w.output := by
  unfold World.freeze
  split <;> exact ⟨rfl, rfl, rfl⟩
theorem enters_String : enters Tryz.prog 19 := ⟨_, Tryz.func19, by kernel_rfl, by kernel_rfl⟩
theorem ok_String {c : Cx} {o : Oper} {fr : Fr} {hp : Hp} {x : Operand} {n : Nat} {s : ByteArray} {tys : Array TypeId} (ho : o.op = .call { callee := .value (.func 19), args := #[x], argTypes := tys }) (hx : fr.ev x = some (.ptr 1001 0))
    (h1 : look hp 1001 = some (.box [bPt, .sl 1002 n])) (h2 : look hp 1002 = some (.row bRt (tEls s))) (hn : (tEls s).length = n) (h0 : s.size ≠ 0) (hR : ¬ c.R 1002) : Ok Tryz.prog c o fr (look hp) (.pv (.val (.string s))) (look ((1002, none) :: hp)) := by
  intro ρ w a K Q h hK
  obtain ⟨fn, hfn, hname, hbody⟩ := enters_String
  have hx2 := h.ev hx
  generalize hv : a.eval x = v at hx2
  cases hx2 with
  | ptr _ _ _ hb =>
    obtain ⟨b, cb, hρ, rfl⟩ := hb _ h1
    obtain ⟨o1, g1, g2⟩ := h.rel.obj _ _ _ hρ
    rw [h1] at g1
    cases g1
    cases g2 with
    | box _ T arr u hh hl hv2 hr ht =>
      have a1 := hv2 1 _ rfl
      have r1 := hr 1 _ rfl
      generalize u 1 = u1 at a1 r1
      cases r1 with
      | sl _ _ _ hs =>
        rcases (hs _ _ h2).2 hn with ⟨g, cap, hρ2, rfl⟩ | ⟨_, hz, _⟩
        ·obtain ⟨o2, g3, g4⟩ := h.rel.obj _ _ _ hρ2
         rw [h2] at g3
         cases g3
         cases g4 with
         | row _ _ cur u2 hg hsz hlc hm hw hcv hrv =>
           have hlen : s.data.toList.length = n := by rw [← hn, tEls, List.length_map]
           have hl' : s.data.toList.length = s.size := by simp
           have hrun : (execOp a.eval o).run Tryz.prog w = .ok (.enter 19 #[.pointer (some ⟨b, 0, none⟩)]) w := by
             have hcall : (callFunc 19 #[.pointer (some ⟨b, 0, none⟩)]).run Tryz.prog w = .ok (.enter 19 #[.pointer (some ⟨b, 0, none⟩)]) w := by
               unfold callFunc
               simp only [Sem.run_bind]
               show (Result.andThen (.ok Tryz.prog w) _) = _
               simp only [Result.andThen_ok, hfn, hname, hbody]
               rfl
             have e0 : a.eval (.func 19) = .func (.func 19) #[] #[] := rfl
             simp only [execOp, ho, resolve, e0, Deferred.ofValue, Sem.run_bind, Sem.run_pure, Result.andThen_ok, invoke]
             rw [← hcall]
             congr 2
             apply Array.ext'
             simp [hv]
           unfold Oper.wp
           rw [hrun, Oper.upon_enter]
           have key := calls_StringG (P := Tryz.prog) (ρ := laysJoin_ren) { laysJoin with } laysJoin_extra b g cap cur s.data.toList w (by rw [Lib.cell_of_heap hh, a1, hlen]) hg (fun e => h0 (by rw [← hl', e]; rfl)) (by rw [hlen, ← hn]; exact hlc) hm (by have h3 := hsz; rw [show bRt.n = 1 from rfl, Nat.mul_one] at h3; exact h3) (by
             apply List.ext_getElem?
             intro i
             rw [List.getElem?_take]
             by_cases hi : i < s.data.toList.length
             · rw [if_pos hi]
               have e1 : s.data.toList[i]? = some s.data.toList[i] := List.getElem?_eq_getElem hi
               have e2 : (tEls s)[i]? = some (eB s.data.toList[i]) := by rw [tEls, List.getElem?_map, e1]; rfl
               have e3 := hcv i _ e2 0 _ rfl
               have e4 := hrv i _ e2 0 _ rfl
               generalize u2 i 0 = q at e3 e4
               cases e4
               have e5 : i * 1 + 0 = i := by omega
               rw [show bRt.n = 1 from rfl, e5] at e3
               rw [Array.getElem?_toList, e3, Lib.byteCells, List.getElem?_map, e1]
               rfl
             · rw [if_neg hi, List.getElem?_eq_none]
               rw [Lib.byteCells_length]; omega)
           refine key.mono ?_
           rintro e w' ⟨rfl, rfl⟩
           obtain ⟨f1, f2, f3⟩ := freeze_rest w.drew ⟨g, 0, none⟩ s.data.toList.length
           have h9 := All.spent (w' := w.drew.freeze ⟨g, 0, none⟩ s.data.toList.length) h hρ2 hR f1 f2 f3 (freeze_size w.drew _ _) fun j hj => freeze_other w.drew _ _ j hj
           exact hK _ _ _ h9 (mkVal _)
        exact absurd (hn.trans hz) (by rw [tEls_len]; exact h0)
end
set_option maxRecDepth 20000
theorem tJoin_snoc (sep x : ByteArray) : ∀ xs : List ByteArray, tJoin (xs ++ [x]) sep = if xs = [] then x else tJoin xs sep ++ sep ++ x
  | [] => by
    show tJoin [x] sep = _
    rw [if_pos rfl]
    unfold tJoin
    simp only [List.map_cons, List.map_nil, Lib.join_one]
  | y :: r => by
    rw [if_neg (by simp)]
    unfold tJoin
    apply ByteArray.ext
    simp only [List.cons_append, List.map_cons, List.map_append, List.map_nil, Lib.join_cons, Lib.joinTail, List.flatten_append, List.flatten_cons, List.flatten_nil, List.append_nil]
    simp
theorem tVals_le {l : List Int} (hl : ∀ v ∈ l, N64 v) : (tVals l).size ≤ l.length * 24 := by
  have h := join_le [44, 32] 22 ((l.map tVal).map (·.data.toList)) fun x hx => by
    simp only [List.map_map, List.mem_map] at hx
    obtain ⟨v, hv, rfl⟩ := hx
    exact tVal_le (hl v hv)
  have e : (tVals l).size = (Lib.join ((l.map tVal).map (·.data.toList)) [44, 32]).length := rfl
  rw [e]
  simpa using h
def tBehind (w : ByteArray) (l : List Int) : ByteArray := if l = [] then w else w ++ ⟨#[32]⟩ ++ tVals l
set_option maxRecDepth 20000
set_option maxHeartbeats 2000000
abbrev ndv (x : Nd) : PV := .agg [vInt x.kind, vInt x.op, vInt x.n, vStr x.name, ints x.args, ints x.outs, ints x.params, kids x.kids]
theorem sc_r8Ender (x : Nd) : SC Tryz.prog 103 [.pv (ndv x)] [] (fun _ => False) (iBool (r8Ender x.kind)) [] := by
  refine SC.anyR (SC.vc tb {} [] Tryz.func103 rfl rfl ?_)
  refine bcase (fun h => ⟨sE ?_, trivial⟩) fun h => ⟨sE ?_, trivial⟩
  · unfold r8Ender
    rw [show decide (x.kind ≥ 12) = true from h]; rfl
  · unfold r8Ender
    rw [show decide (x.kind ≥ 12) = false from h]; rfl
theorem sc_r8last (l : List Nd) : SC Tryz.prog 101 [.pv (nodes l)] [] (fun _ => False) (iInt (r8last l)) [] := by
  refine SC.anyR (SC.vc tb { gh := [(0, [.len 0])] } [] Tryz.func101 rfl rfl ?_)
  intro hl
  simp only [List.length_map] at hl
  refine bcase (fun h => ?_) fun h => ?_
  · have e : l = [] := by
      cases l with
      | nil => rfl
      | cons a b => simp at h; omega
    subst e
    exact ⟨sE rfl, trivial⟩
  · have hne : l ≠ [] := fun e => by subst e; exact absurd h (by decide)
    have hpos : 0 < l.length := List.length_pos_iff.2 hne
    obtain ⟨x, hx⟩ : ∃ x, l[((l.length : Int) - 1).toNat]? = some x := ⟨_, List.getElem?_eq_getElem (by omega)⟩
    have hT : r8last l = if r8Ender x.kind then x.kind else 0 := by
      unfold r8last
      rw [List.getLast?_eq_getElem?, show l.length - 1 = ((l.length : Int) - 1).toNat by omega, hx]
    have ll : (l.map Nd.enc).length = l.length := List.length_map _
    have hi : (l.map Nd.enc)[(((l.map Nd.enc).length : Int) - 1).toNat]? = some [vInt x.kind, vInt x.op, vInt x.n, vStr x.name, ints x.args, ints x.outs, ints x.params, kids x.kids] := by
      rw [ll]; exact nodes_get hx
    have hE := sc_r8Ender x
    rw [hT]
    generalize r8Ender x.kind = b at hE ⊢
    cases b with
    | true => exact ⟨i64_sub rfl (by rw [ll]; omega), hi, by rw [ll]; omega, [], hE, sR, trivial, rfl, i64_sub rfl (by rw [ll]; omega), hi, by rw [ll]; omega, sI, trivial⟩
    | false => exact ⟨i64_sub rfl (by rw [ll]; omega), hi, by rw [ll]; omega, [], hE, sR, trivial, rfl, sI, trivial⟩
theorem sc_r8Leaves (l : List Nd) : SC Tryz.prog 102 [.pv (nodes l)] [] (fun _ => False) (iBool (r8Leaves l)) [] := by
  suffices H : ∀ N (l : List Nd), SizeOf.sizeOf l < N → SC Tryz.prog 102 [.pv (nodes l)] [] (fun _ => False) (iBool (r8Leaves l)) [] from H _ l (Nat.lt_succ_self _)
  intro N
  induction N with
  | zero => intro l hN; exact absurd hN (Nat.not_lt_zero _)
  | succ N ih =>
    intro l hN
    refine SC.anyR (SC.vc tb { gh := [(0, [.len 0]), (9, [.len 22])] } [] Tryz.func102 rfl rfl ?_)
    intro hl
    simp only [List.length_map] at hl
    refine ⟨Nat, fun k => [(3, iInt k)], fun _ => [], fun k => l.length - k, fun k => k ≤ l.length ∧ r8Leaves l = r8Leaves (l.drop k), [], 0, ⟨Nat.zero_le _, rfl⟩, ⟨rfl, trivial⟩, trivial, ?_⟩
    rintro k ⟨hk, hI⟩
    refine bcase (fun hc => ?_) fun hc => ?_
    · have hlt : k < l.length := by simpa using hc
      obtain ⟨x, hx, hm, hd, _⟩ := at_lt hlt
      rw [hd, show r8Leaves (x :: l.drop (k + 1)) = (r8LeavesN x || r8Leaves (l.drop (k + 1))) from rfl, r8LeavesN_eq] at hI
      refine ⟨nodes_get hx, rfl, bcase (fun h => ⟨sE (by rw [hI, show (x.kind == 14) = true from h]; rfl), trivial⟩) fun h => ?_⟩
      rw [show (x.kind == 14) = false from h, Bool.false_or] at hI
      refine ⟨Nat, fun i => [(4, iInt i), (3, iInt k)], fun _ => [], fun i => x.kids.length - i, fun i => i ≤ x.kids.length ∧ r8Leaves l = ((x.kind == 10 && r8LeavesK (x.kids.drop i)) || r8Leaves (l.drop (k + 1))), [], 0, ⟨Nat.zero_le _, hI⟩, ⟨rfl, rfl, trivial⟩, trivial, ?_⟩
      rintro i ⟨hi, hJ⟩
      refine ⟨nodes_get hx, rfl, bcase (fun h2 => ?_) fun h2 => ?_⟩
      · have hlt2 : i < x.kids.length := by simpa using h2
        obtain ⟨q, hq, hm2, hd2, _⟩ := at_lt hlt2
        have hdec : SizeOf.sizeOf q < N := Nat.lt_of_lt_of_le (kid_lt (List.mem_of_getElem? hx) rfl (List.mem_of_getElem? hq)) (Nat.le_of_lt_succ hN)
        refine ⟨nodes_get hx, rfl, bcase (fun h3 => ?_) fun h3 => ?_⟩
        · intro hl2
          simp only [List.length_map] at hl2
          rw [show (x.kind == 10) = true from h3, Bool.true_and, hd2, show r8LeavesK (q :: x.kids.drop (i + 1)) = (r8Leaves q || r8LeavesK (x.kids.drop (i + 1))) from rfl] at hJ
          have hL := ih q hdec
          generalize r8Leaves q = b at hL hJ
          refine ⟨nodes_get hx, rfl, map_get (f := eKid) hq, rfl, [], hL, sR, trivial, rfl, ?_⟩
          cases b with
          | true => exact ⟨sE (by rw [hJ]; rfl), trivial⟩
          | false => exact ⟨i64_add rfl (by omega), i + 1, step_lt hlt2, ⟨hlt2, by rw [hJ, show (x.kind == 10) = true from h3]; rfl⟩, ⟨rfl, rfl, trivial⟩, trivial, rfl, rfl, rfl, rfl⟩
        · rw [show (x.kind == 10) = false from h3, Bool.false_and, Bool.false_or] at hJ
          exact ⟨i64_add rfl (by omega), k + 1, step_lt hlt, ⟨hlt, hJ⟩, ⟨rfl, trivial⟩, trivial, rfl, rfl, rfl, rfl⟩
      · rw [List.drop_eq_nil_of_le (by simpa using h2), show r8LeavesK [] = false from rfl, Bool.and_false, Bool.false_or] at hJ
        exact ⟨i64_add rfl (by omega), k + 1, step_lt hlt, ⟨hlt, hJ⟩, ⟨rfl, trivial⟩, trivial, rfl, rfl, rfl, rfl⟩
    · rw [List.drop_eq_nil_of_le (by simpa using hc)] at hI
      exact ⟨sE (by rw [hI]; rfl), trivial⟩
set_option maxRecDepth 20000
theorem wSign_le (op : Int) : (wSign op).size ≤ 3 := by
  unfold wSign
  split
  · decide
  · rename_i h
    simp only [Bool.or_eq_true, decide_eq_true_eq, not_or] at h
    rcases below29 (op := op) (by omega) (by omega) with rfl | rfl | rfl | rfl | rfl | rfl | rfl | rfl | rfl | rfl | rfl | rfl | rfl | rfl | rfl | rfl | rfl | rfl | rfl | rfl | rfl | rfl | rfl | rfl | rfl | rfl | rfl | rfl | rfl <;> decide
def tSp : ByteArray := ⟨#[32]⟩
def tRight (x : Nd) : ByteArray :=
  if x.kind = 1 then tNum x.n else if x.kind = 2 then tBool (x.n == 1)
  else if x.kind = 3 then wSign x.op ++ tSp ++ tVal (x.args.getD 0 0)
  else if x.kind = 4 then tVal (x.args.getD 0 0) ++ tSp ++ wSign x.op ++ tSp ++ tVal (x.args.getD 1 0)
  else if x.kind = 5 then x.name ++ ⟨#[91]⟩ ++ tVal (x.args.getD 0 0) ++ ⟨#[93]⟩
  else if x.kind = 7 then x.name ++ ⟨#[40]⟩ ++ tVals x.args ++ ⟨#[41]⟩
  else ⟨#[114, 101, 97, 100]⟩
structure NdOk (x : Nd) : Prop where
  n : N64 x.n
  a : ∀ v ∈ x.args, N64 v
  l : x.args.length ≤ 1073741824
  nm : x.name.size ≤ 1073741824
  k3 : x.kind = 3 → ∃ a, x.args = [a]
  k4 : x.kind = 4 → ∃ a b, x.args = [a, b]
  k5 : x.kind = 5 → ∃ a, x.args = [a]
  op : x.kind = 3 ∨ x.kind = 4 → 1 ≤ x.op ∧ x.op ≤ 28
set_option maxRecDepth 20000
def tEq : ByteArray := ⟨#[32, 61, 32]⟩
def tCm : ByteArray := ⟨#[44]⟩
def tPair (p v : Int) : ByteArray := tSp ++ tVal p ++ tEq ++ tVal v
def tPairL (a b : List Int) : List ByteArray := List.zipWith tPair a b
def tPairs (a b : List Int) : ByteArray := tJoin (tPairL a b) tCm
theorem tPair_le {p v : Int} (hp : N64 p) (hv : N64 v) : (tPair p v).size ≤ 48 := by
  unfold tPair
  rw [size_app, size_app, size_app]
  have h1 := tVal_le hp
  have h2 := tVal_le hv
  show 1 + _ + 3 + _ ≤ _
  omega
theorem tJoin_le {xs : List ByteArray} {m : Nat} (h : ∀ x ∈ xs, x.size ≤ m) (sep : ByteArray) : (tJoin xs sep).size ≤ xs.length * (m + sep.size) := by
  have h2 := join_le sep.data.toList m (xs.map (·.data.toList)) fun x hx => by
    obtain ⟨y, hy, rfl⟩ := List.mem_map.1 hx
    exact h y hy
  have e : (tJoin xs sep).size = (Lib.join (xs.map (·.data.toList)) sep.data.toList).length := rfl
  rw [e]
  have e2 : sep.data.toList.length = sep.size := rfl
  rw [e2] at h2
  simpa using h2
theorem app_assoc (a b c : ByteArray) : a ++ b ++ c = a ++ (b ++ c) := by
  apply ByteArray.ext
  simp [Array.append_assoc]
def tNl : ByteArray := ⟨#[10]⟩
def tTab : ByteArray := ⟨#[9]⟩
def tEnd : ByteArray := ⟨#[101, 110, 100]⟩
mutual
def tNd (tabs : ByteArray) : Nd → ByteArray
  | .mk kind op n name args outs params ks =>
    if kind = 6 then name ++ ⟨#[91]⟩ ++ tVal (args.getD 0 0) ++ ⟨#[93, 32, 61, 32]⟩ ++ tVal (args.getD 1 0)
    else if kind = 9 then ⟨#[112, 114, 105, 110, 116, 32]⟩ ++ tVal (args.getD 0 0)
    else if kind = 15 then ⟨#[114, 101, 116, 117, 114, 110, 32]⟩ ++ tVal (args.getD 0 0)
    else if kind = 12 then tBehind ⟨#[121, 105, 101, 108, 100]⟩ args
    else if kind = 13 then tBehind ⟨#[110, 101, 120, 116]⟩ args
    else if kind = 14 then tBehind ⟨#[108, 101, 97, 118, 101]⟩ args
    else if kind = 10 then ⟨#[105, 102, 32]⟩ ++ tVal (args.getD 0 0) ++ tNl ++ (tKs (tabs ++ tTab) ks).getD 0 ⟨#[]⟩ ++ tabs ++ ⟨#[101, 108, 115, 101, 10]⟩ ++ (tKs (tabs ++ tTab) ks).getD 1 ⟨#[]⟩ ++ tabs ++ tBehind tEnd outs
    else if kind = 11 then ⟨#[108, 111, 111, 112]⟩ ++ tPairs params args ++ tNl ++ (tKs (tabs ++ tTab) ks).getD 0 ⟨#[]⟩ ++ tabs ++ tBehind tEnd outs
    else tVal (outs.getD 0 0) ++ tEq ++ tRight (.mk kind op n name args outs params ks)
def tLs (tabs : ByteArray) : List Nd → ByteArray
  | [] => ⟨#[]⟩
  | x :: r => tabs ++ tNd tabs x ++ tNl ++ tLs tabs r
def tKs (tabs : ByteArray) : List (List Nd) → List ByteArray
  | [] => []
  | l :: r => tLs tabs l :: tKs tabs r
end
theorem tLs_app (tabs : ByteArray) : ∀ a b : List Nd, tLs tabs (a ++ b) = tLs tabs a ++ tLs tabs b
  | [], b => by
    simp only [List.nil_append, tLs]
    first
    | done
    | (apply ByteArray.ext; simp)
  | x :: r, b => by simp only [List.cons_append, tLs, tLs_app tabs r b, app_assoc]
theorem tLs_snoc (tabs : ByteArray) (l : List Nd) (x : Nd) : tLs tabs (l ++ [x]) = tLs tabs l ++ tabs ++ tNd tabs x ++ tNl := by
  rw [tLs_app]
  have e : tLs tabs [x] = tabs ++ tNd tabs x ++ tNl := by
    simp only [tLs]
    apply ByteArray.ext
    simp
  rw [e]
  simp only [app_assoc]
theorem tPairs_le {a b : List Int} (ha : ∀ v ∈ a, N64 v) (hb : ∀ v ∈ b, N64 v) : (tPairs a b).size ≤ a.length * 49 := by
  have hall : ∀ w ∈ tPairL a b, w.size ≤ 48 := fun w hw => by
    unfold tPairL at hw
    obtain ⟨i, hi⟩ := List.mem_iff_getElem?.1 hw
    rw [List.getElem?_zipWith] at hi
    cases h1 : a[i]? with
    | none => rw [h1] at hi; cases h2 : b[i]? <;> rw [h2] at hi <;> cases hi
    | some p =>
      cases h2 : b[i]? with
      | none => rw [h1, h2] at hi; cases hi
      | some q =>
        rw [h1, h2] at hi
        cases hi
        exact tPair_le (ha p (List.mem_of_getElem? h1)) (hb q (List.mem_of_getElem? h2))
  have h := tJoin_le hall tCm
  have hc : tCm.size = 1 := rfl
  rw [hc] at h
  have hl : (tPairL a b).length ≤ a.length := by simp [tPairL]; omega
  unfold tPairs
  omega
theorem tBehind_le {w : ByteArray} {l : List Int} (h : ∀ v ∈ l, N64 v) : (tBehind w l).size ≤ w.size + 1 + l.length * 24 := by
  unfold tBehind
  have h1 := tVals_le h
  split
  · omega
  · rw [size_app, size_app]
    show w.size + 1 + _ ≤ _
    omega
theorem getD_64 {l : List Int} (h : ∀ v ∈ l, N64 v) (i : Nat) : N64 (l.getD i 0) := by
  rw [List.getD_eq_getElem?_getD]
  cases hi : l[i]? with
  | none => exact ⟨by decide, by decide⟩
  | some v => exact h v (List.mem_of_getElem? hi)
theorem tRight_le {x : Nd} (hn : N64 x.n) (ha : ∀ v ∈ x.args, N64 v) : (tRight x).size ≤ x.name.size + 24 * x.args.length + 100 := by
  have h0 := tVal_le (getD_64 ha 0)
  have h1 := tVal_le (getD_64 ha 1)
  have h2 := tVals_le ha
  have h3 := tNum_le hn
  have h4 := wSign_le x.op
  have hb : ∀ b, (tBool b).size ≤ 5 := fun b => by cases b <;> decide
  have h5 := hb (x.n == 1)
  have hs : tSp.size = 1 := rfl
  unfold tRight
  split
  · omega
  split
  · omega
  split
  · rw [size_app, size_app]; omega
  split
  · rw [size_app, size_app, size_app, size_app]; omega
  split
  · rw [size_app, size_app, size_app]; show _ + 1 + _ + 1 ≤ _; omega
  split
  · rw [size_app, size_app, size_app]; show _ + 1 + _ + 1 ≤ _; omega
  · show 4 ≤ _; omega
mutual
def ok64N : Nat → Nd → Prop
  | d, .mk _ _ n _ args outs params ks => 1 ≤ d ∧ N64 n ∧ (∀ v ∈ args, N64 v) ∧ (∀ v ∈ outs, N64 v) ∧ (∀ v ∈ params, N64 v) ∧ ok64K (d - 1) ks
def ok64L : Nat → List Nd → Prop
  | _, [] => True
  | d, x :: r => ok64N d x ∧ ok64L d r
def ok64K : Nat → List (List Nd) → Prop
  | _, [] => True
  | d, l :: r => ok64L d l ∧ ok64K d r
end
theorem tKs_getD (tabs : ByteArray) (ks : List (List Nd)) : ((tKs tabs ks).getD 0 ⟨#[]⟩).size + ((tKs tabs ks).getD 1 ⟨#[]⟩).size ≤ ((tKs tabs ks).map (·.size)).sum := by
  match ks with
  | [] => simp [tKs]; rfl
  | [a] => simp [tKs]; exact Nat.le_refl _
  | a :: b :: r => simp [tKs]
theorem tKs_getD0 (tabs : ByteArray) (ks : List (List Nd)) : ((tKs tabs ks).getD 0 ⟨#[]⟩).size ≤ ((tKs tabs ks).map (·.size)).sum := by
  have := tKs_getD tabs ks
  omega
mutual
theorem tNd_le (tabs : ByteArray) (d : Nat) : ∀ x : Nd, ok64N d x → tabs.size + d ≤ 256 → (tNd tabs x).size + tabs.size + 1 ≤ (1 + wtN x) * 1024
  | .mk kind op n name args outs params ks, h, ht => by
    simp only [ok64N] at h
    obtain ⟨hd, hn, ha, ho, hp, hk⟩ := h
    simp only [wtN]
    have htt : (tabs ++ tTab).size = tabs.size + 1 := by rw [size_app]; rfl
    have hK := tKs_le (tabs ++ tTab) (d - 1) ks hk (by rw [htt]; omega)
    have hK2 := tKs_getD (tabs ++ tTab) ks
    have v0 := tVal_le (getD_64 ha 0)
    have v1 := tVal_le (getD_64 ha 1)
    have o0 := tVal_le (getD_64 ho 0)
    have bb := fun w : ByteArray => tBehind_le (w := w) ha
    have be := tBehind_le (w := tEnd) ho
    have pp := tPairs_le hp ha
    have rr := tRight_le (x := .mk kind op n name args outs params ks) hn ha
    simp only [Nd.name, Nd.args] at rr
    have e1 : tNl.size = 1 := rfl
    have e2 : tEnd.size = 3 := rfl
    have e3 : tEq.size = 3 := rfl
    unfold tNd
    split
    · simp only [size_app]; show _ + 1 + _ + 4 + _ + _ + 1 ≤ _; omega
    split
    · simp only [size_app]; show 6 + _ + _ + 1 ≤ _; omega
    split
    · simp only [size_app]; show 7 + _ + _ + 1 ≤ _; omega
    split
    · have b1 := bb ⟨#[121, 105, 101, 108, 100]⟩
      have e : (⟨#[121, 105, 101, 108, 100]⟩ : ByteArray).size = 5 := rfl
      omega
    split
    · have b1 := bb ⟨#[110, 101, 120, 116]⟩
      have e : (⟨#[110, 101, 120, 116]⟩ : ByteArray).size = 4 := rfl
      omega
    split
    · have b1 := bb ⟨#[108, 101, 97, 118, 101]⟩
      have e : (⟨#[108, 101, 97, 118, 101]⟩ : ByteArray).size = 5 := rfl
      omega
    split
    · simp only [size_app]; show 3 + _ + _ + _ + _ + 5 + _ + _ + _ + _ + 1 ≤ _; omega
    split
    · have hK0 := tKs_getD0 (tabs ++ tTab) ks
      simp only [size_app]; show 4 + _ + _ + _ + _ + _ + _ + 1 ≤ _; omega
    · simp only [size_app]; omega
theorem tLs_le (tabs : ByteArray) (d : Nat) : ∀ l : List Nd, ok64L d l → tabs.size + d ≤ 256 → (tLs tabs l).size ≤ (l.length + wtL l) * 1024
  | [], _, _ => by show 0 ≤ _; omega
  | x :: r, h, ht => by
    simp only [ok64L] at h
    simp only [wtL]
    have h1 := tNd_le tabs d x h.1 (by omega)
    have h2 := tLs_le tabs d r h.2 (by omega)
    have e1 : tNl.size = 1 := rfl
    simp only [tLs, size_app, List.length_cons]
    omega
theorem tKs_le (tabs : ByteArray) (d : Nat) : ∀ ks : List (List Nd), ok64K d ks → tabs.size + d ≤ 256 → ((tKs tabs ks).map (·.size)).sum ≤ wtK ks * 1024
  | [], _, _ => by simp [tKs]
  | l :: r, h, ht => by
    simp only [ok64K] at h
    simp only [wtK]
    have h1 := tLs_le tabs d l h.1 (by omega)
    have h2 := tKs_le tabs d r h.2 (by omega)
    simp only [tKs, List.map_cons, List.sum_cons]
    omega
end
set_option maxRecDepth 20000
set_option maxHeartbeats 2000000
mutual
def pOkN : Nd → Prop
  | .mk kind op _ _ args outs params ks => (kind = 6 ∨ kind = 4 → ∃ a b, args = [a, b]) ∧ (kind = 9 ∨ kind = 15 ∨ kind = 10 ∨ kind = 3 ∨ kind = 5 → ∃ a, args = [a]) ∧ (kind = 10 → ∃ p q, ks = [p, q]) ∧
    (kind = 11 → (∃ p, ks = [p]) ∧ params.length = args.length) ∧ (kind ≤ 5 ∨ kind = 7 ∨ kind = 8 → ∃ o, outs = [o]) ∧ (kind = 3 ∨ kind = 4 → 1 ≤ op ∧ op ≤ 28) ∧ (1 ≤ kind ∧ kind ≤ 15) ∧ pOkK ks
def pOkL : List Nd → Prop
  | [] => True
  | x :: r => pOkN x ∧ pOkL r
def pOkK : List (List Nd) → Prop
  | [] => True
  | l :: r => pOkL l ∧ pOkK r
end
theorem pOk_mem : ∀ {l : List Nd} {x : Nd}, pOkL l → x ∈ l → pOkN x
  | y :: r, x, h, hx => by
    simp only [pOkL] at h
    rcases List.mem_cons.1 hx with rfl | hx
    · exact h.1
    · exact pOk_mem h.2 hx
theorem ok64_mem {d : Nat} : ∀ {l : List Nd} {x : Nd}, ok64L d l → x ∈ l → ok64N d x
  | y :: r, x, h, hx => by
    simp only [ok64L] at h
    rcases List.mem_cons.1 hx with rfl | hx
    · exact h.1
    · exact ok64_mem h.2 hx
theorem wtL_in : ∀ {l : List Nd} {x : Nd}, x ∈ l → wtN x ≤ wtL l
  | y :: r, x, hx => by
    simp only [wtL]
    rcases List.mem_cons.1 hx with rfl | hx
    · omega
    · have := wtL_in hx; omega
set_option maxRecDepth 20000
set_option maxHeartbeats 2000000
attribute [local simp] r8bare r8op r8num r8name r8kn Nd.kind Nd.op Nd.n Nd.name Nd.kids Nd.params ba_toList in
theorem sc_r8Closed (x : Nd) : SC Tryz.prog 71 [.pv (ndv x)] [] (fun _ => False) (iBool (r8Closed x)) [] := by
  refine SC.anyR (SC.vc tb {} [] Tryz.func71 rfl rfl ?_)
  obtain ⟨kind, op, n, name, args, outs, params, kids⟩ := x
  rcases (show kind = 10 ∨ kind = 11 ∨ (kind ≠ 11 ∧ kind ≠ 10) by omega) with rfl | rfl | ⟨k8, k9⟩
  · match kids with
    | [] => exact ⟨[], sc_r8Ender _, sR, trivial, rfl, sI, trivial⟩
    | [a] => exact ⟨[], sc_r8Ender _, sR, trivial, rfl, sI, trivial⟩
    | [a, b] => exact ⟨at0 (a := [nodes a]), rfl, [], sc_r8last a, sR, trivial, rfl, bcase (fun h => ⟨at1 (b := [nodes b]), rfl, [], sc_r8last b, sR, trivial, rfl, sE (congrArg iBool (show _ = ((r8last a != 12) && (r8last b != 12)) by rw [h]; rfl)), trivial⟩) fun h => ⟨sE (congrArg iBool (show _ = ((r8last a != 12) && (r8last b != 12)) by rw [h]; rfl)), trivial⟩⟩
    | a :: b :: c :: r => exact ⟨[], sc_r8Ender _, sR, trivial, rfl, sI, trivial⟩
  · match kids with
    | [] => exact ⟨[], sc_r8Ender _, sR, trivial, rfl, sI, trivial⟩
    | [a] => exact ⟨at0 (a := [nodes a]), rfl, [], sc_r8Leaves a, sR, trivial, rfl, sI, trivial⟩
    | a :: b :: r => exact ⟨[], sc_r8Ender _, sR, trivial, rfl, sI, trivial⟩
  · have no : ∀ {i : Int}, kind ≠ i → (kind == i) = true → False := fun h e => h (eq_of_beq e)
    exact bcase (fun h => (no k9 h).elim) fun _ => bcase (fun h => (no k8 h).elim) fun _ => ⟨[], sc_r8Ender _, sR, trivial, rfl, sE (by simp [r8Closed, Nd.kind, Nd.kids, k8, k9]), trivial⟩
theorem sc_r8sameInts (a b : List Int) : SC Tryz.prog 25 [.pv (ints a), .pv (ints b)] [] (fun _ => False) (iBool (a == b)) [] := by
  refine SC.of Tryz.func25 rfl (lb rfl) fun F ρ w => ?_
  refine Tr.lenOf (t := 0) rfl (fun hl => ?_)
  simp only [List.length_map] at hl
  refine Tr.lenOf (t := 1) rfl (fun hl2 => ?_)
  simp only [List.length_map] at hl2
  refine tQ <| tG <| sm 1 rfl <| nL <| tQ <| tQ <| tG <| sm 1 rfl <| cV rfl (oSm Tryz.underlying35 rfl) <| sm 1 rfl <| cV rfl (oSm Tryz.underlying35 rfl) <| sm 1 rfl ?_
  refine nL ?_
  refine tC rfl (fun hc10 => ?_) fun hc10 => ?_
  ·refine tQ <| tG <| sm 1 rfl <| nL <| Tr.ret <| ret_ok rfl ?_ no_post
   have hne : a ≠ b := by intro h; subst h; simp at hc10
   simp [hne]
  have hlen : a.length = b.length := by simp at hc10; omega
  refine Tr.skip <| tQ <| tQ <| tG <| sm 1 rfl <| nL <| Tr.block <| Tr.sub (Sub.of (fr' := [(5, iInt 0), (0, .pv (ints a)), (1, .pv (ints b))]) ⟨rfl, rfl, rfl, trivial⟩) ?_
  refine Tr.loop (fun fr σ m => ∃ (k : Nat), (k ≤ a.length) ∧ ((a == b) = (a.drop k == b.drop k)) ∧ fr = [(5, iInt k), (0, .pv (ints a)), (1, .pv (ints b))] ∧ σ = look [] ∧ m = a.length - k) (n := a.length - 0) ?_ ?_
  ·exact ⟨0, Nat.zero_le _, rfl, rfl, rfl, rfl⟩
  rintro fr σ m ⟨k, hI0, hI1, rfl, rfl, rfl⟩
  refine tQ <| tQ <| tG <| sm 2 rfl <| cV rfl (oSm Tryz.underlying35 rfl) <| sm 1 rfl <| nL ?_
  refine tC rfl (fun hc14 => ?_) fun hc14 => ?_
  ·have hlt : k < a.length := by simpa using hc14
   have hd := List.drop_eq_getElem_cons hlt
   have hm := List.getElem_mem hlt
   have hi := map_get (f := eInt) (List.getElem?_eq_getElem hlt)
   generalize a[k] = x at hd hm hi
   have hltw : k < b.length := by omega
   have hdw := List.drop_eq_getElem_cons hltw
   have hw := map_get (f := eInt) (List.getElem?_eq_getElem hltw)
   generalize b[k] = y at hdw hw
   refine Tr.skip <| tQ <| Tr.block <| tQ <| Tr.still mixed (by kernel_rfl) rfl <| smS 2 rfl <| sV rfl (ok_index_seq rfl rfl rfl Tryz.underlying35 hi tS3 rfl (by rfl)) <| smS 3 rfl <| sV rfl (ok_index_seq rfl rfl rfl Tryz.underlying35 hw tS3 rfl (by rfl)) <| smS 2 rfl <| WS.nil ?_
   refine tC rfl (fun hc25 => ?_) fun hc25 => ?_
   ·refine tQ <| tG <| sm 1 rfl <| nL <| Tr.ret <| ret_ok rfl ?_ no_post
    have hxy : x ≠ y := by simpa using hc25
    rw [hI1, hd, hdw]
    simp [hxy]
   refine Tr.skip <| tG <| sm 1 rfl <| cV rfl (oB rfl rfl (i64_add rfl (by omega))) <| sm 1 rfl <| nL ?_
   refine ⟨_, _, ?_, Sub.of (fr' := [(5, iInt (k + 1)), (0, .pv (ints a)), (1, .pv (ints b))]) ⟨rfl, rfl, rfl, trivial⟩, (k + 1), ?_, ?_, rfl, rfl, rfl⟩
   ·omega
   ·omega
   rw [hI1, hd, hdw]
   have : x = y := by simpa using hc25
   simp [this]
  refine Tr.exit <| tQ <| tG <| sm 1 rfl <| nL <| Tr.ret <| ret_ok rfl ?_ no_post
  have hge : a.length ≤ k := by simpa using hc14
  rw [hI1, List.drop_eq_nil_of_le hge, List.drop_eq_nil_of_le (by omega)]
  rfl
theorem sc_r8sameNodes_aux (N : Nat) : ∀ (a b : List Nd), SizeOf.sizeOf a < N → SC Tryz.prog 26 [.pv (nodes a), .pv (nodes b)] [] (fun _ => False) (iBool (sameL a b)) [] := by
  induction N with
  | zero => intro a b hN; exact absurd hN (Nat.not_lt_zero _)
  | succ N ih =>
    intro a b hN
    refine SC.of Tryz.func26 rfl (lb rfl) fun F ρ w => ?_
    refine Tr.lenOf (t := 0) rfl (fun hl => ?_)
    simp only [List.length_map] at hl
    refine Tr.lenOf (t := 1) rfl (fun hl2 => ?_)
    simp only [List.length_map] at hl2
    refine tQ <| tG <| sm 1 rfl <| nL <| tQ <| tQ <| tG <| sm 1 rfl <| cV rfl (oSm Tryz.underlying39 rfl) <| sm 1 rfl <| cV rfl (oSm Tryz.underlying39 rfl) <| sm 1 rfl ?_
    refine nL ?_
    refine tC rfl (fun hc13 => ?_) fun hc13 => ?_
    ·refine tQ <| tG <| sm 1 rfl <| nL <| Tr.ret <| ret_ok rfl ?_ no_post
     rw [sameL_len (by intro h; simp [h] at hc13)]
    have hlen : a.length = b.length := by simp at hc13; omega
    refine Tr.skip <| tQ <| tQ <| tG <| sm 1 rfl <| nL <| Tr.block <| Tr.sub (Sub.of (fr' := [(5, iInt 0), (0, .pv (nodes a)), (1, .pv (nodes b))]) ⟨rfl, rfl, rfl, trivial⟩) ?_
    refine Tr.loop (fun fr σ m => ∃ (k : Nat), (k ≤ a.length) ∧ (sameL a b = sameL (a.drop k) (b.drop k)) ∧ fr = [(5, iInt k), (0, .pv (nodes a)), (1, .pv (nodes b))] ∧ σ = look [] ∧ m = a.length - k) (n := a.length - 0) ?_ ?_
    ·exact ⟨0, Nat.zero_le _, rfl, rfl, rfl, rfl⟩
    rintro fr σ m ⟨k, hI0, hI1, rfl, rfl, rfl⟩
    refine tQ <| tQ <| tG <| sm 2 rfl <| cV rfl (oSm Tryz.underlying39 rfl) <| sm 1 rfl <| nL ?_
    refine tC rfl (fun hc17 => ?_) fun hc17 => ?_
    ·have hlt : k < a.length := by simpa using hc17
     have hd := List.drop_eq_getElem_cons hlt
     have hm := List.getElem_mem hlt
     have hi := nodes_get (List.getElem?_eq_getElem hlt)
     generalize a[k] = x at hd hm hi
     have hltw : k < b.length := by omega
     have hdw := List.drop_eq_getElem_cons hltw
     have hw := nodes_get (List.getElem?_eq_getElem hltw)
     generalize b[k] = y at hdw hw
     refine Tr.skip <| tQ <| Tr.block <| tQ ?_
     refine Tr.cut (fr' := [(7, .ptr 107 0), (6, .ptr 106 0), (5, iInt k), (0, .pv (nodes a)), (1, .pv (nodes b))]) (σ' := look [(106, some (.box [iInt x.kind, iInt x.op, iInt x.n, iStr x.name, .pv (ints x.args), .pv (ints x.outs), .pv (ints x.params), .pv (kids x.kids)])), (107, some (.box [iInt y.kind, iInt y.op, iInt y.n, iStr y.name, .pv (ints y.args), .pv (ints y.outs), .pv (ints y.params), .pv (kids y.kids)]))]) ?_ ?_
     ·refine Tr.drawn mixed (fun k => k ∈ ([] : List Nat)) <| wR 4 [0, 1, 2, 3, 4, 5, 6, 7] (by kernel_rfl) (fun _ _ _ h => pn h.1) <| smR 2 rfl <| rV rfl rfl (ok_index_seq rfl rfl rfl Tryz.underlying39 hi tS38 rfl (by rfl)) <| rV rfl rfl (ok_load_ept_agg rfl rfl Tryz.underlying38 rfl tS38 (lb rfl)) <| smR 2 rfl <| rV rfl rfl (ok_index_seq rfl rfl rfl Tryz.underlying39 hw tS38 rfl (by rfl)) <| rV rfl rfl (ok_load_ept_agg rfl rfl Tryz.underlying38 rfl tS38 (lb rfl)) <| nR <| WA.all (rs := [8, 9]) (by kernel_rfl) (by simp) ?_
      refine List.forall_mem_cons.2 ⟨?_, List.forall_mem_cons.2 ⟨?_, by simp⟩⟩
      ·refine wI rfl rfl nf (new_one rfl) (fun _ _ => ok_alloc (k := 106) rfl tZ38 rfl rfl rfl rfl) <| wO 9 (by kernel_rfl) <| wI rfl rfl nf (new_one rfl) (fun _ _ => ok_alloc (k := 107) rfl tZ38 rfl rfl rfl rfl) <| wO 10 (by kernel_rfl) <| wI rfl rfl nf (new_old rfl) (fun _ _ => ok_store_box_agg rfl rfl rfl rfl rfl (by simp) tS38 (firmL_ok rfl) (lb rfl)) <| wO 11 (by kernel_rfl) <| wI rfl rfl nf (new_old rfl) (fun _ _ => ok_store_box_agg rfl rfl rfl rfl rfl (by simp) tS38 (firmL_ok rfl) (lb rfl)) <| WA.done (by kernel_rfl) ?_
       refine ⟨rfl, Sub.of ⟨rfl, rfl, rfl, rfl, rfl, trivial⟩, ?_⟩
       exact look_two rfl rfl (fun k h1 h2 => by simp [look, beq_ne (Ne.symm h1), beq_ne (Ne.symm h2)]) (by decide)
      refine wI rfl rfl nf (new_one rfl) (fun _ _ => ok_alloc (k := 107) rfl tZ38 rfl rfl rfl rfl) <| wO 8 (by kernel_rfl) <| wI rfl rfl nf (new_one rfl) (fun _ _ => ok_alloc (k := 106) rfl tZ38 rfl rfl rfl rfl) <| wO 10 (by kernel_rfl) <| wI rfl rfl nf (new_old rfl) (fun _ _ => ok_store_box_agg rfl rfl rfl rfl rfl (by simp) tS38 (firmL_ok rfl) (lb rfl)) <| wO 11 (by kernel_rfl) <| wI rfl rfl nf (new_old rfl) (fun _ _ => ok_store_box_agg rfl rfl rfl rfl rfl (by simp) tS38 (firmL_ok rfl) (lb rfl)) <| WA.done (by kernel_rfl) ?_
      refine ⟨rfl, Sub.of ⟨rfl, rfl, rfl, rfl, rfl, trivial⟩, ?_⟩
      exact look_two rfl rfl (fun k h1 h2 => by simp [look, beq_ne (Ne.symm h1), beq_ne (Ne.symm h2)]) (by decide)
     refine Tr.freezeBox (t := 6) (k := 106) rfl rfl rfl <| Tr.freezeBox (t := 7) (k := 107) rfl rfl rfl <| Tr.heap (σ' := look []) (fun k => by simp only [look]; cases Nat.beq 107 k <;> cases Nat.beq 106 k <;> rfl) <| tQ <| tQ <| tG <| sm 6 rfl ?_
     refine wS 33 rfl (fun hb33 => ?_) fun hb33 => ?_
     ·refine sm 53 rfl <| nL <| Tr.condT rfl <| tQ <| tG <| sm 1 rfl <| nL <| Tr.ret <| ret_ok rfl ?_ no_post
      have hsh : sameH x y = false := by
        clear hd hdw hm hi hw hI1
        simp_all [sameH]
      rw [hI1, hd, hdw]
      simp [sameL, sameN_eq, hsh]
     refine sm 7 rfl ?_
     refine wS 40 rfl (fun hb40 => ?_) fun hb40 => ?_
     ·refine sm 46 rfl <| nL <| Tr.condT rfl <| tQ <| tG <| sm 1 rfl <| nL <| Tr.ret <| ret_ok rfl ?_ no_post
      have hsh : sameH x y = false := by
        clear hd hdw hm hi hw hI1
        simp_all [sameH]
      rw [hI1, hd, hdw]
      simp [sameL, sameN_eq, hsh]
     refine sm 7 rfl ?_
     refine wS 47 rfl (fun hb47 => ?_) fun hb47 => ?_
     ·refine sm 39 rfl <| nL <| Tr.condT rfl <| tQ <| tG <| sm 1 rfl <| nL <| Tr.ret <| ret_ok rfl ?_ no_post
      have hsh : sameH x y = false := by
        clear hd hdw hm hi hw hI1
        simp_all [sameH]
      rw [hI1, hd, hdw]
      simp [sameL, sameN_eq, hsh]
     refine sm 4 rfl <| yV rfl rfl (ok_bin_str rfl rfl rfl rfl) <| sm 2 rfl ?_
     refine wS 54 rfl (fun hb54 => ?_) fun hb54 => ?_
     ·refine sm 32 rfl <| nL <| Tr.condT rfl <| tQ <| tG <| sm 1 rfl <| nL <| Tr.ret <| ret_ok rfl ?_ no_post
      have hsh : sameH x y = false := by
        clear hd hdw hm hi hw hI1
        simp_all [sameH]
      rw [hI1, hd, hdw]
      simp [sameL, sameN_eq, hsh]
     refine sm 2 rfl <| yV rfl rfl (oSm Tryz.underlying36 rfl) <| sm 2 rfl <| yV rfl rfl (oSm Tryz.underlying36 rfl) <| sm 3 rfl ?_
     refine wS 63 rfl (fun hb63 => ?_) fun hb63 => ?_
     ·refine sm 23 rfl <| nL <| Tr.condT rfl <| tQ <| tG <| sm 1 rfl <| nL <| Tr.ret <| ret_ok rfl ?_ no_post
      have hsh : sameH x y = false := by
        clear hd hdw hm hi hw hI1
        (simp_all [sameH] <;> omega)
      rw [hI1, hd, hdw]
      simp [sameL, sameN_eq, hsh]
     refine sm 4 rfl <| WL.yes rfl rfl rfl rfl rfl rfl (ok_callq (sc_r8sameInts _ _) ent25 rfl rfl (Subs.refl _ _) rfl) <| sm 3 rfl ?_
     refine wS 71 rfl (fun hb71 => ?_) fun hb71 => ?_
     ·refine sm 15 rfl <| nL <| Tr.condT rfl <| tQ <| tG <| sm 1 rfl <| nL <| Tr.ret <| ret_ok rfl ?_ no_post
      have hsh : sameH x y = false := by
        clear hd hdw hm hi hw hI1
        simp_all [sameH]
      rw [hI1, hd, hdw]
      simp [sameL, sameN_eq, hsh]
     refine sm 4 rfl <| WL.yes rfl rfl rfl rfl rfl rfl (ok_callq (sc_r8sameInts _ _) ent25 rfl rfl (Subs.refl _ _) rfl) <| sm 3 rfl ?_
     refine wS 79 rfl (fun hb79 => ?_) fun hb79 => ?_
     ·refine sm 7 rfl <| nL <| Tr.condT rfl <| tQ <| tG <| sm 1 rfl <| nL <| Tr.ret <| ret_ok rfl ?_ no_post
      have hsh : sameH x y = false := by
        clear hd hdw hm hi hw hI1
        simp_all [sameH]
      rw [hI1, hd, hdw]
      simp [sameL, sameN_eq, hsh]
     refine sm 4 rfl <| WL.yes rfl rfl rfl rfl rfl rfl (ok_callq (sc_r8sameInts _ _) ent25 rfl rfl (Subs.refl _ _) rfl) <| sm 2 rfl <| nL ?_
     refine tC rfl (fun hc86 => ?_) fun hc86 => ?_
     ·refine tQ <| tG <| sm 1 rfl <| nL <| Tr.ret <| ret_ok rfl ?_ no_post
      have hsh : sameH x y = false := by
        clear hd hdw hm hi hw hI1
        simp_all [sameH]
      rw [hI1, hd, hdw]
      simp [sameL, sameN_eq, hsh]
     refine Tr.skip <| tQ <| tG <| sm 1 rfl <| nL <| Tr.block ?_
     have hsh : sameH x y = true := by
       clear hd hdw hm hi hw
       (simp_all [sameH] <;> omega)
     have hkl : x.kids.length = y.kids.length := by
       clear hd hdw hm hi hw
       simp_all [sameH]
     have hstart : sameL a b = (sameK (x.kids.drop 0) (y.kids.drop 0) && sameL (a.drop (k + 1)) (b.drop (k + 1))) := by
       rw [hI1, hd, hdw]
       simp [sameL, sameN_eq, hsh]
     refine Tr.sub (Sub.of (fr' := [(8, iInt 0), (7, .pv (.ept [vInt y.kind, vInt y.op, vInt y.n, vStr y.name, ints y.args, ints y.outs, ints y.params, kids y.kids] 0)), (6, .pv (.ept [vInt x.kind, vInt x.op, vInt x.n, vStr x.name, ints x.args, ints x.outs, ints x.params, kids x.kids] 0)), (5, iInt k), (0, .pv (nodes a)), (1, .pv (nodes b))]) ⟨rfl, rfl, rfl, rfl, rfl, rfl, trivial⟩) ?_
     refine Tr.loop (fun fr σ m => ∃ (i : Nat), (i ≤ x.kids.length) ∧ (sameL a b = (sameK (x.kids.drop i) (y.kids.drop i) && sameL (a.drop (k + 1)) (b.drop (k + 1)))) ∧ fr = [(8, iInt i), (7, .pv (.ept [vInt y.kind, vInt y.op, vInt y.n, vStr y.name, ints y.args, ints y.outs, ints y.params, kids y.kids] 0)), (6, .pv (.ept [vInt x.kind, vInt x.op, vInt x.n, vStr x.name, ints x.args, ints x.outs, ints x.params, kids x.kids] 0)), (5, iInt k), (0, .pv (nodes a)), (1, .pv (nodes b))] ∧ σ = look [] ∧ m = x.kids.length - i) (n := x.kids.length - 0) ?_ ?_
     ·exact ⟨0, Nat.zero_le _, hstart, rfl, rfl, rfl⟩
     rintro fr σ m ⟨i, hJ0, hJ1, rfl, rfl, rfl⟩
     refine tQ <| tQ <| tG <| sm 3 rfl ?_
     refine WL.lenOf (t := 89) rfl (fun hl3 => ?_)
     simp only [List.length_map] at hl3
     refine cV rfl (oSm Tryz.underlying36 rfl) <| sm 1 rfl <| nL ?_
     refine tC rfl (fun hc91 => ?_) fun hc91 => ?_
     ·have hlt2 : i < x.kids.length := by simpa using hc91
      have hd2 := List.drop_eq_getElem_cons hlt2
      have hm2 := List.getElem_mem hlt2
      have hi2 := map_get (f := eKid) (List.getElem?_eq_getElem hlt2)
      generalize x.kids[i] = p at hd2 hm2 hi2
      have hdec : SizeOf.sizeOf p < N := Nat.lt_of_lt_of_le (kid_lt hm rfl hm2) (Nat.le_of_lt_succ hN)
      have hltw2 : i < y.kids.length := by omega
      have hdw2 := List.drop_eq_getElem_cons hltw2
      have hw2 := map_get (f := eKid) (List.getElem?_eq_getElem hltw2)
      generalize y.kids[i] = q at hdw2 hw2
      refine Tr.skip <| tQ <| Tr.block <| tQ <| Tr.drawn mixed (fun k => k ∈ ([] : List Nat)) <| wR 2 [0, 1, 2, 3, 4, 5, 6, 7, 8, 9] (by kernel_rfl) (fun _ _ _ h => h) <| smR 3 rfl <| rV rfl rfl (ok_index_seq rfl rfl rfl Tryz.underlying36 hi2 tS39 rfl (by rfl)) <| smR 4 rfl <| rV rfl rfl (ok_index_seq rfl rfl rfl Tryz.underlying36 hw2 tS39 rfl (by rfl)) <| smR 1 rfl <| nR ?_
      refine wO 10 (by kernel_rfl) <| wI rfl rfl nf nw (fun _ _ => ocq (ih p q hdec) ent26 rfl rfl) <| wR 0 [11] (by kernel_rfl) (fun _ _ _ h => h) <| smR 1 rfl <| nR <| WA.done (by kernel_rfl) ?_
      refine tC rfl (fun hc105 => ?_) fun hc105 => ?_
      ·refine tQ <| tG <| sm 1 rfl <| nL <| Tr.ret <| ret_ok rfl ?_ no_post
       have hpq : sameL p q = false := by simpa using hc105
       rw [hJ1, hd2, hdw2]
       simp [sameK, hpq]
      refine Tr.skip <| tG <| sm 1 rfl <| cV rfl (oB rfl rfl (i64_add rfl (by omega))) <| sm 1 rfl <| nL ?_
      refine ⟨_, _, ?_, Sub.of (fr' := [(8, iInt (i + 1)), (7, .pv (.ept [vInt y.kind, vInt y.op, vInt y.n, vStr y.name, ints y.args, ints y.outs, ints y.params, kids y.kids] 0)), (6, .pv (.ept [vInt x.kind, vInt x.op, vInt x.n, vStr x.name, ints x.args, ints x.outs, ints x.params, kids x.kids] 0)), (5, iInt k), (0, .pv (nodes a)), (1, .pv (nodes b))]) ⟨rfl, rfl, rfl, rfl, rfl, rfl, trivial⟩, (i + 1), ?_, ?_, rfl, rfl, rfl⟩
      ·omega
      ·omega
      rw [hJ1, hd2, hdw2]
      have : sameL p q = true := by simpa using hc105
      simp [sameK, this]
     refine Tr.exit <| tG <| sm 1 rfl <| cV rfl (oB rfl rfl (i64_add rfl (by omega))) <| sm 1 rfl <| nL ?_
     refine ⟨_, _, ?_, Sub.of (fr' := [(5, iInt (k + 1)), (0, .pv (nodes a)), (1, .pv (nodes b))]) ⟨rfl, rfl, rfl, trivial⟩, (k + 1), ?_, ?_, rfl, rfl, rfl⟩
     ·omega
     ·omega
     have hz1 : x.kids.drop i = [] := List.drop_eq_nil_of_le (by simpa using hc91)
     have hz2 : y.kids.drop i = [] := List.drop_eq_nil_of_le (by rw [← hkl]; simpa using hc91)
     rw [hJ1, hz1, hz2]
     simp [sameK]
    refine Tr.exit <| tQ <| tG <| sm 1 rfl <| nL <| Tr.ret <| ret_ok rfl ?_ no_post
    have hge : a.length ≤ k := by simpa using hc17
    rw [hI1, List.drop_eq_nil_of_le hge, List.drop_eq_nil_of_le (by omega)]
    rfl
theorem sc_r8sameNodes (a b : List Nd) : SC Tryz.prog 26 [.pv (nodes a), .pv (nodes b)] [] (fun _ => False) (iBool (sameL a b)) [] := sc_r8sameNodes_aux _ a b (Nat.lt_succ_self _)
theorem sc_r8Same (u v : Un) : SC Tryz.prog 12 [.pv u.enc, .pv v.enc] [] (fun _ => False) (iBool (r8Same u v)) [] := by
  refine SC.of Tryz.func12 rfl (lb rfl) fun F ρ w => ?_
  refine tQ <| tG <| cE rfl (ok_box rfl rfl) <| cE rfl (ok_box rfl rfl) <| sm 1 rfl <| nL <| tQ <| tQ <| tG <| sm 2 rfl <| cV rfl (oSm Tryz.underlying22 rfl) <| sm 2 rfl ?_
  refine cV rfl (oSm Tryz.underlying22 rfl) <| sm 2 rfl ?_
  refine wS 16 rfl (fun hb16 => ?_) fun hb16 => ?_
  ·refine sm 8 rfl <| nL <| Tr.condT rfl <| tQ <| tG <| sm 1 rfl <| nL <| Tr.ret <| ret_ok rfl ?_ no_post
   refine congrArg (fun b => iBool b) ?_
   have hne : ¬ (u.arrays.length = v.arrays.length ∧ u.flows.length = v.flows.length) := by
     rintro ⟨h1, h2⟩
     simp_all
   unfold r8Same
   by_cases h1 : u.arrays.length = v.arrays.length
   ·have h2 : ¬ u.flows.length = v.flows.length := fun h2 => hne ⟨h1, h2⟩
    simp [h2]
   simp [h1]
  refine sm 2 rfl <| yV rfl rfl (oSm Tryz.underlying23 rfl) <| sm 2 rfl <| yV rfl rfl (oSm Tryz.underlying23 rfl) <| sm 2 rfl <| nL ?_
  refine tC rfl (fun hc24 => ?_) fun hc24 => ?_
  ·refine tQ <| tG <| sm 1 rfl <| nL <| Tr.ret <| ret_ok rfl ?_ no_post
   refine congrArg (fun b => iBool b) ?_
   have hne : ¬ (u.arrays.length = v.arrays.length ∧ u.flows.length = v.flows.length) := by
     rintro ⟨h1, h2⟩
     simp_all
   unfold r8Same
   by_cases h1 : u.arrays.length = v.arrays.length
   ·have h2 : ¬ u.flows.length = v.flows.length := fun h2 => hne ⟨h1, h2⟩
    simp [h2]
   simp [h1]
  have hlen : u.arrays.length = v.arrays.length ∧ u.flows.length = v.flows.length := by
    (simp_all <;> omega)
  refine Tr.skip <| tQ <| tQ <| tG <| sm 1 rfl <| nL <| Tr.block <| Tr.sub (Sub.of (fr' := [(5, iInt 0), (2, .pv (.ept [arrs u.arrays, flws u.flows] 0)), (3, .pv (.ept [arrs v.arrays, flws v.flows] 0))]) ⟨rfl, rfl, rfl, trivial⟩) ?_
  refine Tr.loop (fun fr σ m => ∃ (k : Nat), (k ≤ u.arrays.length) ∧ (sameAs u.arrays v.arrays = sameAs (u.arrays.drop k) (v.arrays.drop k)) ∧ fr = [(5, iInt k), (2, .pv (.ept [arrs u.arrays, flws u.flows] 0)), (3, .pv (.ept [arrs v.arrays, flws v.flows] 0))] ∧ σ = look [] ∧ m = u.arrays.length - k) (n := u.arrays.length - 0) ?_ ?_
  ·exact ⟨0, Nat.zero_le _, rfl, rfl, rfl, rfl⟩
  rintro fr σ m ⟨k, hI0, hI1, rfl, rfl, rfl⟩
  refine tQ <| tQ <| tG <| sm 3 rfl ?_
  refine WL.lenOf (t := 27) rfl (fun hl1 => ?_)
  simp only [List.length_map] at hl1
  refine cV rfl (oSm Tryz.underlying22 rfl) <| sm 1 rfl <| nL ?_
  refine tC rfl (fun hc29 => ?_) fun hc29 => ?_
  ·have hlt : k < u.arrays.length := by simpa using hc29
   have hd := List.drop_eq_getElem_cons hlt
   have hm := List.getElem_mem hlt
   have hi := map_get (f := Ar.enc) (List.getElem?_eq_getElem hlt)
   generalize u.arrays[k] = x at hd hm hi
   have hltw : k < v.arrays.length := by omega
   have hdw := List.drop_eq_getElem_cons hltw
   have hw := map_get (f := Ar.enc) (List.getElem?_eq_getElem hltw)
   generalize v.arrays[k] = y at hdw hw
   refine Tr.skip <| tQ <| Tr.block <| tQ <| Tr.still mixed (by kernel_rfl) rfl <| smS 3 rfl <| sV rfl (ok_index_seq rfl rfl rfl Tryz.underlying22 hi tS46 rfl (by rfl)) <| sV rfl (ok_load_ept_agg rfl rfl Tryz.underlying46 rfl tS46 (lb rfl)) <| smS 3 rfl <| sV rfl (ok_index_seq rfl rfl rfl Tryz.underlying22 hw tS46 rfl (by rfl)) <| sV rfl (ok_load_ept_agg rfl rfl Tryz.underlying46 rfl tS46 (lb rfl)) <| sV rfl (ok_neq_strint rfl rfl rfl Tryz.underlying46 Tryz.underlying9 Tryz.underlying3 rfl rfl (by decide) (by decide) (by kernel_rfl) (by kernel_rfl)) ?_
   refine WS.nil ?_
   refine tC rfl (fun hc42 => ?_) fun hc42 => ?_
   ·refine tQ <| tG <| sm 1 rfl <| nL <| Tr.ret <| ret_ok rfl ?_ no_post
    have hxy : sameA x y = false := by
      clear hd hdw hm hi hw hI1
      cases hb1 : (x.name.toList == y.name.toList) <;> cases hb2 : (x.size == y.size) <;> simp_all [sameA]
    have hA : sameAs u.arrays v.arrays = false := by rw [hI1, hd, hdw]; simp [sameAs, hxy]
    simp [r8Same, hA]
   refine Tr.skip <| tG <| sm 1 rfl <| cV rfl (oB rfl rfl (i64_add rfl (by omega))) <| sm 1 rfl <| nL ?_
   refine ⟨_, _, ?_, Sub.of (fr' := [(5, iInt (k + 1)), (2, .pv (.ept [arrs u.arrays, flws u.flows] 0)), (3, .pv (.ept [arrs v.arrays, flws v.flows] 0))]) ⟨rfl, rfl, rfl, trivial⟩, (k + 1), ?_, ?_, rfl, rfl, rfl⟩
   ·omega
   ·omega
   rw [hI1, hd, hdw]
   have hxy : sameA x y = true := by
     clear hd hdw hm hi hw
     simp_all [sameA]
   simp [sameAs, hxy]
  refine Tr.exit <| tQ <| tQ ?_
  have hAs : sameAs u.arrays v.arrays = true := by
    have hge : u.arrays.length ≤ k := by simpa using hc29
    rw [hI1, List.drop_eq_nil_of_le hge, List.drop_eq_nil_of_le (by omega)]
    rfl
  refine tG <| sm 1 rfl <| nL <| Tr.block <| Tr.sub (Sub.of (fr' := [(6, iInt 0), (2, .pv (.ept [arrs u.arrays, flws u.flows] 0)), (3, .pv (.ept [arrs v.arrays, flws v.flows] 0))]) ⟨rfl, rfl, rfl, trivial⟩) ?_
  refine Tr.loop (fun fr σ m => ∃ (k : Nat), (k ≤ u.flows.length) ∧ (sameFs u.flows v.flows = sameFs (u.flows.drop k) (v.flows.drop k)) ∧ fr = [(6, iInt k), (2, .pv (.ept [arrs u.arrays, flws u.flows] 0)), (3, .pv (.ept [arrs v.arrays, flws v.flows] 0))] ∧ σ = look [] ∧ m = u.flows.length - k) (n := u.flows.length - 0) ?_ ?_
  ·exact ⟨0, Nat.zero_le _, rfl, rfl, rfl, rfl⟩
  rintro fr σ m ⟨k, hI0, hI1, rfl, rfl, rfl⟩
  refine tQ <| tQ <| tG <| sm 3 rfl ?_
  refine WL.lenOf (t := 45) rfl (fun hl1 => ?_)
  simp only [List.length_map] at hl1
  refine cV rfl (oSm Tryz.underlying23 rfl) <| sm 1 rfl <| nL ?_
  refine tC rfl (fun hc47 => ?_) fun hc47 => ?_
  ·have hlt : k < u.flows.length := by simpa using hc47
   have hd := List.drop_eq_getElem_cons hlt
   have hm := List.getElem_mem hlt
   have hi := map_get (f := Fl.enc) (List.getElem?_eq_getElem hlt)
   generalize u.flows[k] = x at hd hm hi
   have hltw : k < v.flows.length := by omega
   have hdw := List.drop_eq_getElem_cons hltw
   have hw := map_get (f := Fl.enc) (List.getElem?_eq_getElem hltw)
   generalize v.flows[k] = y at hdw hw
   refine Tr.skip <| tQ <| Tr.block <| tQ ?_
   refine Tr.cut (fr' := [(8, .ptr 108 0), (7, .ptr 107 0), (6, iInt k), (2, .pv (.ept [arrs u.arrays, flws u.flows] 0)), (3, .pv (.ept [arrs v.arrays, flws v.flows] 0))]) (σ' := look [(107, some (.box [iStr x.name, iInt x.ty, iInt x.params, .pv (ints x.types), .pv (nodes x.body)])), (108, some (.box [iStr y.name, iInt y.ty, iInt y.params, .pv (ints y.types), .pv (nodes y.body)]))]) ?_ ?_
   ·refine Tr.drawn mixed (fun k => k ∈ ([] : List Nat)) <| wR 4 [0, 1, 2, 3, 4, 5, 6, 7, 8, 9] (by kernel_rfl) (fun _ _ _ h => pn h.1) <| smR 3 rfl <| rV rfl rfl (ok_index_seq rfl rfl rfl Tryz.underlying23 hi tS41 rfl (by rfl)) <| rV rfl rfl (ok_load_ept_agg rfl rfl Tryz.underlying41 rfl tS41 (lb rfl)) <| smR 3 rfl <| rV rfl rfl (ok_index_seq rfl rfl rfl Tryz.underlying23 hw tS41 rfl (by rfl)) <| rV rfl rfl (ok_load_ept_agg rfl rfl Tryz.underlying41 rfl tS41 (lb rfl)) <| nR <| WA.all (rs := [10, 11]) (by kernel_rfl) (by simp) ?_
    refine List.forall_mem_cons.2 ⟨?_, List.forall_mem_cons.2 ⟨?_, by simp⟩⟩
    ·refine wI rfl rfl nf (new_one rfl) (fun _ _ => ok_alloc (k := 107) rfl tZ41 rfl rfl rfl rfl) <| wO 11 (by kernel_rfl) <| wI rfl rfl nf (new_one rfl) (fun _ _ => ok_alloc (k := 108) rfl tZ41 rfl rfl rfl rfl) <| wO 12 (by kernel_rfl) <| wI rfl rfl nf (new_old rfl) (fun _ _ => ok_store_box_agg rfl rfl rfl rfl rfl (by simp) tS41 (firmL_ok rfl) (lb rfl)) <| wO 13 (by kernel_rfl) <| wI rfl rfl nf (new_old rfl) (fun _ _ => ok_store_box_agg rfl rfl rfl rfl rfl (by simp) tS41 (firmL_ok rfl) (lb rfl)) <| WA.done (by kernel_rfl) ?_
     refine ⟨rfl, Sub.of ⟨rfl, rfl, rfl, rfl, rfl, trivial⟩, ?_⟩
     exact look_two rfl rfl (fun k h1 h2 => by simp [look, beq_ne (Ne.symm h1), beq_ne (Ne.symm h2)]) (by decide)
    refine wI rfl rfl nf (new_one rfl) (fun _ _ => ok_alloc (k := 108) rfl tZ41 rfl rfl rfl rfl) <| wO 10 (by kernel_rfl) <| wI rfl rfl nf (new_one rfl) (fun _ _ => ok_alloc (k := 107) rfl tZ41 rfl rfl rfl rfl) <| wO 12 (by kernel_rfl) <| wI rfl rfl nf (new_old rfl) (fun _ _ => ok_store_box_agg rfl rfl rfl rfl rfl (by simp) tS41 (firmL_ok rfl) (lb rfl)) <| wO 13 (by kernel_rfl) <| wI rfl rfl nf (new_old rfl) (fun _ _ => ok_store_box_agg rfl rfl rfl rfl rfl (by simp) tS41 (firmL_ok rfl) (lb rfl)) <| WA.done (by kernel_rfl) ?_
    refine ⟨rfl, Sub.of ⟨rfl, rfl, rfl, rfl, rfl, trivial⟩, ?_⟩
    exact look_two rfl rfl (fun k h1 h2 => by simp [look, beq_ne (Ne.symm h1), beq_ne (Ne.symm h2)]) (by decide)
   refine Tr.freezeBox (t := 7) (k := 107) rfl rfl rfl <| Tr.freezeBox (t := 8) (k := 108) rfl rfl rfl <| Tr.heap (σ' := look []) (fun k => by simp only [look]; cases Nat.beq 107 k <;> cases Nat.beq 108 k <;> rfl) <| tQ <| tG <| sm 4 rfl <| cV rfl (ok_bin_str rfl rfl rfl rfl) <| sm 1 rfl ?_
   refine wS 65 rfl (fun hb65 => ?_) fun hb65 => ?_
   ·refine sm 29 rfl <| nL <| Tr.condT rfl <| tQ <| tG <| sm 1 rfl <| nL <| Tr.ret <| ret_ok rfl ?_ no_post
    have hxy : sameF x y = false := by
      clear hd hdw hm hi hw hI1
      simp_all [sameF]
    have hF : sameFs u.flows v.flows = false := by rw [hI1, hd, hdw]; simp [sameFs, hxy]
    simp [r8Same, hF]
   refine sm 7 rfl ?_
   refine wS 72 rfl (fun hb72 => ?_) fun hb72 => ?_
   ·refine sm 22 rfl <| nL <| Tr.condT rfl <| tQ <| tG <| sm 1 rfl <| nL <| Tr.ret <| ret_ok rfl ?_ no_post
    have hxy : sameF x y = false := by
      clear hd hdw hm hi hw hI1
      simp_all [sameF]
    have hF : sameFs u.flows v.flows = false := by rw [hI1, hd, hdw]; simp [sameFs, hxy]
    simp [r8Same, hF]
   refine sm 7 rfl ?_
   refine wS 79 rfl (fun hb79 => ?_) fun hb79 => ?_
   ·refine sm 15 rfl <| nL <| Tr.condT rfl <| tQ <| tG <| sm 1 rfl <| nL <| Tr.ret <| ret_ok rfl ?_ no_post
    have hxy : sameF x y = false := by
      clear hd hdw hm hi hw hI1
      simp_all [sameF]
    have hF : sameFs u.flows v.flows = false := by rw [hI1, hd, hdw]; simp [sameFs, hxy]
    simp [r8Same, hF]
   refine sm 4 rfl <| WL.yes rfl rfl rfl rfl rfl rfl (ok_callq (sc_r8sameInts _ _) ent25 rfl rfl (Subs.refl _ _) rfl) <| sm 3 rfl ?_
   refine wS 87 rfl (fun hb87 => ?_) fun hb87 => ?_
   ·refine sm 7 rfl <| nL <| Tr.condT rfl <| tQ <| tG <| sm 1 rfl <| nL <| Tr.ret <| ret_ok rfl ?_ no_post
    have hxy : sameF x y = false := by
      clear hd hdw hm hi hw hI1
      simp_all [sameF]
    have hF : sameFs u.flows v.flows = false := by rw [hI1, hd, hdw]; simp [sameFs, hxy]
    simp [r8Same, hF]
   refine sm 4 rfl <| WL.yes rfl rfl rfl rfl rfl rfl (ok_callq (sc_r8sameNodes _ _) ent26 rfl rfl (Subs.refl _ _) rfl) <| sm 2 rfl <| nL ?_
   refine tC rfl (fun hc94 => ?_) fun hc94 => ?_
   ·refine tQ <| tG <| sm 1 rfl <| nL <| Tr.ret <| ret_ok rfl ?_ no_post
    have hxy : sameF x y = false := by
      clear hd hdw hm hi hw hI1
      simp_all [sameF]
    have hF : sameFs u.flows v.flows = false := by rw [hI1, hd, hdw]; simp [sameFs, hxy]
    simp [r8Same, hF]
   refine Tr.skip <| tG <| sm 1 rfl <| cV rfl (oB rfl rfl (i64_add rfl (by omega))) <| sm 1 rfl <| nL ?_
   refine ⟨_, _, ?_, Sub.of (fr' := [(6, iInt (k + 1)), (2, .pv (.ept [arrs u.arrays, flws u.flows] 0)), (3, .pv (.ept [arrs v.arrays, flws v.flows] 0))]) ⟨rfl, rfl, rfl, trivial⟩, (k + 1), ?_, ?_, rfl, rfl, rfl⟩
   ·omega
   ·omega
   rw [hI1, hd, hdw]
   have hxy : sameF x y = true := by
     clear hd hdw hm hi hw
     simp_all [sameF]
   simp [sameFs, hxy]
  refine Tr.exit <| tQ <| tG <| sm 1 rfl <| nL <| Tr.ret <| ret_ok rfl ?_ no_post
  have hge : u.flows.length ≤ k := by simpa using hc47
  have hF : sameFs u.flows v.flows = true := by rw [hI1, List.drop_eq_nil_of_le hge, List.drop_eq_nil_of_le (by omega)]; rfl
  simp [r8Same, hAs, hF, hlen.1, hlen.2]
theorem sc_idx_int (fq : FuncId) (ws : List IV) (pre : List (Nat × HO)) (hon : onlyHp (pre.map (·.1)) pre = true) (hent : enters Tryz.prog fq) (p : Int → Bool) (l : List Int) (h : ∀ x ∈ l, SC Tryz.prog fq ((iInt x) :: ws) pre (fun _ => True) (iBool (p x)) pre) : SC Tryz.prog 78 [.pv (ints l), .fn (.func fq) [] ws] pre (fun _ => True) (iInt (idxP p l 0)) pre := by
  refine SC.of Tryz.func78 rfl (lb rfl) fun F ρ w => ?_
  refine Tr.lenOf (t := 0) rfl (fun hl => ?_)
  simp only [List.length_map] at hl
  refine tQ <| tG <| sm 1 rfl <| nL <| tQ <| tQ <| tG <| sm 1 rfl <| cV rfl (oSm Tryz.underlying35 rfl) <| sm 1 rfl <| nL <| Tr.block ?_
  refine Tr.sub (Sub.of (fr' := [(8, iInt 0), (7, iInt l.length), (0, .pv (ints l)), (1, .fn (.func fq) [] ws)]) ⟨rfl, rfl, rfl, rfl, trivial⟩) ?_
  refine Tr.loop (fun fr σ m => ∃ (k : Nat), (k ≤ l.length) ∧ (idxP p l 0 = idxP p (l.drop k) k) ∧ fr = [(8, iInt k), (7, iInt l.length), (0, .pv (ints l)), (1, .fn (.func fq) [] ws)] ∧ σ = look (up pre) ∧ m = l.length - k) (n := l.length - 0) ?_ ?_
  ·exact ⟨0, Nat.zero_le _, rfl, rfl, rfl, rfl⟩
  rintro fr σ m ⟨k, hI0, hI1, rfl, rfl, rfl⟩
  refine tQ <| tG <| sm 1 rfl <| nL <| tQ ?_
  refine tC rfl (fun hc9 => ?_) fun hc9 => ?_
  ·have hlt : k < l.length := by simpa using hc9
   have hd := List.drop_eq_getElem_cons hlt
   have hm := List.getElem_mem hlt
   have hi := map_get (f := eInt) (List.getElem?_eq_getElem hlt)
   generalize l[k] = x at hd hm hi
   refine Tr.skip <| tQ <| Tr.block <| tQ <| tG <| sm 2 rfl <| nL <| tQ <| tG <| sm 3 rfl <| cV rfl (ok_index_seq rfl rfl rfl Tryz.underlying35 hi tS3 rfl (by rfl)) <| sm 1 rfl ?_
   refine cE rfl (ok_callv (h x hm) hent rfl rfl rfl (Subs.refl _ _) (fun _ _ h => h) (by rfl) (fun k (h : _) => trivial) rfl (by assumption)) <| nL ?_
   refine tC rfl (fun hc16 => ?_) fun hc16 => ?_
   ·refine tQ <| tG <| sm 2 rfl <| nL <| Tr.ret <| ret_ok rfl ?_ (fun k o h => post_same rfl k o h)
    have hx : p x = true := by simpa using hc16
    rw [hI1, hd]
    simp only [idxP, hx, if_true]
   refine Tr.skip <| tG <| cV rfl (oB rfl rfl (i64_add rfl (by omega))) <| sm 1 rfl <| nL ?_
   refine ⟨_, _, ?_, Sub.of (fr' := [(8, iInt (k + 1)), (7, iInt l.length), (0, .pv (ints l)), (1, .fn (.func fq) [] ws)]) ⟨rfl, rfl, rfl, rfl, trivial⟩, (k + 1), ?_, ?_, rfl, (look_app_same rfl), rfl⟩
   ·omega
   ·omega
   rw [hI1, hd]
   have hx : p x = false := by simpa using hc16
   simp only [idxP, hx, Bool.false_eq_true, if_false]
   rfl
  refine Tr.exit <| tQ <| tG <| sm 1 rfl <| nL <| Tr.ret <| ret_ok rfl ?_ (fun _ _ h => h)
  have hge : l.length ≤ k := by simpa using hc9
  rw [hI1, List.drop_eq_nil_of_le hge]
  rfl
theorem sc_has_int (fq : FuncId) (ws : List IV) (pre : List (Nat × HO)) (hon : onlyHp (pre.map (·.1)) pre = true) (hent : enters Tryz.prog fq) (p : Int → Bool) (l : List Int) (h : ∀ x ∈ l, SC Tryz.prog fq ((iInt x) :: ws) pre (fun _ => True) (iBool (p x)) pre) : SC Tryz.prog 49 [.pv (ints l), .fn (.func fq) [] ws] pre (fun _ => True) (iBool (l.any p)) pre := by
  refine SC.of Tryz.func49 rfl (lb rfl) fun F ρ w => ?_
  refine tQ <| tG <| sm 1 rfl <| nL <| tQ <| tG <| sm 2 rfl <| cE rfl (ok_callr (sc_idx_int fq ws pre hon hent p l h) ent78 rfl rfl (Subs.refl _ _) (fun _ _ h => h) (by rfl) (fun k (h : _) => .inr trivial) rfl (by assumption)) <| sm 2 rfl <| nL <| Tr.ret <| ret_ok rfl ?_ (fun k o h => post_same rfl k o h)
  exact congrArg (fun b => iBool b) (idxP_any p l 0 (Int.le_refl 0))
theorem sc_idx_node (fq : FuncId) (ws : List IV) (pre : List (Nat × HO)) (hon : onlyHp (pre.map (·.1)) pre = true) (hent : enters Tryz.prog fq) (p : Nd → Bool) (l : List Nd) (h : ∀ x ∈ l, SC Tryz.prog fq ((.pv (ndv x)) :: ws) pre (fun _ => True) (iBool (p x)) pre) : SC Tryz.prog 149 [.pv (nodes l), .fn (.func fq) [] ws] pre (fun _ => True) (iInt (idxP p l 0)) pre := by
  refine SC.of Tryz.func149 rfl (lb rfl) fun F ρ w => ?_
  refine Tr.lenOf (t := 0) rfl (fun hl => ?_)
  simp only [List.length_map] at hl
  refine tQ <| tG <| sm 1 rfl <| nL <| tQ <| tQ <| tG <| sm 1 rfl <| cV rfl (oSm Tryz.underlying39 rfl) <| sm 1 rfl <| nL <| Tr.block ?_
  refine Tr.sub (Sub.of (fr' := [(8, iInt 0), (7, iInt l.length), (0, .pv (nodes l)), (1, .fn (.func fq) [] ws)]) ⟨rfl, rfl, rfl, rfl, trivial⟩) ?_
  refine Tr.loop (fun fr σ m => ∃ (k : Nat), (k ≤ l.length) ∧ (idxP p l 0 = idxP p (l.drop k) k) ∧ fr = [(8, iInt k), (7, iInt l.length), (0, .pv (nodes l)), (1, .fn (.func fq) [] ws)] ∧ σ = look (up pre) ∧ m = l.length - k) (n := l.length - 0) ?_ ?_
  ·exact ⟨0, Nat.zero_le _, rfl, rfl, rfl, rfl⟩
  rintro fr σ m ⟨k, hI0, hI1, rfl, rfl, rfl⟩
  refine tQ <| tG <| sm 1 rfl <| nL <| tQ ?_
  refine tC rfl (fun hc9 => ?_) fun hc9 => ?_
  ·have hlt : k < l.length := by simpa using hc9
   have hd := List.drop_eq_getElem_cons hlt
   have hm := List.getElem_mem hlt
   have hi := nodes_get (List.getElem?_eq_getElem hlt)
   generalize l[k] = x at hd hm hi
   refine Tr.skip <| tQ <| Tr.block <| tQ <| tG <| sm 2 rfl <| nL <| tQ <| tG <| sm 3 rfl <| cV rfl (ok_index_seq rfl rfl rfl Tryz.underlying39 hi tS38 rfl (by rfl)) <| cV rfl (ok_load_ept_agg rfl rfl Tryz.underlying38 rfl tS38 (lb rfl)) ?_
   refine cE rfl (ok_callv (h x hm) hent rfl rfl rfl (Subs.refl _ _) (fun _ _ h => h) (by rfl) (fun k (h : _) => trivial) rfl (by assumption)) <| nL ?_
   refine tC rfl (fun hc16 => ?_) fun hc16 => ?_
   ·refine tQ <| tG <| sm 2 rfl <| nL <| Tr.ret <| ret_ok rfl ?_ (fun k o h => post_same rfl k o h)
    have hx : p x = true := by simpa using hc16
    rw [hI1, hd]
    simp only [idxP, hx, if_true]
   refine Tr.skip <| tG <| cV rfl (oB rfl rfl (i64_add rfl (by omega))) <| sm 1 rfl <| nL ?_
   refine ⟨_, _, ?_, Sub.of (fr' := [(8, iInt (k + 1)), (7, iInt l.length), (0, .pv (nodes l)), (1, .fn (.func fq) [] ws)]) ⟨rfl, rfl, rfl, rfl, trivial⟩, (k + 1), ?_, ?_, rfl, (look_app_same rfl), rfl⟩
   ·omega
   ·omega
   rw [hI1, hd]
   have hx : p x = false := by simpa using hc16
   simp only [idxP, hx, Bool.false_eq_true, if_false]
   rfl
  refine Tr.exit <| tQ <| tG <| sm 1 rfl <| nL <| Tr.ret <| ret_ok rfl ?_ (fun _ _ h => h)
  have hge : l.length ≤ k := by simpa using hc9
  rw [hI1, List.drop_eq_nil_of_le hge]
  rfl
theorem sc_has_node (fq : FuncId) (ws : List IV) (pre : List (Nat × HO)) (hon : onlyHp (pre.map (·.1)) pre = true) (hent : enters Tryz.prog fq) (p : Nd → Bool) (l : List Nd) (h : ∀ x ∈ l, SC Tryz.prog fq ((.pv (ndv x)) :: ws) pre (fun _ => True) (iBool (p x)) pre) : SC Tryz.prog 132 [.pv (nodes l), .fn (.func fq) [] ws] pre (fun _ => True) (iBool (l.any p)) pre := by
  refine SC.of Tryz.func132 rfl (lb rfl) fun F ρ w => ?_
  refine tQ <| tG <| sm 1 rfl <| nL <| tQ <| tG <| sm 2 rfl <| cE rfl (ok_callr (sc_idx_node fq ws pre hon hent p l h) ent149 rfl rfl (Subs.refl _ _) (fun _ _ h => h) (by rfl) (fun k (h : _) => .inr trivial) rfl (by assumption)) <| sm 2 rfl <| nL <| Tr.ret <| ret_ok rfl ?_ (fun k o h => post_same rfl k o h)
  exact congrArg (fun b => iBool b) (idxP_any p l 0 (Int.le_refl 0))
theorem sc_idx_kid (fq : FuncId) (ws : List IV) (pre : List (Nat × HO)) (hon : onlyHp (pre.map (·.1)) pre = true) (hent : enters Tryz.prog fq) (p : (List Nd) → Bool) (l : List (List Nd)) (h : ∀ x ∈ l, SC Tryz.prog fq ((.pv (nodes x)) :: ws) pre (fun _ => True) (iBool (p x)) pre) : SC Tryz.prog 150 [.pv (kids l), .fn (.func fq) [] ws] pre (fun _ => True) (iInt (idxP p l 0)) pre := by
  refine SC.of Tryz.func150 rfl (lb rfl) fun F ρ w => ?_
  refine Tr.lenOf (t := 0) rfl (fun hl => ?_)
  simp only [List.length_map] at hl
  refine tQ <| tG <| sm 1 rfl <| nL <| tQ <| tQ <| tG <| sm 1 rfl <| cV rfl (oSm Tryz.underlying36 rfl) <| sm 1 rfl <| nL <| Tr.block ?_
  refine Tr.sub (Sub.of (fr' := [(8, iInt 0), (7, iInt l.length), (0, .pv (kids l)), (1, .fn (.func fq) [] ws)]) ⟨rfl, rfl, rfl, rfl, trivial⟩) ?_
  refine Tr.loop (fun fr σ m => ∃ (k : Nat), (k ≤ l.length) ∧ (idxP p l 0 = idxP p (l.drop k) k) ∧ fr = [(8, iInt k), (7, iInt l.length), (0, .pv (kids l)), (1, .fn (.func fq) [] ws)] ∧ σ = look (up pre) ∧ m = l.length - k) (n := l.length - 0) ?_ ?_
  ·exact ⟨0, Nat.zero_le _, rfl, rfl, rfl, rfl⟩
  rintro fr σ m ⟨k, hI0, hI1, rfl, rfl, rfl⟩
  refine tQ <| tG <| sm 1 rfl <| nL <| tQ ?_
  refine tC rfl (fun hc9 => ?_) fun hc9 => ?_
  ·have hlt : k < l.length := by simpa using hc9
   have hd := List.drop_eq_getElem_cons hlt
   have hm := List.getElem_mem hlt
   have hi := map_get (f := eKid) (List.getElem?_eq_getElem hlt)
   generalize l[k] = x at hd hm hi
   refine Tr.skip <| tQ <| Tr.block <| tQ <| tG <| sm 2 rfl <| nL <| tQ <| tG <| sm 3 rfl <| cV rfl (ok_index_seq rfl rfl rfl Tryz.underlying36 hi tS39 rfl (by rfl)) <| sm 1 rfl ?_
   refine cE rfl (ok_callv (h x hm) hent rfl rfl rfl (Subs.refl _ _) (fun _ _ h => h) (by rfl) (fun k (h : _) => trivial) rfl (by assumption)) <| nL ?_
   refine tC rfl (fun hc16 => ?_) fun hc16 => ?_
   ·refine tQ <| tG <| sm 2 rfl <| nL <| Tr.ret <| ret_ok rfl ?_ (fun k o h => post_same rfl k o h)
    have hx : p x = true := by simpa using hc16
    rw [hI1, hd]
    simp only [idxP, hx, if_true]
   refine Tr.skip <| tG <| cV rfl (oB rfl rfl (i64_add rfl (by omega))) <| sm 1 rfl <| nL ?_
   refine ⟨_, _, ?_, Sub.of (fr' := [(8, iInt (k + 1)), (7, iInt l.length), (0, .pv (kids l)), (1, .fn (.func fq) [] ws)]) ⟨rfl, rfl, rfl, rfl, trivial⟩, (k + 1), ?_, ?_, rfl, (look_app_same rfl), rfl⟩
   ·omega
   ·omega
   rw [hI1, hd]
   have hx : p x = false := by simpa using hc16
   simp only [idxP, hx, Bool.false_eq_true, if_false]
   rfl
  refine Tr.exit <| tQ <| tG <| sm 1 rfl <| nL <| Tr.ret <| ret_ok rfl ?_ (fun _ _ h => h)
  have hge : l.length ≤ k := by simpa using hc9
  rw [hI1, List.drop_eq_nil_of_le hge]
  rfl
theorem sc_has_kid (fq : FuncId) (ws : List IV) (pre : List (Nat × HO)) (hon : onlyHp (pre.map (·.1)) pre = true) (hent : enters Tryz.prog fq) (p : (List Nd) → Bool) (l : List (List Nd)) (h : ∀ x ∈ l, SC Tryz.prog fq ((.pv (nodes x)) :: ws) pre (fun _ => True) (iBool (p x)) pre) : SC Tryz.prog 134 [.pv (kids l), .fn (.func fq) [] ws] pre (fun _ => True) (iBool (l.any p)) pre := by
  refine SC.of Tryz.func134 rfl (lb rfl) fun F ρ w => ?_
  refine tQ <| tG <| sm 1 rfl <| nL <| tQ <| tG <| sm 2 rfl <| cE rfl (ok_callr (sc_idx_kid fq ws pre hon hent p l h) ent150 rfl rfl (Subs.refl _ _) (fun _ _ h => h) (by rfl) (fun k (h : _) => .inr trivial) rfl (by assumption)) <| sm 2 rfl <| nL <| Tr.ret <| ret_ok rfl ?_ (fun k o h => post_same rfl k o h)
  exact congrArg (fun b => iBool b) (idxP_any p l 0 (Int.le_refl 0))
theorem sc_idx_arr (fq : FuncId) (ws : List IV) (pre : List (Nat × HO)) (hon : onlyHp (pre.map (·.1)) pre = true) (hent : enters Tryz.prog fq) (p : Ar → Bool) (l : List Ar) (h : ∀ x ∈ l, SC Tryz.prog fq ((.pv (.agg x.enc)) :: ws) pre (fun _ => True) (iBool (p x)) pre) : SC Tryz.prog 151 [.pv (arrs l), .fn (.func fq) [] ws] pre (fun _ => True) (iInt (idxP p l 0)) pre := by
  refine SC.of Tryz.func151 rfl (lb rfl) fun F ρ w => ?_
  refine Tr.lenOf (t := 0) rfl (fun hl => ?_)
  simp only [List.length_map] at hl
  refine tQ <| tG <| sm 1 rfl <| nL <| tQ <| tQ <| tG <| sm 1 rfl <| cV rfl (oSm Tryz.underlying22 rfl) <| sm 1 rfl <| nL <| Tr.block ?_
  refine Tr.sub (Sub.of (fr' := [(8, iInt 0), (7, iInt l.length), (0, .pv (arrs l)), (1, .fn (.func fq) [] ws)]) ⟨rfl, rfl, rfl, rfl, trivial⟩) ?_
  refine Tr.loop (fun fr σ m => ∃ (k : Nat), (k ≤ l.length) ∧ (idxP p l 0 = idxP p (l.drop k) k) ∧ fr = [(8, iInt k), (7, iInt l.length), (0, .pv (arrs l)), (1, .fn (.func fq) [] ws)] ∧ σ = look (up pre) ∧ m = l.length - k) (n := l.length - 0) ?_ ?_
  ·exact ⟨0, Nat.zero_le _, rfl, rfl, rfl, rfl⟩
  rintro fr σ m ⟨k, hI0, hI1, rfl, rfl, rfl⟩
  refine tQ <| tG <| sm 1 rfl <| nL <| tQ ?_
  refine tC rfl (fun hc9 => ?_) fun hc9 => ?_
  ·have hlt : k < l.length := by simpa using hc9
   have hd := List.drop_eq_getElem_cons hlt
   have hm := List.getElem_mem hlt
   have hi := map_get (f := Ar.enc) (List.getElem?_eq_getElem hlt)
   generalize l[k] = x at hd hm hi
   refine Tr.skip <| tQ <| Tr.block <| tQ <| tG <| sm 2 rfl <| nL <| tQ <| tG <| sm 3 rfl <| cV rfl (ok_index_seq rfl rfl rfl Tryz.underlying22 hi tS46 rfl (by rfl)) <| cV rfl (ok_load_ept_agg rfl rfl Tryz.underlying46 rfl tS46 (lb rfl)) ?_
   refine cE rfl (ok_callv (h x hm) hent rfl rfl rfl (Subs.refl _ _) (fun _ _ h => h) (by rfl) (fun k (h : _) => trivial) rfl (by assumption)) <| nL ?_
   refine tC rfl (fun hc16 => ?_) fun hc16 => ?_
   ·refine tQ <| tG <| sm 2 rfl <| nL <| Tr.ret <| ret_ok rfl ?_ (fun k o h => post_same rfl k o h)
    have hx : p x = true := by simpa using hc16
    rw [hI1, hd]
    simp only [idxP, hx, if_true]
   refine Tr.skip <| tG <| cV rfl (oB rfl rfl (i64_add rfl (by omega))) <| sm 1 rfl <| nL ?_
   refine ⟨_, _, ?_, Sub.of (fr' := [(8, iInt (k + 1)), (7, iInt l.length), (0, .pv (arrs l)), (1, .fn (.func fq) [] ws)]) ⟨rfl, rfl, rfl, rfl, trivial⟩, (k + 1), ?_, ?_, rfl, (look_app_same rfl), rfl⟩
   ·omega
   ·omega
   rw [hI1, hd]
   have hx : p x = false := by simpa using hc16
   simp only [idxP, hx, Bool.false_eq_true, if_false]
   rfl
  refine Tr.exit <| tQ <| tG <| sm 1 rfl <| nL <| Tr.ret <| ret_ok rfl ?_ (fun _ _ h => h)
  have hge : l.length ≤ k := by simpa using hc9
  rw [hI1, List.drop_eq_nil_of_le hge]
  rfl
theorem sc_has_arr (fq : FuncId) (ws : List IV) (pre : List (Nat × HO)) (hon : onlyHp (pre.map (·.1)) pre = true) (hent : enters Tryz.prog fq) (p : Ar → Bool) (l : List Ar) (h : ∀ x ∈ l, SC Tryz.prog fq ((.pv (.agg x.enc)) :: ws) pre (fun _ => True) (iBool (p x)) pre) : SC Tryz.prog 147 [.pv (arrs l), .fn (.func fq) [] ws] pre (fun _ => True) (iBool (l.any p)) pre := by
  refine SC.of Tryz.func147 rfl (lb rfl) fun F ρ w => ?_
  refine tQ <| tG <| sm 1 rfl <| nL <| tQ <| tG <| sm 2 rfl <| cE rfl (ok_callr (sc_idx_arr fq ws pre hon hent p l h) ent151 rfl rfl (Subs.refl _ _) (fun _ _ h => h) (by rfl) (fun k (h : _) => .inr trivial) rfl (by assumption)) <| sm 2 rfl <| nL <| Tr.ret <| ret_ok rfl ?_ (fun k o h => post_same rfl k o h)
  exact congrArg (fun b => iBool b) (idxP_any p l 0 (Int.le_refl 0))
theorem sc_idx_flow (fq : FuncId) (ws : List IV) (pre : List (Nat × HO)) (hon : onlyHp (pre.map (·.1)) pre = true) (hent : enters Tryz.prog fq) (p : Fl → Bool) (l : List Fl) (h : ∀ x ∈ l, SC Tryz.prog fq ((.pv (.agg x.enc)) :: ws) pre (fun _ => True) (iBool (p x)) pre) : SC Tryz.prog 76 [.pv (flws l), .fn (.func fq) [] ws] pre (fun _ => True) (iInt (idxP p l 0)) pre := by
  refine SC.of Tryz.func76 rfl (lb rfl) fun F ρ w => ?_
  refine Tr.lenOf (t := 0) rfl (fun hl => ?_)
  simp only [List.length_map] at hl
  refine tQ <| tG <| sm 1 rfl <| nL <| tQ <| tQ <| tG <| sm 1 rfl <| cV rfl (oSm Tryz.underlying23 rfl) <| sm 1 rfl <| nL <| Tr.block ?_
  refine Tr.sub (Sub.of (fr' := [(8, iInt 0), (7, iInt l.length), (0, .pv (flws l)), (1, .fn (.func fq) [] ws)]) ⟨rfl, rfl, rfl, rfl, trivial⟩) ?_
  refine Tr.loop (fun fr σ m => ∃ (k : Nat), (k ≤ l.length) ∧ (idxP p l 0 = idxP p (l.drop k) k) ∧ fr = [(8, iInt k), (7, iInt l.length), (0, .pv (flws l)), (1, .fn (.func fq) [] ws)] ∧ σ = look (up pre) ∧ m = l.length - k) (n := l.length - 0) ?_ ?_
  ·exact ⟨0, Nat.zero_le _, rfl, rfl, rfl, rfl⟩
  rintro fr σ m ⟨k, hI0, hI1, rfl, rfl, rfl⟩
  refine tQ <| tG <| sm 1 rfl <| nL <| tQ ?_
  refine tC rfl (fun hc9 => ?_) fun hc9 => ?_
  ·have hlt : k < l.length := by simpa using hc9
   have hd := List.drop_eq_getElem_cons hlt
   have hm := List.getElem_mem hlt
   have hi := map_get (f := Fl.enc) (List.getElem?_eq_getElem hlt)
   generalize l[k] = x at hd hm hi
   refine Tr.skip <| tQ <| Tr.block <| tQ <| tG <| sm 2 rfl <| nL <| tQ <| tG <| sm 3 rfl <| cV rfl (ok_index_seq rfl rfl rfl Tryz.underlying23 hi tS41 rfl (by rfl)) <| cV rfl (ok_load_ept_agg rfl rfl Tryz.underlying41 rfl tS41 (lb rfl)) ?_
   refine cE rfl (ok_callv (h x hm) hent rfl rfl rfl (Subs.refl _ _) (fun _ _ h => h) (by rfl) (fun k (h : _) => trivial) rfl (by assumption)) <| nL ?_
   refine tC rfl (fun hc16 => ?_) fun hc16 => ?_
   ·refine tQ <| tG <| sm 2 rfl <| nL <| Tr.ret <| ret_ok rfl ?_ (fun k o h => post_same rfl k o h)
    have hx : p x = true := by simpa using hc16
    rw [hI1, hd]
    simp only [idxP, hx, if_true]
   refine Tr.skip <| tG <| cV rfl (oB rfl rfl (i64_add rfl (by omega))) <| sm 1 rfl <| nL ?_
   refine ⟨_, _, ?_, Sub.of (fr' := [(8, iInt (k + 1)), (7, iInt l.length), (0, .pv (flws l)), (1, .fn (.func fq) [] ws)]) ⟨rfl, rfl, rfl, rfl, trivial⟩, (k + 1), ?_, ?_, rfl, (look_app_same rfl), rfl⟩
   ·omega
   ·omega
   rw [hI1, hd]
   have hx : p x = false := by simpa using hc16
   simp only [idxP, hx, Bool.false_eq_true, if_false]
   rfl
  refine Tr.exit <| tQ <| tG <| sm 1 rfl <| nL <| Tr.ret <| ret_ok rfl ?_ (fun _ _ h => h)
  have hge : l.length ≤ k := by simpa using hc9
  rw [hI1, List.drop_eq_nil_of_le hge]
  rfl
theorem sc_eqf (fq : FuncId) (ws : List IV) (S : Type) (H : S → List (Nat × HO)) (ks : List Nat) (hks : ∀ s, (H s).map (·.1) = ks) (hon : ∀ s, onlyHp ((H s).map (·.1)) (H s) = true) (hent : enters Tryz.prog fq) (p : S → Int → Int → Bool × S) (R : Nat → Prop) (G : S → Prop) (hG : ∀ s x y, G s → G (p s x y).2) (h : ∀ s x y, G s → SC Tryz.prog fq (iInt x :: iInt y :: ws) (H s) R (iBool (p s x y).1) (H (p s x y).2)) (s : S) (hs : G s) (a b : List Int) : SC Tryz.prog 142 [.pv (ints a), .pv (ints b), .fn (.func fq) [] ws] (H s) (R) (iBool (eqf p s a b).1) (H (eqf p s a b).2) := by
  refine SC.of Tryz.func142 rfl (lb rfl) fun F ρ w => ?_
  refine Tr.lenOf (t := 0) rfl (fun hl => ?_)
  simp only [List.length_map] at hl
  refine Tr.lenOf (t := 1) rfl (fun hl2 => ?_)
  simp only [List.length_map] at hl2
  refine tQ <| tG <| sm 1 rfl <| nL <| tQ <| tQ <| tG <| sm 1 rfl <| cV rfl (oSm Tryz.underlying35 rfl) <| sm 1 rfl <| cV rfl (oSm Tryz.underlying35 rfl) <| sm 1 rfl ?_
  refine nL ?_
  refine tC rfl (fun hc14 => ?_) fun hc14 => ?_
  ·refine tQ <| tG <| sm 1 rfl <| nL <| Tr.ret ?_
   have hne : ¬ (a.length : Int) = b.length := by simpa using hc14
   have he : eqf p s a b = (false, s) := by simp only [eqf, hne, if_false]
   rw [he]
   exact ret_ok rfl rfl (fun _ _ h => h)
  have hlen : a.length = b.length := by simp at hc14; omega
  have hlz : (a.length : Int) = b.length := by omega
  refine Tr.skip <| tQ <| tQ <| tG <| sm 1 rfl <| cV rfl (oSm Tryz.underlying35 rfl) <| sm 1 rfl <| nL <| Tr.block <| Tr.sub (Sub.of (fr' := [(17, iInt 0), (16, iInt a.length), (15, .pv (ints a)), (0, .pv (ints a)), (1, .pv (ints b)), (2, .fn (.func fq) [] ws)]) ⟨rfl, rfl, rfl, rfl, rfl, rfl, trivial⟩) ?_
  refine Tr.loop (fun fr σ m => ∃ (k : Nat) (st : S), (k ≤ a.length) ∧ (eqGo p s a b = eqGo p st (a.drop k) (b.drop k)) ∧ (G st) ∧ fr = [(17, iInt k), (16, iInt a.length), (15, .pv (ints a)), (0, .pv (ints a)), (1, .pv (ints b)), (2, .fn (.func fq) [] ws)] ∧ σ = look (up (H st)) ∧ m = a.length - k) (n := a.length - 0) ?_ ?_
  ·exact ⟨0, s, Nat.zero_le _, rfl, hs, rfl, rfl, rfl⟩
  rintro fr σ m ⟨k, st, hI0, hI1, hI2, rfl, rfl, rfl⟩
  refine tQ <| tG <| sm 1 rfl <| nL <| tQ ?_
  refine tC rfl (fun hc18 => ?_) fun hc18 => ?_
  ·have hlt : k < a.length := by simpa using hc18
   have hd := List.drop_eq_getElem_cons hlt
   have hm := List.getElem_mem hlt
   have hi := map_get (f := eInt) (List.getElem?_eq_getElem hlt)
   generalize a[k] = x at hd hm hi
   have hltw : k < b.length := by omega
   have hdw := List.drop_eq_getElem_cons hltw
   have hw := map_get (f := eInt) (List.getElem?_eq_getElem hltw)
   generalize b[k] = y at hdw hw
   have hdom := (hks st).trans (hks (p st x y).2).symm
   have hon2 := hon (p st x y).2
   refine Tr.skip <| tQ <| Tr.block <| tQ <| tG <| sm 1 rfl <| cV rfl (ok_index_seq rfl rfl rfl Tryz.underlying35 hi tS3 rfl (by rfl)) <| sm 3 rfl <| nL <| tQ <| tG <| sm 2 rfl ?_
   refine cV rfl (ok_index_seq rfl rfl rfl Tryz.underlying35 hw tS3 rfl (by rfl)) <| sm 2 rfl <| nL <| tQ <| tG <| sm 3 rfl <| cE rfl (ok_callv (h st x y hI2) hent rfl rfl rfl (Subs.refl _ _) (fun _ _ h => h) (by assumption) (fun k (h : _) => h) rfl (by assumption)) <| sm 1 rfl <| nL ?_
   refine tC rfl (fun hc30 => ?_) fun hc30 => ?_
   ·refine tQ <| tG <| sm 1 rfl <| nL <| Tr.ret ?_
    have hx : (p st x y).1 = false := by simpa using hc30
    have he : eqf p s a b = (false, (p st x y).2) := by simp only [eqf, hlz, if_true, hI1, hd, hdw, eqGo, hx, Bool.false_eq_true, if_false]
    rw [he]
    exact ret_ok rfl rfl (fun k o h => post_same ((hks _).trans (hks _).symm) k o h)
   refine Tr.skip <| tG <| cV rfl (oB rfl rfl (i64_add rfl (by omega))) <| sm 1 rfl <| nL ?_
   refine ⟨_, _, ?_, Sub.of (fr' := [(17, iInt (k + 1)), (16, iInt a.length), (15, .pv (ints a)), (0, .pv (ints a)), (1, .pv (ints b)), (2, .fn (.func fq) [] ws)]) ⟨rfl, rfl, rfl, rfl, rfl, rfl, trivial⟩, (k + 1), (p st x y).2, ?_, ?_, ?_, rfl, (look_app_same ((hks _).trans (hks _).symm)), rfl⟩
   ·omega
   ·omega
   ·rw [hI1, hd, hdw]
    have hx : (p st x y).1 = true := by simpa using hc30
    simp only [eqGo, hx, if_true]
   exact hG _ _ _ hI2
  refine Tr.exit <| tQ <| tG <| sm 1 rfl <| nL <| Tr.ret ?_
  have hge : a.length ≤ k := by simpa using hc18
  have he : eqf p s a b = (true, st) := by simp only [eqf, hlz, if_true, hI1, List.drop_eq_nil_of_le hge, eqGo]
  rw [he]
  exact ret_ok rfl rfl (fun _ _ h => h)
theorem sc_isTy (t : Int) : SC Tryz.prog 47 [iInt t] [] (fun _ => False) (iBool (isTy t)) [] := by
  refine SC.of Tryz.func47 rfl (lb rfl) fun F ρ w => ?_
  refine tQ <| tG <| sm 1 rfl <| nL <| tQ <| tG <| sm 3 rfl ?_
  refine wS 5 rfl (fun hb5 => ?_) fun hb5 => ?_
  ·refine sm 4 rfl <| nL <| Tr.ret <| ret_ok rfl ?_ no_post
   simp_all [isTy]
  refine sm 4 rfl <| nL <| Tr.ret <| ret_ok rfl ?_ no_post
  simp_all [isTy]
theorem sc_flow1 (t : Int) : SC Tryz.prog 50 [iInt t] [] (fun _ => False) (iBool (!isTy t)) [] := by
  refine SC.of Tryz.func50 rfl (lb rfl) fun F ρ w => ?_
  refine tQ <| tG <| sm 1 rfl <| nL <| tQ <| tG <| sm 1 rfl <| cE rfl (ocq (sc_isTy _) ent47 rfl rfl) <| sm 2 rfl <| nL <| Tr.ret <| ret_ok rfl ?_ no_post
  rfl
theorem sc_shEnds (x : Nd) : SC Tryz.prog 108 [.pv (ndv x)] [] (fun _ => False) (iBool (r8Ender x.kind)) [] := by
  refine SC.of Tryz.func108 rfl (lb rfl) fun F ρ w => ?_
  refine tQ <| tG <| cE rfl (ok_box rfl rfl) <| sm 1 rfl <| nL <| tQ <| tG <| sm 4 rfl ?_
  refine wS 6 rfl (fun hb6 => ?_) fun hb6 => ?_
  ·refine sm 5 rfl <| nL <| Tr.ret <| ret_ok rfl ?_ no_post
   unfold r8Ender
   simp_all <;> omega
  refine sm 5 rfl <| nL <| Tr.ret <| ret_ok rfl ?_ no_post
  unfold r8Ender
  simp_all <;> omega
theorem sc_shYields (l : List Nd) : SC Tryz.prog 111 [.pv (nodes l)] [] (fun _ => False) (iBool (shYields l)) [] := by
  refine SC.of Tryz.func111 rfl (lb rfl) fun F ρ w => ?_
  refine Tr.lenOf (t := 0) rfl (fun hl => ?_)
  simp only [List.length_map] at hl
  refine tQ <| tG <| sm 1 rfl <| nL <| tQ <| tG <| sm 1 rfl <| cV rfl (oSm Tryz.underlying39 rfl) <| sm 2 rfl ?_
  refine wS 6 rfl (fun hb6 => ?_) fun hb6 => ?_
  ·have hpos : 0 < l.length := by simp at hb6; omega
   have hlt : l.length - 1 < l.length := by omega
   have hi := nodes_get (List.getElem?_eq_getElem hlt)
   have hlast : l.getLast? = some l[l.length - 1] := by rw [List.getLast?_eq_getElem?]; exact List.getElem?_eq_getElem hlt
   generalize l[l.length - 1] = x at hi hlast
   have hsub : (l.length : Int) - 1 = ((l.length - 1 : Nat) : Int) := by omega
   refine sm 2 rfl <| yV rfl rfl (oSm Tryz.underlying39 rfl) <| yV rfl rfl (oB rfl rfl (i64_sub rfl (by omega))) <| WL.sub (Sub.of (fr' := [(10, iInt ((l.length - 1 : Nat) : Int)), (7, .pv (nodes l)), (6, iBool true)]) ⟨by rw [← hsub]; rfl, rfl, rfl, trivial⟩) <| yV rfl rfl (ok_index_seq rfl rfl rfl Tryz.underlying39 (by assumption) tS38 rfl (by rfl)) <| sm 5 rfl <| nL <| Tr.ret <| ret_ok rfl ?_ no_post
   refine congrArg (fun b => iBool b) ?_
   simp [shYields, hlast]
  refine sm 10 rfl <| nL <| Tr.ret <| ret_ok rfl ?_ no_post
  refine congrArg (fun b => iBool b) ?_
  (have h0 : l = [] := by cases l <;> simp_all <;> omega
   subst h0; rfl)
theorem sc_shOperand (op : Int) : SC Tryz.prog 145 [iInt op] [] (fun _ => False) (.tup [iInt (shOperand op).1, iInt (shOperand op).2]) [] := by
  refine SC.of Tryz.func145 rfl (lb rfl) fun F ρ w => ?_
  refine tQ <| tG <| sm 2 rfl <| nL <| tQ <| tQ <| tG <| sm 1 rfl <| nL <| Tr.block <| tQ <| tG ?_
  refine sm 2 rfl <| nL ?_
  refine tC rfl (fun hc5 => ?_) fun hc5 => ?_
  ·refine tQ <| tG <| sm 2 rfl <| nL <| Tr.ret <| ret_ok rfl ?_ no_post
   first | (simp_all [shOperand]; done) | (simp_all [shOperand]; split <;> first | omega | (simp; done))
  refine tQ <| tQ <| tG <| sm 2 rfl <| nL ?_
  refine tC rfl (fun hc7 => ?_) fun hc7 => ?_
  ·refine Tr.skip ?_
   refine tC rfl (fun hc7 => ?_) fun hc7 => ?_
   ·refine tQ <| tG <| sm 2 rfl <| nL <| Tr.ret <| ret_ok rfl ?_ no_post
    first | (simp_all [shOperand]; done) | (simp_all [shOperand]; split <;> first | omega | (simp; done))
   refine tQ <| tQ <| tG <| sm 2 rfl <| nL ?_
   refine tC rfl (fun hc10 => ?_) fun hc10 => ?_
   ·refine Tr.skip ?_
    refine tC rfl (fun hc10 => ?_) fun hc10 => ?_
    ·refine tQ <| tG <| sm 2 rfl <| nL <| Tr.ret <| ret_ok rfl ?_ no_post
     first | (simp_all [shOperand]; done) | (simp_all [shOperand]; split <;> first | omega | (simp; done))
    refine Tr.skip <| tQ <| tG <| sm 2 rfl <| nL <| Tr.ret <| ret_ok rfl ?_ no_post
    first | (simp_all [shOperand]; done) | (simp_all [shOperand]; split <;> first | omega | (simp; done))
   refine tQ <| tG <| sm 2 rfl <| nL ?_
   refine tC rfl (fun hc10 => ?_) fun hc10 => ?_
   ·refine Tr.skip ?_
    refine tC rfl (fun hc10 => ?_) fun hc10 => ?_
    ·refine tQ <| tG <| sm 2 rfl <| nL <| Tr.ret <| ret_ok rfl ?_ no_post
     first | (simp_all [shOperand]; done) | (simp_all [shOperand]; split <;> first | omega | (simp; done))
    refine Tr.skip <| tQ <| tG <| sm 2 rfl <| nL <| Tr.ret <| ret_ok rfl ?_ no_post
    first | (simp_all [shOperand]; done) | (simp_all [shOperand]; split <;> first | omega | (simp; done))
   refine tQ <| tG <| sm 2 rfl <| nL ?_
   refine tC rfl (fun hc10 => ?_) fun hc10 => ?_
   ·refine Tr.skip ?_
    refine tC rfl (fun hc10 => ?_) fun hc10 => ?_
    ·refine tQ <| tG <| sm 2 rfl <| nL <| Tr.ret <| ret_ok rfl ?_ no_post
     first | (simp_all [shOperand]; done) | (simp_all [shOperand]; split <;> first | omega | (simp; done))
    refine Tr.skip <| tQ <| tG <| sm 2 rfl <| nL <| Tr.ret <| ret_ok rfl ?_ no_post
    first | (simp_all [shOperand]; done) | (simp_all [shOperand]; split <;> first | omega | (simp; done))
   refine tG <| sm 2 rfl <| nL ?_
   refine tC rfl (fun hc10 => ?_) fun hc10 => ?_
   ·refine tQ <| tG <| sm 2 rfl <| nL <| Tr.ret <| ret_ok rfl ?_ no_post
    first | (simp_all [shOperand]; done) | (simp_all [shOperand]; split <;> first | omega | (simp; done))
   refine Tr.skip <| tQ <| tG <| sm 2 rfl <| nL <| Tr.ret <| ret_ok rfl ?_ no_post
   first | (simp_all [shOperand]; done) | (simp_all [shOperand]; split <;> first | omega | (simp; done))
  refine tG <| sm 2 rfl <| nL ?_
  refine tC rfl (fun hc7 => ?_) fun hc7 => ?_
  ·refine tQ <| tG <| sm 2 rfl <| nL <| Tr.ret <| ret_ok rfl ?_ no_post
   first | (simp_all [shOperand]; done) | (simp_all [shOperand]; split <;> first | omega | (simp; done))
  refine tQ <| tQ <| tG <| sm 2 rfl <| nL ?_
  refine tC rfl (fun hc10 => ?_) fun hc10 => ?_
  ·refine Tr.skip ?_
   refine tC rfl (fun hc10 => ?_) fun hc10 => ?_
   ·refine tQ <| tG <| sm 2 rfl <| nL <| Tr.ret <| ret_ok rfl ?_ no_post
    first | (simp_all [shOperand]; done) | (simp_all [shOperand]; split <;> first | omega | (simp; done))
   refine Tr.skip <| tQ <| tG <| sm 2 rfl <| nL <| Tr.ret <| ret_ok rfl ?_ no_post
   first | (simp_all [shOperand]; done) | (simp_all [shOperand]; split <;> first | omega | (simp; done))
  refine tQ <| tG <| sm 2 rfl <| nL ?_
  refine tC rfl (fun hc10 => ?_) fun hc10 => ?_
  ·refine Tr.skip ?_
   refine tC rfl (fun hc10 => ?_) fun hc10 => ?_
   ·refine tQ <| tG <| sm 2 rfl <| nL <| Tr.ret <| ret_ok rfl ?_ no_post
    first | (simp_all [shOperand]; done) | (simp_all [shOperand]; split <;> first | omega | (simp; done))
   refine Tr.skip <| tQ <| tG <| sm 2 rfl <| nL <| Tr.ret <| ret_ok rfl ?_ no_post
   first | (simp_all [shOperand]; done) | (simp_all [shOperand]; split <;> first | omega | (simp; done))
  refine tQ <| tG <| sm 2 rfl <| nL ?_
  refine tC rfl (fun hc10 => ?_) fun hc10 => ?_
  ·refine Tr.skip ?_
   refine tC rfl (fun hc10 => ?_) fun hc10 => ?_
   ·refine tQ <| tG <| sm 2 rfl <| nL <| Tr.ret <| ret_ok rfl ?_ no_post
    first | (simp_all [shOperand]; done) | (simp_all [shOperand]; split <;> first | omega | (simp; done))
   refine Tr.skip <| tQ <| tG <| sm 2 rfl <| nL <| Tr.ret <| ret_ok rfl ?_ no_post
   first | (simp_all [shOperand]; done) | (simp_all [shOperand]; split <;> first | omega | (simp; done))
  refine tG <| sm 2 rfl <| nL ?_
  refine tC rfl (fun hc10 => ?_) fun hc10 => ?_
  ·refine tQ <| tG <| sm 2 rfl <| nL <| Tr.ret <| ret_ok rfl ?_ no_post
   first | (simp_all [shOperand]; done) | (simp_all [shOperand]; split <;> first | omega | (simp; done))
  refine Tr.skip <| tQ <| tG <| sm 2 rfl <| nL <| Tr.ret <| ret_ok rfl ?_ no_post
  first | (simp_all [shOperand]; done) | (simp_all [shOperand]; split <;> first | omega | (simp; done))
theorem sc_shLeaves1 (x : Nd) (ih : ∀ q ∈ x.kids, SC Tryz.prog 112 [.pv (nodes q)] [] (fun _ => False) (iBool (r8Leaves q)) []) : SC Tryz.prog 133 [.pv (ndv x)] [] (fun _ => False) (iBool (r8LeavesN x)) [] := by
  refine SC.of Tryz.func133 rfl (lb rfl) fun F ρ w => ?_
  refine tQ <| tG <| cE rfl (ok_box rfl rfl) <| sm 1 rfl <| nL <| tQ <| tG <| sm 4 rfl ?_
  refine wS 6 rfl (fun hb6 => ?_) fun hb6 => ?_
  ·refine sm 4 rfl <| WL.noU rfl rfl rfl rfl rfl rfl <| WL.noU rfl rfl rfl rfl rfl rfl <| WL.noU rfl rfl rfl rfl rfl rfl <| sm 3 rfl <| nL <| Tr.ret <| ret_ok rfl ?_ no_post
   rw [r8LeavesN_eq, r8LeavesK_any]
   simp_all
  refine sm 4 rfl ?_
  refine wS 10 rfl (fun hb10 => ?_) fun hb10 => ?_
  ·refine sm 2 rfl <| WL.yes rfl rfl rfl rfl rfl rfl (ok_callq (sc_has_kid 112 [] [] rfl ent112 r8Leaves x.kids (fun q hq => (ih q hq).anyR)) ent134 rfl rfl (Subs.same rfl (Subs.cons (fun _ _ _ _ h => sub_func h) Subs.nil)) rfl) <| sm 3 rfl <| nL <| Tr.ret <| ret_ok rfl ?_ no_post
   rw [r8LeavesN_eq, r8LeavesK_any]
   simp_all
  refine sm 6 rfl <| nL <| Tr.ret <| ret_ok rfl ?_ no_post
  rw [r8LeavesN_eq, r8LeavesK_any]
  simp_all
theorem sc_shLeaves_aux (N : Nat) : ∀ (l : List Nd), SizeOf.sizeOf l < N → SC Tryz.prog 112 [.pv (nodes l)] [] (fun _ => False) (iBool (r8Leaves l)) [] := by
  induction N with
  | zero => intro l hN; exact absurd hN (Nat.not_lt_zero _)
  | succ N ih =>
    intro l hN
    refine SC.of Tryz.func112 rfl (lb rfl) fun F ρ w => ?_
    refine tQ <| tG <| sm 1 rfl <| nL <| tQ <| tG <| sm 1 rfl <| cE rfl (ok_callq (sc_has_node 133 [] [] rfl ent133 r8LeavesN l (fun x hm => (sc_shLeaves1 x (fun q hq => ih q (Nat.lt_of_lt_of_le (kid_lt hm rfl hq) (Nat.le_of_lt_succ hN)))).anyR)) ent132 rfl rfl (Subs.same rfl (Subs.cons (fun _ _ _ _ h => sub_func h) Subs.nil)) rfl) <| sm 1 rfl <| nL <| Tr.ret <| ret_ok rfl ?_ no_post
    rw [r8Leaves_any]
theorem sc_shLeaves (l : List Nd) : SC Tryz.prog 112 [.pv (nodes l)] [] (fun _ => False) (iBool (r8Leaves l)) [] := sc_shLeaves_aux _ l (Nat.lt_succ_self _)
theorem sc_shClosed (x : Nd) : SC Tryz.prog 80 [.pv (ndv x)] [] (fun _ => False) (iBool (r8Closed x)) [] := by
  refine SC.of Tryz.func80 rfl (lb rfl) fun F ρ w => ?_
  refine tQ <| tG <| cE rfl (ok_box rfl rfl) <| sm 1 rfl <| nL <| tQ <| Tr.block <| tQ <| tG <| sm 4 rfl ?_
  refine wS 7 rfl (fun hb7 => ?_) fun hb7 => ?_
  ·refine sm 2 rfl <| yV rfl rfl (oSm Tryz.underlying36 rfl) <| sm 3 rfl <| nL ?_
   refine tC rfl (fun hc3 => ?_) fun hc3 => ?_
   ·have hl : x.kids.length = 2 := by first | (simp_all; done) | (simp_all; omega)
    have h10 : x.kind = 10 := by simp_all
    have hi0 : (x.kids.map eKid)[0]? = some [nodes (kid0 x.kids)] := by rw [List.getElem?_map]; simp [kid0, eKid, hl]
    have hi1 : (x.kids.map eKid)[1]? = some [nodes (kid1 x.kids)] := by rw [List.getElem?_map]; simp [kid1, eKid, hl]
    refine tQ <| tG <| sm 2 rfl <| cV rfl (ok_index_seq rfl rfl rfl Tryz.underlying36 hi0 tS39 rfl (by rfl)) <| sm 1 rfl <| cE rfl (ocq (sc_shYields _) ent111 rfl rfl) <| sm 2 rfl ?_
    refine wS 19 rfl (fun hb19 => ?_) fun hb19 => ?_
    ·refine sm 2 rfl <| yV rfl rfl (ok_index_seq rfl rfl rfl Tryz.underlying36 hi1 tS39 rfl (by rfl)) <| sm 1 rfl <| WL.yes rfl rfl rfl rfl rfl rfl (ok_callq (sc_shYields _) ent111 rfl rfl (Subs.refl _ _) rfl) <| sm 3 rfl <| nL <| Tr.ret <| ret_ok rfl ?_ no_post
     simp_all [r8Closed, shYields_eq]
    refine sm 8 rfl <| nL <| Tr.ret <| ret_ok rfl ?_ no_post
    simp_all [r8Closed, shYields_eq]
   refine tQ <| tG <| sm 4 rfl ?_
   refine wS 31 rfl (fun hb31 => ?_) fun hb31 => ?_
   ·refine sm 2 rfl <| yV rfl rfl (oSm Tryz.underlying36 rfl) <| sm 3 rfl <| nL ?_
    refine tC rfl (fun hc27 => ?_) fun hc27 => ?_
    ·have hl : x.kids.length = 1 := by first | (simp_all; done) | (simp_all; omega)
     have h11 : x.kind = 11 := by simp_all
     have hi0 : (x.kids.map eKid)[0]? = some [nodes (kid0 x.kids)] := by rw [List.getElem?_map]; simp [kid0, eKid, hl]
     refine tQ <| tG <| sm 2 rfl <| cV rfl (ok_index_seq rfl rfl rfl Tryz.underlying36 hi0 tS39 rfl (by rfl)) <| sm 1 rfl <| cE rfl (ocq (sc_shLeaves _) ent112 rfl rfl) <| sm 2 rfl <| nL <| Tr.ret <| ret_ok rfl ?_ no_post
     simp_all [r8Closed, shYields_eq]
    refine Tr.skip <| tQ <| tG <| cV rfl (ok_load_ept_agg rfl rfl Tryz.underlying38 rfl tS38 (lb rfl)) <| cE rfl (ocq (sc_shEnds x) ent108 rfl rfl) <| sm 1 rfl <| nL <| Tr.ret <| ret_ok rfl ?_ no_post
    simp_all [r8Closed, shYields_eq]
   refine sm 6 rfl <| nL <| Tr.condF rfl <| Tr.skip <| tQ <| tG <| cV rfl (ok_load_ept_agg rfl rfl Tryz.underlying38 rfl tS38 (lb rfl)) <| cE rfl (ocq (sc_shEnds x) ent108 rfl rfl) <| sm 1 rfl <| nL <| Tr.ret <| ret_ok rfl ?_ no_post
   simp_all [r8Closed, shYields_eq]
  refine sm 6 rfl <| nL <| Tr.condF rfl <| tQ <| tG <| sm 4 rfl ?_
  refine wS 31 rfl (fun hb31 => ?_) fun hb31 => ?_
  ·refine sm 2 rfl <| yV rfl rfl (oSm Tryz.underlying36 rfl) <| sm 3 rfl <| nL ?_
   refine tC rfl (fun hc27 => ?_) fun hc27 => ?_
   ·have hl : x.kids.length = 1 := by first | (simp_all; done) | (simp_all; omega)
    have h11 : x.kind = 11 := by simp_all
    have hi0 : (x.kids.map eKid)[0]? = some [nodes (kid0 x.kids)] := by rw [List.getElem?_map]; simp [kid0, eKid, hl]
    refine tQ <| tG <| sm 2 rfl <| cV rfl (ok_index_seq rfl rfl rfl Tryz.underlying36 hi0 tS39 rfl (by rfl)) <| sm 1 rfl <| cE rfl (ocq (sc_shLeaves _) ent112 rfl rfl) <| sm 2 rfl <| nL <| Tr.ret <| ret_ok rfl ?_ no_post
    simp_all [r8Closed, shYields_eq]
   refine Tr.skip <| tQ <| tG <| cV rfl (ok_load_ept_agg rfl rfl Tryz.underlying38 rfl tS38 (lb rfl)) <| cE rfl (ocq (sc_shEnds x) ent108 rfl rfl) <| sm 1 rfl <| nL <| Tr.ret <| ret_ok rfl ?_ no_post
   simp_all [r8Closed, shYields_eq]
  refine sm 6 rfl <| nL <| Tr.condF rfl <| Tr.skip <| tQ <| tG <| cV rfl (ok_load_ept_agg rfl rfl Tryz.underlying38 rfl tS38 (lb rfl)) <| cE rfl (ocq (sc_shEnds x) ent108 rfl rfl) <| sm 1 rfl <| nL <| Tr.ret <| ret_ok rfl ?_ no_post
  simp_all [r8Closed, shYields_eq]
theorem sc_shPlace1 (x : Fl) (s : ByteArray) : SC Tryz.prog 77 [.pv (.agg x.enc), .pv (.ept [vStr s] 0)] [] (fun _ => False) (iBool (x.name.toList == s.toList)) [] := by
  refine SC.of Tryz.func77 rfl (lb rfl) fun F ρ w => ?_
  refine tQ <| tG <| cE rfl (ok_box rfl rfl) <| sm 1 rfl <| nL <| tQ <| tG <| sm 3 rfl <| cV rfl (ok_bin_str rfl rfl rfl rfl) <| sm 1 rfl <| nL <| Tr.ret <| ret_ok rfl ?_ no_post
  rfl
theorem sc_shPlace (u : Un) (s : ByteArray) : SC Tryz.prog 48 [.pv u.enc, iStr s] [] (fun _ => False) (iInt (r8Place s u.flows 0)) [] := by
  refine SC.of Tryz.func48 rfl (lb rfl) fun F ρ w => ?_
  refine tQ <| tG <| cE rfl (ok_box rfl rfl) <| cE rfl (ok_box1 rfl rfl rfl) <| sm 1 rfl <| nL <| tQ <| tG <| sm 2 rfl <| cV rfl (ok_makeFunc rfl rfl rfl) <| cE rfl (ocq (sc_idx_flow 77 [.pv (.ept [vStr s] 0)] [] rfl ent77 (fun f : Fl => f.name.toList == s.toList) u.flows (fun x hm => (sc_shPlace1 x s).anyR)) ent76 rfl rfl) <| sm 1 rfl ?_
  refine nL <| Tr.ret <| ret_ok rfl ?_ no_post
  rw [idxP_place]
theorem sc_shHas1 (x : Ar) (s : ByteArray) : SC Tryz.prog 148 [.pv (.agg x.enc), .pv (.ept [vStr s] 0)] [] (fun _ => False) (iBool (x.name.toList == s.toList)) [] := by
  refine SC.of Tryz.func148 rfl (lb rfl) fun F ρ w => ?_
  refine tQ <| tG <| cE rfl (ok_box rfl rfl) <| sm 1 rfl <| nL <| tQ <| tG <| sm 3 rfl <| cV rfl (ok_bin_str rfl rfl rfl rfl) <| sm 1 rfl <| nL <| Tr.ret <| ret_ok rfl ?_ no_post
  rfl
theorem sc_shHas (u : Un) (s : ByteArray) : SC Tryz.prog 131 [.pv u.enc, iStr s] [] (fun _ => False) (iBool (decide (r8Array s u.arrays 0 ≥ 0))) [] := by
  refine SC.of Tryz.func131 rfl (lb rfl) fun F ρ w => ?_
  refine tQ <| tG <| cE rfl (ok_box rfl rfl) <| cE rfl (ok_box1 rfl rfl rfl) <| sm 1 rfl <| nL <| tQ <| tG <| sm 2 rfl <| cV rfl (ok_makeFunc rfl rfl rfl) <| cE rfl (ocq (sc_has_arr 148 [.pv (.ept [vStr s] 0)] [] rfl ent148 (fun f : Ar => f.name.toList == s.toList) u.arrays (fun x hm => (sc_shHas1 x s).anyR)) ent147 rfl rfl) <| sm 1 rfl ?_
  refine nL <| Tr.ret <| ret_ok rfl ?_ no_post
  rw [r8Array_any _ _ _ (Int.le_refl 0)]
theorem sc_shVal (u : Un) (f : Fl) (st : List Int) (v t : Int) : SC Tryz.prog 141 [.ptr 3 0, iInt v, iInt t] (ckS u f 3 st) (fun _ => True) (iBool (shVal f.types v t)) (ckS u f 3 st) := by
  refine SC.of Tryz.func141 rfl (lb rfl) fun F ρ w => ?_
  refine tQ <| tG <| sm 1 rfl <| nL <| tQ <| tG <| sm 3 rfl ?_
  refine wS 9 rfl (fun hb9 => ?_) fun hb9 => ?_
  ·refine sm 2 rfl <| yV rfl rfl (ok_nilCheck rfl rfl rfl) <| sm 3 rfl <| yV rfl rfl (oSm Tryz.underlying35 rfl) <| sm 3 rfl ?_
   refine wS 19 rfl (fun hb19 => ?_) fun hb19 => ?_
   ·refine sm 3 rfl ?_
    refine wS 22 rfl (fun hb22 => ?_) fun hb22 => ?_
    ·refine sm 13 rfl <| nL <| Tr.ret <| ret_ok rfl ?_ (fun _ _ h => h)
     refine congrArg (fun b => iBool b) ?_
     try clear hvx
     simp_all [shVal]
    have hv0 : v.toNat < f.types.length := by simp at hb9 hb19; omega
    have hvx : v = ((v.toNat : Nat) : Int) := by simp at hb9; omega
    have hty : (f.types.map eInt)[v.toNat]? = some [vInt (f.types.getD v.toNat 0)] := by rw [List.getElem?_map]; simp [eInt, List.getD, hv0]
    refine sm 1 rfl <| yV rfl rfl (ok_nilCheck rfl rfl rfl) <| sm 4 rfl <| yV rfl rfl (ok_index_seq rfl rfl rfl Tryz.underlying35 hty tS3 rfl (by omega)) <| sm 6 rfl <| nL <| Tr.ret <| ret_ok rfl ?_ (fun _ _ h => h)
    refine congrArg (fun b => iBool b) ?_
    try clear hvx
    simp_all [shVal]
   refine sm 3 rfl <| WL.noU rfl rfl rfl rfl rfl rfl <| WL.noU rfl rfl rfl rfl rfl rfl <| WL.noU rfl rfl rfl rfl rfl rfl <| WL.noU rfl rfl rfl rfl rfl rfl <| WL.noU rfl rfl rfl rfl rfl rfl <| WL.noU rfl rfl rfl rfl rfl rfl <| WL.noU rfl rfl rfl rfl rfl rfl <| WL.noU rfl rfl rfl rfl rfl rfl <| WL.noU rfl rfl rfl rfl rfl rfl <| WL.noU rfl rfl rfl rfl rfl rfl <| sm 3 rfl ?_
   refine nL <| Tr.ret <| ret_ok rfl ?_ (fun _ _ h => h)
   refine congrArg (fun b => iBool b) ?_
   try clear hvx
   (simp_all [shVal] <;> omega)
  refine sm 13 rfl <| WL.noU rfl rfl rfl rfl rfl rfl <| WL.noU rfl rfl rfl rfl rfl rfl <| WL.noU rfl rfl rfl rfl rfl rfl <| WL.noU rfl rfl rfl rfl rfl rfl <| WL.noU rfl rfl rfl rfl rfl rfl <| WL.noU rfl rfl rfl rfl rfl rfl <| WL.noU rfl rfl rfl rfl rfl rfl <| WL.noU rfl rfl rfl rfl rfl rfl <| WL.noU rfl rfl rfl rfl rfl rfl <| WL.noU rfl rfl rfl rfl rfl rfl <| sm 3 rfl ?_
  refine nL <| Tr.ret <| ret_ok rfl ?_ (fun _ _ h => h)
  refine congrArg (fun b => iBool b) ?_
  try clear hvx
  (simp_all [shVal] <;> omega)
theorem sc_shUse1 (u : Un) (f : Fl) (st : List Int) (hs : st.length = f.types.length) (v t : Int) : SC Tryz.prog 143 [iInt v, iInt t, .ptr 5 0] (ckSp u f 3 5 st) (fun _ => True) (iBool (shUse f.types st v t).1) (ckSp u f 3 5 st) := by
  refine SC.of Tryz.func143 rfl (lb rfl) fun F ρ w => ?_
  refine tQ <| tG <| sm 1 rfl <| nL <| tQ <| tG <| sm 3 rfl <| cE rfl (ocr (sc_shVal u f st v t) ent141 rfl (po2 rfl rfl) rfl (fun k (h : _) => .inr trivial) rfl rfl) <| sm 1 rfl ?_
  refine wS 10 rfl (fun hb10 => ?_) fun hb10 => ?_
  ·have hrg : 0 ≤ v ∧ v < f.types.length := by
     have hvv : shVal f.types v t = true := by simpa using hb10
     simp only [shVal, Bool.and_eq_true, decide_eq_true_eq] at hvv
     exact ⟨hvv.1.1, hvv.1.2⟩
   have hv0 : v.toNat < f.types.length := by omega
   have hvx : v = ((v.toNat : Nat) : Int) := by omega
   have hst : (st.map eInt)[v.toNat]? = some [vInt (st.getD v.toNat 0)] := by rw [List.getElem?_map]; simp [eInt, List.getD, hs, hv0]
   have hstl : v.toNat < (st.map eInt).length := by simpa [hs] using hv0
   refine sm 1 rfl <| yV rfl rfl (ok_nilCheck rfl rfl rfl) <| sm 3 rfl <| yV rfl rfl (ok_index_row rfl rfl rfl rfl rfl Tryz.underlying35 tS3 (by assumption) (by omega)) <| yV rfl rfl (ok_load_row rfl rfl rfl rfl (Nat.add_zero _).symm (by assumption) rfl Tryz.underlying3 rfl trivial) <| sm 3 rfl <| nL <| Tr.ret <| ret_ok rfl ?_ (post_ok (And.intro rfl (And.intro rfl (And.intro rfl (trivial)))))
   refine congrArg (fun b => iBool b) ?_
   try clear hvx
   simp_all [shUse]
  refine sm 10 rfl <| nL <| Tr.ret <| ret_ok rfl ?_ (post_ok (And.intro rfl (And.intro rfl (And.intro rfl (trivial)))))
  refine congrArg (fun b => iBool b) ?_
  try clear hvx
  simp_all [shUse]
theorem sc_shUses (u : Un) (f : Fl) (st : List Int) (hs : st.length = f.types.length) (l want : List Int) : SC Tryz.prog 127 [.ptr 3 0, .pv (ints l), .pv (ints want)] (ckS u f 3 st) (fun _ => True) (iBool (shUses f.types st l want)) (ckS u f 3 st) := by
  refine SC.of Tryz.func127 rfl (lb rfl) fun F ρ w => ?_
  refine tQ <| tG <| cE rfl (ok_boxOwn1 (k := 5) rfl rfl ⟨_, rfl⟩ rfl rfl rfl rfl rfl) <| sm 1 rfl <| nL <| tQ <| tG <| sm 2 rfl <| cV rfl (ok_makeFunc rfl rfl rfl) <| cE rfl (ocr (sc_eqf 143 [.ptr 5 0] (List Int) (fun s => ckSp u f 3 5 s) [5, 3, 4] (fun _ => rfl) (fun _ => rfl) ent143 (shUse f.types) (fun _ => True) (fun s => s.length = f.types.length) (fun s x y h => h) (fun s x y h => sc_shUse1 u f s h x y) st hs l want) ent142 rfl (po3 rfl rfl rfl) rfl (fun k (h : _) => .inr trivial) rfl rfl) <| sm 1 rfl <| nL ?_
  refine Tr.ret ?_
  have h2 := shUses_snd f.types st l want
  rw [h2]
  exact ret_ok rfl rfl (po2 rfl rfl)
theorem sc_shSet1 (u : Un) (f : Fl) (st : List Int) (hs : st.length = f.types.length) (v t : Int) : SC Tryz.prog 144 [iInt v, iInt t, .ptr 5 0] (ckSp u f 3 5 st) (fun k => k = 3 ∨ k = 5) (iBool (shSet1 f.types st v t).1) (ckSp u f 3 5 (shSet1 f.types st v t).2) := by
  refine SC.of Tryz.func144 rfl (lb rfl) fun F ρ w => ?_
  refine tQ <| tG <| sm 1 rfl <| nL <| tQ <| tQ <| tG <| sm 3 rfl <| cE rfl (ocr (sc_shVal u f st v t) ent141 rfl (po2 rfl rfl) rfl (fun k (h : _) => .inr trivial) rfl rfl) <| sm 2 rfl ?_
  refine wS 11 rfl (fun hb11 => ?_) fun hb11 => ?_
  ·refine sm 9 rfl <| nL <| Tr.condT rfl <| tQ <| tG <| sm 1 rfl <| nL <| Tr.ret ?_
   have h2 : shSet1 f.types st v t = (false, st) := by
     try clear hvx
     simp_all [shSet1]
   rw [h2]
   exact ret_ok rfl rfl (po3 rfl rfl rfl)
  have hrg : 0 ≤ v ∧ v < f.types.length := by
    have hvv : shVal f.types v t = true := by simpa using hb11
    simp only [shVal, Bool.and_eq_true, decide_eq_true_eq] at hvv
    exact ⟨hvv.1.1, hvv.1.2⟩
  have hv0 : v.toNat < f.types.length := by omega
  have hvx : v = ((v.toNat : Nat) : Int) := by omega
  have hst : (st.map eInt)[v.toNat]? = some [vInt (st.getD v.toNat 0)] := by rw [List.getElem?_map]; simp [eInt, List.getD, hs, hv0]
  have hstl : v.toNat < (st.map eInt).length := by simpa [hs] using hv0
  refine sm 1 rfl <| yV rfl rfl (ok_nilCheck rfl rfl rfl) <| sm 3 rfl <| yV rfl rfl (ok_index_row rfl rfl rfl rfl rfl Tryz.underlying35 tS3 (by assumption) (by omega)) <| yV rfl rfl (ok_load_row rfl rfl rfl rfl (Nat.add_zero _).symm (by assumption) rfl Tryz.underlying3 rfl trivial) <| sm 2 rfl <| nL ?_
  refine tC rfl (fun hc20 => ?_) fun hc20 => ?_
  ·refine tQ <| tG <| sm 1 rfl <| nL <| Tr.ret ?_
   have h2 : shSet1 f.types st v t = (false, st) := by
     try clear hvx
     simp_all [shSet1]
   rw [h2]
   exact ret_ok rfl rfl (po3 rfl rfl rfl)
  refine Tr.skip <| tQ <| tG <| sm 1 rfl <| cV rfl (ok_nilCheck rfl rfl rfl) <| sm 3 rfl <| cV rfl (ok_index_row rfl rfl rfl rfl rfl Tryz.underlying35 tS3 (by assumption) (by omega)) <| c0 (ok_store_row rfl rfl rfl rfl rfl (Nat.add_zero _).symm (by assumption) (by simp) tS3 rfl (by simp)) <| nL <| tQ <| tG <| sm 1 rfl ?_
  refine nL <| Tr.ret ?_
  have h2 : shSet1 f.types st v t = (true, st.set v.toNat 1) := by
    try clear hvx
    simp_all [shSet1]
  rw [h2]
  exact ret_ok rfl rfl (post_ok (And.intro rfl (And.intro (set3 rfl) (And.intro (set4 rfl) trivial))))
theorem sc_shSets (u : Un) (f : Fl) (st : List Int) (hs : st.length = f.types.length) (l want : List Int) : SC Tryz.prog 129 [.ptr 3 0, .pv (ints l), .pv (ints want)] (ckS u f 3 st) (fun k => k = 3) (iBool (shSets f.types st l want).1) (ckS u f 3 (shSets f.types st l want).2) := by
  refine SC.of Tryz.func129 rfl (lb rfl) fun F ρ w => ?_
  refine tQ <| tG <| cE rfl (ok_boxOwn1 (k := 5) rfl rfl ⟨_, rfl⟩ rfl rfl rfl rfl rfl) <| sm 1 rfl <| nL <| tQ <| tG <| sm 2 rfl <| cV rfl (ok_makeFunc rfl rfl rfl) <| cE rfl (ocr (sc_eqf 144 [.ptr 5 0] (List Int) (fun s => ckSp u f 3 5 s) [5, 3, 4] (fun _ => rfl) (fun _ => rfl) ent144 (shSet1 f.types) (fun k => k = 3 ∨ k = 5) (fun s => s.length = f.types.length) (fun s x y h => (shSet1_length f.types s x y).trans h) (fun s x y h => sc_shSet1 u f s h x y) st hs l want) ent142 rfl (po3 rfl rfl rfl) rfl (fun k (h : _) => by (subst h; first | exact .inl rfl | exact .inr rfl | exact .inr (by decide))) rfl rfl) <| sm 1 rfl <| nL ?_
  refine Tr.ret <| ret_ok rfl ?_ (post_ok (And.intro rfl (And.intro rfl (trivial))))
  rfl
theorem sc_shAll (u : Un) (f : Fl) (st : List Int) (hs : st.length = f.types.length) (l : List Int) (hb : l.length ≤ 1073741824) : SC Tryz.prog 128 [.ptr 3 0, .pv (ints l)] (ckS u f 3 st) (fun k => k = 3) (iBool (shSets f.types st l (List.replicate l.length 0)).1) (ckS u f 3 (shSets f.types st l (List.replicate l.length 0)).2) := by
  refine SC.of Tryz.func128 rfl (lb rfl) fun F ρ w => ?_
  refine tQ <| tG <| sm 1 rfl <| nL <| tQ <| tG <| sm 3 rfl <| cV rfl (oSm Tryz.underlying35 rfl) <| cE rfl (ok_makeSlice (k := 109) (s := ⟨3, 1⟩) rfl rfl rfl Tryz.underlying35 tZ3 tC3 rfl (by decide) (by omega) (by omega) rfl rfl rfl rfl) <| cE rfl (ok_lend (fun k => k = 109) (sc_shSets u f st hs l (List.replicate l.length 0)) ent129 rfl rfl (Subs.refl _ _) (And.intro LendOf.same (And.intro LendOf.same (And.intro (LendOf.row rfl rfl (by (simp; done)) (by (simp only [List.map_replicate]; rfl))) (trivial)))) (fun k h => by subst h; rfl) (po2 rfl rfl) rfl (fun k (h : _) => .inr h) ⟨_, rfl⟩ (ckS_lend (shSets_length ..))) <| sm 1 rfl <| nL ?_
  refine Tr.ret <| ret_ok rfl ?_ (post_ok (And.intro rfl (And.intro rfl (trivial))))
  rfl
theorem sc_shHide (u : Un) (f : Fl) (st : List Int) (hs : st.length = f.types.length) (l : List Int) (hin : ∀ v ∈ l, 0 ≤ v ∧ v < f.types.length) : SC Tryz.prog 81 [.ptr 3 0, .pv (ints l)] (ckS u f 3 st) (fun k => k = 3) (.tup []) (ckS u f 3 (shHide st l)) := by
  refine SC.of Tryz.func81 rfl (lb rfl) fun F ρ w => ?_
  refine Tr.lenOf (t := 1) rfl (fun hl => ?_)
  simp only [List.length_map] at hl
  refine tQ <| tG <| sm 1 rfl <| cV rfl (oSm Tryz.underlying35 rfl) <| sm 1 rfl <| nL <| Tr.block <| Tr.sub (Sub.of (fr' := [(8, iInt 0), (7, iInt l.length), (6, .pv (ints l)), (0, .ptr 3 0)]) ⟨rfl, rfl, rfl, rfl, trivial⟩) ?_
  refine Tr.loop (fun fr σ m => ∃ (k : Nat) (s : List Int), (k ≤ l.length) ∧ (shHide st l = shHide s (l.drop k)) ∧ (s.length = f.types.length) ∧ fr = [(8, iInt k), (7, iInt l.length), (6, .pv (ints l)), (0, .ptr 3 0)] ∧ σ = look (up (ckS u f 3 s)) ∧ m = l.length - k) (n := l.length - 0) ?_ ?_
  ·exact ⟨0, st, Nat.zero_le _, rfl, hs, rfl, rfl, rfl⟩
  rintro fr σ m ⟨k, s, hI0, hI1, hI2, rfl, rfl, rfl⟩
  refine tQ <| tG <| sm 1 rfl <| nL <| tQ ?_
  refine tC rfl (fun hc9 => ?_) fun hc9 => ?_
  ·have hlt : k < l.length := by simpa using hc9
   have hd := List.drop_eq_getElem_cons hlt
   have hm := List.getElem_mem hlt
   have hi := map_get (f := eInt) (List.getElem?_eq_getElem hlt)
   generalize l[k] = x at hd hm hi
   obtain ⟨hx0, hx1⟩ := hin x hm
   have hv0 : x.toNat < f.types.length := by omega
   have hvx : x = ((x.toNat : Nat) : Int) := by omega
   have hst : (s.map eInt)[x.toNat]? = some [vInt (s.getD x.toNat 0)] := by rw [List.getElem?_map]; simp [eInt, List.getD, hI2, hv0]
   have hstl : x.toNat < (s.map eInt).length := by simpa [hI2] using hv0
   refine Tr.skip <| tQ <| Tr.block <| tQ <| tG <| cV rfl (ok_index_seq rfl rfl rfl Tryz.underlying35 hi tS3 rfl (by rfl)) <| sm 2 rfl <| nL <| tG <| sm 1 rfl <| cV rfl (ok_nilCheck rfl rfl rfl) <| sm 3 rfl ?_
   refine cV rfl (ok_index_row rfl rfl rfl rfl rfl Tryz.underlying35 tS3 (by assumption) (by omega)) <| c0 (ok_store_row rfl rfl rfl rfl rfl (Nat.add_zero _).symm (by assumption) (by simp) tS3 rfl (by simp)) <| nL <| tG <| cV rfl (oB rfl rfl (i64_add rfl (by omega))) <| sm 1 rfl <| nL ?_
   refine ⟨_, _, ?_, Sub.of (fr' := [(8, iInt (k + 1)), (7, iInt l.length), (6, .pv (ints l)), (0, .ptr 3 0)]) ⟨rfl, rfl, rfl, rfl, trivial⟩, (k + 1), (s.set x.toNat 2), ?_, ?_, ?_, rfl, (funext ckS_set), rfl⟩
   ·omega
   ·omega
   ·rw [hI1, hd]; rfl
   simpa using hI2
  refine Tr.exit ?_
  have hge : l.length ≤ k := by simpa using hc9
  have h2 : shHide st l = s := by rw [hI1, List.drop_eq_nil_of_le hge]; rfl
  rw [h2]
  exact end_ok rfl rfl (fun _ _ h => h)
theorem tZ165 : ((Tryz.prog.info? 165).bind (·.zero)) = some (.agg #[.string ⟨#[]⟩, .int .i64 0, .string ⟨#[]⟩, .int .i64 0, .string ⟨#[]⟩, .int .i64 0, .string ⟨#[]⟩, .int .i64 0, .string ⟨#[]⟩, .int .i64 0, .string ⟨#[]⟩, .int .i64 0, .string ⟨#[]⟩, .int .i64 0, .string ⟨#[]⟩, .int .i64 0, .string ⟨#[]⟩, .int .i64 0, .string ⟨#[]⟩, .int .i64 0, .string ⟨#[]⟩, .int .i64 0, .string ⟨#[]⟩, .int .i64 0, .string ⟨#[]⟩, .int .i64 0, .string ⟨#[]⟩, .int .i64 0, .string ⟨#[]⟩, .int .i64 0, .string ⟨#[]⟩, .int .i64 0, .string ⟨#[]⟩, .int .i64 0, .string ⟨#[]⟩, .int .i64 0, .string ⟨#[]⟩, .int .i64 0, .string ⟨#[]⟩, .int .i64 0, .string ⟨#[]⟩, .int .i64 0, .string ⟨#[]⟩, .int .i64 0, .string ⟨#[]⟩, .int .i64 0, .string ⟨#[]⟩, .int .i64 0, .string ⟨#[]⟩, .int .i64 0, .string ⟨#[]⟩, .int .i64 0, .string ⟨#[]⟩, .int .i64 0, .string ⟨#[]⟩, .int .i64 0, .string ⟨#[]⟩, .int .i64 0]) := by kernel_rfl
theorem tS165 : (Tryz.prog.info? 165).map (·.size) = some 58 := by kernel_rfl
theorem sc_rowOf (op : Int) : SC Tryz.prog 120 [iInt op] [] (fun _ => False) (.pv (.agg [vStr (wSign op), vInt (wLevel op)])) [] := by
  refine SC.ofC Tryz.func120 rfl (lb rfl) rfl fun F ρ w => ?_
  refine tQ ?_
  refine tG ?_
  refine cE rfl (ok_alloc (k := 102) rfl tZ154 rfl rfl rfl rfl) ?_
  refine nL ?_
  refine tQ ?_
  refine tG ?_
  refine cV rfl (ok_build_pure rfl rfl tZ154 tP154 rfl (firmB_ok rfl) rfl) ?_
  refine cV rfl (ok_build_pure rfl rfl tZ154 tP154 rfl (firmB_ok rfl) rfl) ?_
  refine cV rfl (ok_build_pure rfl rfl tZ154 tP154 rfl (firmB_ok rfl) rfl) ?_
  refine cV rfl (ok_build_pure rfl rfl tZ154 tP154 rfl (firmB_ok rfl) rfl) ?_
  refine cV rfl (ok_build_pure rfl rfl tZ154 tP154 rfl (firmB_ok rfl) rfl) ?_
  refine cV rfl (ok_build_pure rfl rfl tZ154 tP154 rfl (firmB_ok rfl) rfl) ?_
  refine cV rfl (ok_build_pure rfl rfl tZ154 tP154 rfl (firmB_ok rfl) rfl) ?_
  refine cV rfl (ok_build_pure rfl rfl tZ154 tP154 rfl (firmB_ok rfl) rfl) ?_
  refine cV rfl (ok_build_pure rfl rfl tZ154 tP154 rfl (firmB_ok rfl) rfl) ?_
  refine cV rfl (ok_build_pure rfl rfl tZ154 tP154 rfl (firmB_ok rfl) rfl) ?_
  refine cV rfl (ok_build_pure rfl rfl tZ154 tP154 rfl (firmB_ok rfl) rfl) ?_
  refine cV rfl (ok_build_pure rfl rfl tZ154 tP154 rfl (firmB_ok rfl) rfl) ?_
  refine cV rfl (ok_build_pure rfl rfl tZ154 tP154 rfl (firmB_ok rfl) rfl) ?_
  refine cV rfl (ok_build_pure rfl rfl tZ154 tP154 rfl (firmB_ok rfl) rfl) ?_
  refine cV rfl (ok_build_pure rfl rfl tZ154 tP154 rfl (firmB_ok rfl) rfl) ?_
  refine cV rfl (ok_build_pure rfl rfl tZ154 tP154 rfl (firmB_ok rfl) rfl) ?_
  refine cV rfl (ok_build_pure rfl rfl tZ154 tP154 rfl (firmB_ok rfl) rfl) ?_
  refine cV rfl (ok_build_pure rfl rfl tZ154 tP154 rfl (firmB_ok rfl) rfl) ?_
  refine cV rfl (ok_build_pure rfl rfl tZ154 tP154 rfl (firmB_ok rfl) rfl) ?_
  refine cV rfl (ok_build_pure rfl rfl tZ154 tP154 rfl (firmB_ok rfl) rfl) ?_
  refine cV rfl (ok_build_pure rfl rfl tZ154 tP154 rfl (firmB_ok rfl) rfl) ?_
  refine cV rfl (ok_build_pure rfl rfl tZ154 tP154 rfl (firmB_ok rfl) rfl) ?_
  refine cV rfl (ok_build_pure rfl rfl tZ154 tP154 rfl (firmB_ok rfl) rfl) ?_
  refine cV rfl (ok_build_pure rfl rfl tZ154 tP154 rfl (firmB_ok rfl) rfl) ?_
  refine cV rfl (ok_build_pure rfl rfl tZ154 tP154 rfl (firmB_ok rfl) rfl) ?_
  refine cV rfl (ok_build_pure rfl rfl tZ154 tP154 rfl (firmB_ok rfl) rfl) ?_
  refine cV rfl (ok_build_pure rfl rfl tZ154 tP154 rfl (firmB_ok rfl) rfl) ?_
  refine cV rfl (ok_build_pure rfl rfl tZ154 tP154 rfl (firmB_ok rfl) rfl) ?_
  refine cV rfl (ok_build_arr rfl rfl tZ165 Tryz.underlying165 tS154 rfl (firmB_ok rfl)) ?_
  refine cE rfl (ok_alloc (k := 103) rfl tZ165 rfl rfl rfl rfl) ?_
  refine c0 (ok_store_box_agg rfl rfl rfl rfl rfl ((fun h => h)) tS165 (firmL_ok rfl) (lb rfl)) ?_
  refine nL ?_
  refine tQ ?_
  refine tQ ?_
  refine tG ?_
  refine sm 3 rfl ?_
  refine wS 35 rfl (fun hb35 => ?_) fun hb35 => ?_
  ·refine sm 3 rfl ?_
   refine nL ?_
   refine Tr.condT rfl ?_
   refine tQ ?_
   refine tG ?_
   refine cV rfl (ok_build_pure rfl rfl tZ154 tP154 rfl (firmB_ok rfl) rfl) ?_
   refine c0 (ok_store_box_agg rfl rfl rfl rfl rfl ((fun h => h)) tS154 (firmL_ok rfl) (lb rfl)) ?_
   refine nL ?_
   refine Tr.ret ?_
   have hop : op < 0 ∨ op ≥ 29 := by
     simp_all
   refine retC_ok (.inl rfl) (fun _ _ ho => ok_load_box_pure ho rfl rfl Tryz.underlying154 rfl tS154 (lb rfl) rfl trivial) ?_ no_post
   rcases hop with h | h <;> simp [wSign, wLevel, h] <;> rfl
  refine sm 3 rfl ?_
  refine nL ?_
  refine tC rfl (fun hc38 => ?_) fun hc38 => ?_
  ·refine tQ ?_
   refine tG ?_
   refine cV rfl (ok_build_pure rfl rfl tZ154 tP154 rfl (firmB_ok rfl) rfl) ?_
   refine c0 (ok_store_box_agg rfl rfl rfl rfl rfl ((fun h => h)) tS154 (firmL_ok rfl) (lb rfl)) ?_
   refine nL ?_
   refine Tr.ret ?_
   have hop : op < 0 ∨ op ≥ 29 := by
     simp_all
   refine retC_ok (.inl rfl) (fun _ _ ho => ok_load_box_pure ho rfl rfl Tryz.underlying154 rfl tS154 (lb rfl) rfl trivial) ?_ no_post
   rcases hop with h | h <;> simp [wSign, wLevel, h] <;> rfl
  refine Tr.skip ?_
  refine tQ ?_
  have hop : 0 ≤ op ∧ op < 29 := by
    simp_all
  rcases below29 hop.1 hop.2 with rfl | rfl | rfl | rfl | rfl | rfl | rfl | rfl | rfl | rfl | rfl | rfl | rfl | rfl | rfl | rfl | rfl | rfl | rfl | rfl | rfl | rfl | rfl | rfl | rfl | rfl | rfl | rfl | rfl
  all_goals
    refine tG ?_
    refine sm 1 rfl ?_
    refine cV rfl (ok_index_box rfl rfl rfl rfl Tryz.underlying165 tS154 (by rfl) (by decide)) ?_
    refine cV rfl (ok_load_box_pure rfl rfl rfl Tryz.underlying154 rfl tS154 (lb rfl) rfl trivial) ?_
    refine c0 (ok_store_box_agg rfl rfl rfl rfl rfl ((fun h => h)) tS154 (firmL_ok rfl) (lb rfl)) ?_
    refine nL ?_
    refine Tr.ret <| retC_ok (.inl rfl) (fun _ _ ho => ok_load_box_pure ho rfl rfl Tryz.underlying154 rfl tS154 (lb rfl) rfl trivial) ?_ no_post
    rfl
theorem sc_wLevel (op : Int) : SC Tryz.prog 146 [iInt op] [] (fun _ => False) (iInt (wLevel op)) [] := by
  refine SC.of Tryz.func146 rfl (lb rfl) fun F ρ w => ?_
  refine tQ ?_
  refine tG ?_
  refine sm 1 rfl ?_
  refine nL ?_
  refine tQ ?_
  refine tG ?_
  refine sm 1 rfl ?_
  refine cE rfl (ocq (sc_rowOf op) ent120 rfl rfl) ?_
  refine cV rfl (ok_field_pure rfl rfl Tryz.underlying154 rfl Tryz.underlying3 rfl rfl) ?_
  refine sm 1 rfl ?_
  refine nL ?_
  refine Tr.ret <| ret_ok rfl ?_ no_post
  rfl
set_option maxRecDepth 20000
set_option maxHeartbeats 2000000
theorem bd_app (c0 : IV) (t s : ByteArray) : bdN c0 ((tEls t).length + s.size) (tEls t ++ tEls s) = bd c0 (t ++ s) := by
  unfold bd
  rw [← tEls_app, tEls_len, tEls_len, size_app]
def BdC (c0 : IV) : Prop := c0 = bTn ∨ c0 = bPt
theorem sc_WS {c0 : IV} (hc : BdC c0) {t s t' : ByteArray} (ht : t' = t ++ s) (hb : t'.size ≤ 70368744177664) :
    SC Tryz.prog 29 [.ptr 1001 0, .pv (.val (.string s))] (bd c0 t) (fun k => k ∈ []) (.tup [iInt s.size, .pv (.val .nilIface)]) (bd bPt t') := by
  subst ht
  rw [size_app] at hb
  have hb2 : (tEls t).length + s.size ≤ 140737488355328 := by rw [tEls_len]; omega
  rcases hc with rfl | rfl
  · have := sc_WriteString0 (tEls t).length (tEls t) rfl s hb2
    rw [bd_app] at this
    exact this
  · have := sc_WriteString (tEls t).length (tEls t) rfl s hb2
    rw [bd_app] at this
    exact this
theorem sc_WB {t t' : ByteArray} (ht : t' = t ++ tNl) (hb : t'.size ≤ 70368744177664) :
    SC Tryz.prog 31 [.ptr 1001 0, .pv (.val (.int .u8 10))] (bd bPt t) (fun k => k ∈ []) (.pv (.val .nilIface)) (bd bPt t') := by
  subst ht
  rw [size_app] at hb
  have e1 : tNl.size = 1 := rfl
  have := sc_WriteByte (tEls t).length (tEls t) rfl 10 (by rw [tEls_len]; omega)
  have e2 := bd_app bPt t tNl
  rw [← e2]
  exact this
def tTabs (d : Nat) : ByteArray := ⟨(Lib.repeatL [9] d).toArray⟩
theorem tTabs_succ (d : Nat) : tTabs (d + 1) = tTabs d ++ tTab := by
  unfold tTabs
  rw [Lib.repeatL_add, Lib.repeatL_one]
  apply ByteArray.ext
  simp [tTab]
def tCat : List ByteArray → ByteArray
  | [] => ⟨#[]⟩
  | x :: r => x ++ tCat r
theorem app_nil (t : ByteArray) : t ++ ⟨#[]⟩ = t := by
  apply ByteArray.ext
  simp
theorem nil_app (t : ByteArray) : (⟨#[]⟩ : ByteArray) ++ t = t := by
  apply ByteArray.ext
  simp
theorem tCat_snoc (x : ByteArray) : ∀ l : List ByteArray, tCat (l ++ [x]) = tCat l ++ x
  | [] => by simp only [List.nil_append, tCat, app_nil, nil_app]
  | y :: r => by simp only [List.cons_append, tCat, tCat_snoc x r, app_assoc]
theorem tCat_take (l : List ByteArray) (k : Nat) : (tCat (l.take k)).size ≤ (tCat l).size := by
  induction l generalizing k with
  | nil => simp
  | cons x r ih =>
    cases k with
    | zero => show 0 ≤ _; omega
    | succ k =>
      simp only [List.take_succ_cons, tCat, size_app]
      have := ih k
      omega
def tLine (d : Nat) (parts : List ByteArray) : ByteArray := tTabs d ++ tCat parts ++ tNl
def sEl (s : ByteArray) : List PV := [.val (.string s)]
theorem sc_line {c0 : IV} (hc : BdC c0) (d : Nat) (hd : d ≤ 256) (parts : List ByteArray) (hp : parts.length ≤ 1000) {t t' : ByteArray} (ht : t' = t ++ tLine d parts) (hb : t'.size ≤ 70368744177664) :
    SC Tryz.prog 15 [.ptr 1001 0, .pv (.val (.int .i64 d)), .pv (.seq (parts.map sEl))] (bd c0 t) (fun k => k ∈ []) (.tup []) (bd bPt t') := by
  subst ht
  simp only [tLine, size_app] at hb
  have e1 : tNl.size = 1 := rfl
  have hrep := sc_Repeat ⟨#[9]⟩ d (by omega) (by show 1 * d ≤ _; omega)
  have h0 := sc_WS hc (t := t) (s := tTabs d) rfl (by rw [size_app]; omega)
  refine SC.vc tb {} [] Tryz.func15 rfl rfl ?_
  refine ⟨[], hrep, sR, trivial, rfl, [], h0, sR, ⟨rfl, rfl, trivial⟩, rfl, ?_⟩
  refine ⟨Nat, fun k => [(16, iInt k)], fun k => bd bPt (t ++ tTabs d ++ tCat (parts.take k)), fun k => parts.length - k, fun k => k ≤ parts.length, [], 0, Nat.zero_le _, ⟨rfl, trivial⟩, ?_, ?_⟩
  · have e : t ++ tTabs d ++ tCat (parts.take 0) = t ++ tTabs d := by
      rw [List.take_zero]; exact app_nil _
    rw [e]
    exact ⟨rfl, rfl, trivial⟩
  · intro k hk
    refine bcase (fun h => ?_) fun h => ?_
    · have hlt := lt_of (f := sEl) rfl h
      obtain ⟨x, hx, htk, _, hm⟩ := at_lt hlt
      have hle := tCat_take parts (k + 1)
      have hw := sc_WS (.inr rfl) (t := t ++ tTabs d ++ tCat (parts.take k)) (s := x) (t' := t ++ tTabs d ++ tCat (parts.take (k + 1))) (by rw [htk, tCat_snoc]; simp only [app_assoc]) (by simp only [size_app]; omega)
      exact ⟨map_get (f := sEl) hx, rfl, [], hw, sR, ⟨rfl, rfl, trivial⟩, rfl, i64_add rfl (by omega), k + 1, step_lt hlt, hlt, ⟨rfl, trivial⟩, ⟨rfl, rfl, trivial⟩, rfl, rfl, rfl, rfl⟩
    · have hge := ge_of (f := sEl) rfl h
      rw [List.take_of_length_le hge]
      have hw := sc_WB (t := t ++ tTabs d ++ tCat parts) (t' := t ++ tLine d parts) (by simp only [tLine, app_assoc]) (by simp only [tLine, size_app]; omega)
      exact ⟨[], hw, sR, ⟨rfl, rfl, trivial⟩, rfl, sI, rfl, rfl, trivial⟩
theorem tLine_one (d : Nat) (s : ByteArray) : tLine d [s] = tTabs d ++ s ++ tNl := by
  simp only [tLine, tCat, app_nil]
theorem tBehind_cons (w : ByteArray) (a : Int) (r : List Int) : tBehind w (a :: r) = w ++ tSp ++ tVals (a :: r) := if_neg (List.cons_ne_nil a r)
theorem tVals_nil : tVals [] = ⟨#[]⟩ := rfl
theorem sc_word {c0 : IV} (hc : BdC c0) (d : Nat) (hd : d ≤ 256) (w : ByteArray) (l : List Int) (hw : w.size ≤ 1000) (hl : ∀ v ∈ l, N64 v) (hll : l.length ≤ 1073741824) {t t' : ByteArray} (ht : t' = t ++ tTabs d ++ tBehind w l ++ tNl) (hb : t'.size ≤ 70368744177664) :
    SC Tryz.prog 58 [.ptr 1001 0, .pv (.val (.int .i64 d)), .pv (.val (.string w)), .pv (ints l)] (bd c0 t) (fun k => k ∈ []) (.tup []) (bd bPt t') := by
  refine SC.vc tb {} [] Tryz.func58 rfl rfl ?_
  have hv := sc_showValues l hl hll
  cases l with
  | nil =>
    have h := sc_line hc d hd [w, tVals []] (by simp) (t := t) (t' := t') (by rw [ht]; simp only [tLine, tCat, tBehind, tVals_nil, app_nil, app_assoc]; rfl) hb
    exact ⟨[], hv, sR, trivial, rfl, [], h, sR, ⟨rfl, rfl, trivial⟩, rfl, sI, rfl, rfl, trivial⟩
  | cons a r =>
    have h := sc_line hc d hd [w ++ tSp, tVals (a :: r)] (by simp) (t := t) (t' := t') (by rw [ht, tBehind_cons]; simp only [tLine, tCat, app_nil, app_assoc]) hb
    exact bcase (fun _ => ⟨str_add (by show _ + 1 ≤ _; omega), [], hv, sR, trivial, rfl, [], h, sR, ⟨rfl, rfl, trivial⟩, rfl, sI, rfl, rfl, trivial⟩) fun hx => absurd hx (by simp)
theorem sc_wrapSign (op : Int) : SC Tryz.prog 94 [.pv (.val (.int .i64 op))] [] (fun k => k ∈ []) (.pv (.val (.string (wSign op)))) [] := by
  refine SC.vc tb {} [] Tryz.func94 rfl rfl ?_
  exact ⟨[], sc_rowOf op, sR, trivial, rfl, sI, trivial⟩
set_option maxRecDepth 20000
theorem ky {d : TypeDesc} {es : List (Value × PV)} (h : (es.all fun e => isKeyB d e.1) = true) : ∀ e ∈ es, isKeyB d e.1 = true := List.all_eq_true.1 h
set_option maxHeartbeats 2000000
attribute [local simp] r8bare r8op r8num r8name r8kn Nd.kind Nd.op Nd.n Nd.name Nd.kids Nd.params ba_toList in
theorem sc_shBare (x : Nd) : SC Tryz.prog 105 [.pv (ndv x)] [] (fun _ => False) (iBool (r8bare x)) [] := by
  refine SC.anyR (SC.vc tb {} [] Tryz.func105 rfl rfl ?_)
  obtain ⟨kind, op, n, name, args, outs, params, kids⟩ := x
  rcases (show kind = 3 ∨ kind = 4 ∨ kind = 1 ∨ kind = 2 ∨ kind = 5 ∨ kind = 6 ∨ kind = 7 ∨ kind = 11 ∨ kind = 10 ∨ (kind ≠ 1 ∧ kind ≠ 2 ∧ kind ≠ 3 ∧ kind ≠ 4 ∧ kind ≠ 5 ∧ kind ≠ 6 ∧ kind ≠ 7 ∧ kind ≠ 11 ∧ kind ≠ 10) by omega) with rfl | rfl | rfl | rfl | rfl | rfl | rfl | rfl | rfl | h
  · exact ⟨rfl, ky rfl, rfl, ky rfl, rfl, ky rfl, rfl, bcase (fun h3 => bcase (fun h2 => bcase (fun h1 => ⟨sE (congrArg iBool (by simp_all)), trivial⟩) fun h1 => ⟨sE (congrArg iBool (by simp_all)), trivial⟩) fun h2 => ⟨sE (congrArg iBool (by simp_all)), trivial⟩) fun h3 => ⟨sE (congrArg iBool (by simp_all)), trivial⟩⟩
  · exact ⟨rfl, ky rfl, rfl, ky rfl, rfl, ky rfl, rfl, bcase (fun h3 => bcase (fun h2 => bcase (fun h1 => ⟨sE (congrArg iBool (by simp_all)), trivial⟩) fun h1 => ⟨sE (congrArg iBool (by simp_all)), trivial⟩) fun h2 => ⟨sE (congrArg iBool (by simp_all)), trivial⟩) fun h3 => ⟨sE (congrArg iBool (by simp_all)), trivial⟩⟩
  · exact ⟨rfl, ky rfl, rfl, ky rfl, rfl, ky rfl, rfl, bcase (fun h3 => bcase (fun h2 => bcase (fun h1 => ⟨sE (congrArg iBool (by simp_all)), trivial⟩) fun h1 => ⟨sE (congrArg iBool (by simp_all)), trivial⟩) fun h2 => ⟨sE (congrArg iBool (by simp_all)), trivial⟩) fun h3 => ⟨sE (congrArg iBool (by simp_all)), trivial⟩⟩
  · exact ⟨rfl, ky rfl, rfl, ky rfl, rfl, ky rfl, rfl, bcase (fun h3 => bcase (fun h2 => bcase (fun h1 => ⟨sE (congrArg iBool (by simp_all)), trivial⟩) fun h1 => ⟨sE (congrArg iBool (by simp_all)), trivial⟩) fun h2 => ⟨sE (congrArg iBool (by simp_all)), trivial⟩) fun h3 => ⟨sE (congrArg iBool (by simp_all)), trivial⟩⟩
  · exact ⟨rfl, ky rfl, rfl, ky rfl, rfl, ky rfl, rfl, bcase (fun h4 => bcase (fun h3 => bcase (fun h2 => bcase (fun h1 => ⟨sE (congrArg iBool (by simp_all)), trivial⟩) fun h1 => ⟨sE (congrArg iBool (by simp_all)), trivial⟩) fun h2 => ⟨sE (congrArg iBool (by simp_all)), trivial⟩) fun h3 => ⟨sE (congrArg iBool (by simp_all)), trivial⟩) fun h4 => ⟨sE (congrArg iBool (by simp_all)), trivial⟩⟩
  · exact ⟨rfl, ky rfl, rfl, ky rfl, rfl, ky rfl, rfl, bcase (fun h4 => bcase (fun h3 => bcase (fun h2 => bcase (fun h1 => ⟨sE (congrArg iBool (by simp_all)), trivial⟩) fun h1 => ⟨sE (congrArg iBool (by simp_all)), trivial⟩) fun h2 => ⟨sE (congrArg iBool (by simp_all)), trivial⟩) fun h3 => ⟨sE (congrArg iBool (by simp_all)), trivial⟩) fun h4 => ⟨sE (congrArg iBool (by simp_all)), trivial⟩⟩
  · exact ⟨rfl, ky rfl, rfl, ky rfl, rfl, ky rfl, rfl, bcase (fun h4 => bcase (fun h3 => bcase (fun h2 => bcase (fun h1 => ⟨sE (congrArg iBool (by simp_all)), trivial⟩) fun h1 => ⟨sE (congrArg iBool (by simp_all)), trivial⟩) fun h2 => ⟨sE (congrArg iBool (by simp_all)), trivial⟩) fun h3 => ⟨sE (congrArg iBool (by simp_all)), trivial⟩) fun h4 => ⟨sE (congrArg iBool (by simp_all)), trivial⟩⟩
  · exact ⟨rfl, ky rfl, rfl, ky rfl, rfl, ky rfl, rfl, bcase (fun h3 => bcase (fun h2 => bcase (fun h1 => ⟨sE (congrArg iBool (by simp_all)), trivial⟩) fun h1 => ⟨sE (congrArg iBool (by simp_all)), trivial⟩) fun h2 => ⟨sE (congrArg iBool (by simp_all)), trivial⟩) fun h3 => ⟨sE (congrArg iBool (by simp_all)), trivial⟩⟩
  · exact ⟨rfl, ky rfl, rfl, ky rfl, rfl, ky rfl, rfl, bcase (fun h4 => bcase (fun h3 => bcase (fun h2 => bcase (fun h1 => ⟨sE (congrArg iBool (by simp_all)), trivial⟩) fun h1 => ⟨sE (congrArg iBool (by simp_all)), trivial⟩) fun h2 => ⟨sE (congrArg iBool (by simp_all)), trivial⟩) fun h3 => ⟨sE (congrArg iBool (by simp_all)), trivial⟩) fun h4 => ⟨sE (congrArg iBool (by simp_all)), trivial⟩⟩
  · obtain ⟨k1, k2, k3, k4, k5, k6, k7, k8, k9⟩ := h
    have no : ∀ {i : Int}, kind ≠ i → (kind == i) = true → False := fun h e => h (eq_of_beq e)
    exact ⟨rfl, ky rfl, rfl, ky rfl, VAsk.mk (p := vInt 0) (b := false) rfl (ky rfl) (by simp [Nd.kind, k8, k9, mput, keyB, mfind] <;> rfl) (bcase (fun h => (no k3 h).elim) fun _ => bcase (fun h => (no k4 h).elim) fun _ => bcase (fun h => (no k1 h).elim) fun _ => bcase (fun h => (no k2 h).elim) fun _ => bcase (fun h => (no k5 h).elim) fun _ => bcase (fun h => (no k6 h).elim) fun _ => bcase (fun h => (no k7 h).elim) fun _ => bcase (fun h => (no k8 h).elim) fun _ => bcase (fun h4 => bcase (fun h3 => bcase (fun h2 => bcase (fun h1 => ⟨sE (congrArg iBool (by simp_all)), trivial⟩) fun h1 => ⟨sE (congrArg iBool (by simp_all)), trivial⟩) fun h2 => ⟨sE (congrArg iBool (by simp_all)), trivial⟩) fun h3 => ⟨sE (congrArg iBool (by simp_all)), trivial⟩) fun h4 => ⟨sE (congrArg iBool (by simp_all)), trivial⟩)⟩
set_option maxRecDepth 20000
set_option maxHeartbeats 4000000
theorem sc_showRight (x : Nd) (h : NdOk x) : SC Tryz.prog 60 [.pv (ndv x)] [] (fun k => k ∈ []) (.pv (.val (.string (tRight x)))) [] := by
  refine SC.vc tb { pb := [101] } [] Tryz.func60 rfl rfl ?_
  obtain ⟨hn, ha, hl, hnm, k3, k4, k5, hop⟩ := h
  obtain ⟨kind, op, n, name, args, outs, params, kids⟩ := x
  simp only [Nd.kind, Nd.op, Nd.n, Nd.name, Nd.args] at hn ha hl hnm k3 k4 k5 hop
  have htx := sc_texts args ha hl
  refine ⟨[], htx, sR, trivial, rfl, ?_⟩
  rcases (show kind = 1 ∨ kind = 2 ∨ kind = 3 ∨ kind = 4 ∨ kind = 5 ∨ kind = 7 ∨ (kind ≠ 1 ∧ kind ≠ 2 ∧ kind ≠ 3 ∧ kind ≠ 4 ∧ kind ≠ 5 ∧ kind ≠ 7) by omega) with rfl | rfl | rfl | rfl | rfl | rfl | hk
  · exact ⟨[], sc_Itoa n hn, sR, trivial, rfl, sI, trivial⟩
  · exact ⟨[], sc_FormatBool (n == 1), sR, trivial, rfl, sI, trivial⟩
  · obtain ⟨a, rfl⟩ := k3 rfl
    have hs := wSign_le op
    have hv := tVal_le (ha a (.head _))
    exact ⟨[], sc_wrapSign op, sR, trivial, rfl, str_add (by show _ + 1 ≤ _; omega), at0 (a := tEl a), rfl, str_add (by rw [size_app]; show _ + 1 + _ ≤ _; omega), sI, trivial⟩
  · obtain ⟨a, b, rfl⟩ := k4 rfl
    have hs := wSign_le op
    have hv := tVal_le (ha a (.head _))
    have hv2 := tVal_le (ha b (.tail _ (.head _)))
    exact ⟨at0 (a := tEl a), rfl, str_add (by show _ + 1 ≤ _; omega), [], sc_wrapSign op, sR, trivial, rfl, str_add (by rw [size_app]; show _ + 1 + _ ≤ _; omega), str_add (by rw [size_app, size_app]; show _ + 1 + _ + 1 ≤ _; omega), at1 (b := tEl b), rfl, str_add (by rw [size_app, size_app, size_app]; show _ + 1 + _ + 1 + _ ≤ _; omega), sI, trivial⟩
  · obtain ⟨a, rfl⟩ := k5 rfl
    have hv := tVal_le (ha a (.head _))
    exact ⟨str_add (by show name.size + 1 ≤ _; omega), at0 (a := tEl a), rfl, str_add (by rw [size_app]; show name.size + 1 + _ ≤ _; omega), str_add (by rw [size_app, size_app]; show name.size + 1 + _ + 1 ≤ _; omega), sI, trivial⟩
  · have hv := tVals_le ha
    exact ⟨str_add (by show name.size + 1 ≤ _; omega), [], sc_showValues args ha hl, sR, trivial, rfl, str_add (by rw [size_app]; show name.size + 1 + _ ≤ _; omega), str_add (by rw [size_app, size_app]; show name.size + 1 + _ + 1 ≤ _; omega), sI, trivial⟩
  · obtain ⟨h1, h2, h3, h4, h5, h6⟩ := hk
    have no : ∀ {i : Int}, kind ≠ i → (kind == i) = true → False := fun h e => h (eq_of_beq e)
    exact bcase (fun h => (no h1 h).elim) fun _ => bcase (fun h => (no h2 h).elim) fun _ => bcase (fun h => (no h3 h).elim) fun _ => bcase (fun h => (no h4 h).elim) fun _ => bcase (fun h => (no h5 h).elim) fun _ => bcase (fun h => (no h6 h).elim) fun _ => ⟨sE (by simp [tRight, Nd.kind, h1, h2, h3, h4, h5, h6]), trivial⟩
theorem tVals_one (a : Int) : tVals [a] = tVal a := by
  unfold tVals tJoin
  simp only [List.map_cons, List.map_nil, Lib.join_one]
theorem tBehind_one (w : ByteArray) (a : Int) : tBehind w [a] = w ++ tSp ++ tVal a := by rw [tBehind_cons, tVals_one]
def tLoop : ByteArray := ⟨#[108, 111, 111, 112]⟩
def tElse : ByteArray := ⟨#[101, 108, 115, 101]⟩
def tIf : ByteArray := ⟨#[105, 102]⟩
theorem tElse_nl : (⟨#[101, 108, 115, 101, 10]⟩ : ByteArray) = tElse ++ tNl := rfl
theorem tIf_sp : (⟨#[105, 102, 32]⟩ : ByteArray) = tIf ++ tSp := rfl
theorem tPair_snoc (a b : List Int) (k : Nat) (p v : Int) (hp : a[k]? = some p) (hv : b[k]? = some v) : (tPairL a b).take (k + 1) = (tPairL a b).take k ++ [tPair p v] := by
  have h : (tPairL a b)[k]? = some (tPair p v) := by simp [tPairL, List.getElem?_zipWith, hp, hv]
  rw [List.take_add_one, h]
  rfl
theorem sc_showNode (d dep : Nat) (hd : d + dep ≤ 250) (x : Nd) (hx : NdOk x) (hok : pOkN x) (h64 : ok64N dep x) (hw : wtN x ≤ 536870912) {t t' : ByteArray} (ht : t' = t ++ tTabs d ++ tNd (tTabs d) x ++ tNl) (hb : t'.size ≤ 70368744177664)
    (ih : ∀ l, l ∈ x.kids → ∀ {t t' : ByteArray}, t' = t ++ tLs (tTabs (d + 1)) l → t'.size ≤ 70368744177664 → SC Tryz.prog 18 [.ptr 1001 0, .pv (nodes l), .pv (.val (.int .i64 (d + 1 : Nat)))] (bd bPt t) (fun k => k ∈ []) (.tup []) (bd bPt t')) :
    SC Tryz.prog 35 [.ptr 1001 0, .pv (ndv x), .pv (.val (.int .i64 d))] (bd bPt t) (fun k => k ∈ []) (.tup []) (bd bPt t') := by
  refine SC.vc tb { pb := [104], gh := [(16, [.grow 9 109 9 1]), (21, [.fz 9 109])] } [] Tryz.func35 rfl rfl ?_
  obtain ⟨kind, op, n, name, args, outs, params, ks⟩ := x
  have hro := hx
  simp only [pOkN] at hok
  simp only [ok64N] at h64
  simp only [wtN] at hw
  obtain ⟨hd1, hn6, ha, ho, hp, hk6⟩ := h64
  obtain ⟨c1, c2, c3, c4, c5, c6, c7, c8⟩ := hok
  rcases (show kind = 6 ∨ kind = 9 ∨ kind = 15 ∨ kind = 12 ∨ kind = 13 ∨ kind = 14 ∨ kind = 10 ∨ kind = 11 ∨ (kind ≤ 5 ∨ kind = 7 ∨ kind = 8) by omega) with rfl | rfl | rfl | rfl | rfl | rfl | rfl | rfl | hkd
  · obtain ⟨a, b, rfl⟩ := c1 (.inl rfl)
    have h := sc_line (.inr rfl) d (by omega) [name, ⟨#[91]⟩, tVal a, ⟨#[93, 32, 61, 32]⟩, tVal b] (by simp) (t := t) (t' := t') (by rw [ht]; simp [tNd, tLine, tCat, app_assoc, app_nil]) hb
    exact ⟨rfl, ky rfl, rfl, ky rfl, rfl, ky rfl, rfl, ky rfl, rfl, ky rfl, rfl, ky rfl, rfl, at0 (a := eInt a), rfl, [], sc_showValue a (ha a (.head _)), sR, trivial, rfl, at1 (b := eInt b), rfl, [], sc_showValue b (ha b (.tail _ (.head _))), sR, trivial, rfl, [], h, sR, ⟨rfl, rfl, trivial⟩, rfl, sI, rfl, rfl, trivial⟩
  · obtain ⟨a, rfl⟩ := c2 (.inl rfl)
    have h := sc_word (.inr rfl) d (by omega) ⟨#[112, 114, 105, 110, 116]⟩ [a] (by decide) ha (by simp) (t := t) (t' := t') (by rw [ht, tBehind_one]; simp [tNd]; rfl) hb
    exact ⟨rfl, ky rfl, rfl, ky rfl, rfl, ky rfl, rfl, ky rfl, rfl, ky rfl, rfl, ky rfl, rfl, [], h, sR, ⟨rfl, rfl, trivial⟩, rfl, sI, rfl, rfl, trivial⟩
  · obtain ⟨a, rfl⟩ := c2 (.inr (.inl rfl))
    have h := sc_word (.inr rfl) d (by omega) ⟨#[114, 101, 116, 117, 114, 110]⟩ [a] (by decide) ha (by simp) (t := t) (t' := t') (by rw [ht, tBehind_one]; simp [tNd]; rfl) hb
    exact ⟨rfl, ky rfl, rfl, ky rfl, rfl, ky rfl, rfl, ky rfl, rfl, ky rfl, rfl, ky rfl, rfl, [], h, sR, ⟨rfl, rfl, trivial⟩, rfl, sI, rfl, rfl, trivial⟩
  · have h := sc_word (.inr rfl) d (by omega) ⟨#[121, 105, 101, 108, 100]⟩ args (by decide) ha (by omega) (t := t) (t' := t') (by rw [ht]; simp [tNd]) hb
    exact ⟨rfl, ky rfl, rfl, ky rfl, rfl, ky rfl, rfl, ky rfl, rfl, ky rfl, rfl, ky rfl, rfl, [], h, sR, ⟨rfl, rfl, trivial⟩, rfl, sI, rfl, rfl, trivial⟩
  · have h := sc_word (.inr rfl) d (by omega) ⟨#[110, 101, 120, 116]⟩ args (by decide) ha (by omega) (t := t) (t' := t') (by rw [ht]; simp [tNd]) hb
    exact ⟨rfl, ky rfl, rfl, ky rfl, rfl, ky rfl, rfl, ky rfl, rfl, ky rfl, rfl, ky rfl, rfl, [], h, sR, ⟨rfl, rfl, trivial⟩, rfl, sI, rfl, rfl, trivial⟩
  · have h := sc_word (.inr rfl) d (by omega) ⟨#[108, 101, 97, 118, 101]⟩ args (by decide) ha (by omega) (t := t) (t' := t') (by rw [ht]; simp [tNd]) hb
    exact ⟨rfl, ky rfl, rfl, ky rfl, rfl, ky rfl, rfl, ky rfl, rfl, ky rfl, rfl, ky rfl, rfl, [], h, sR, ⟨rfl, rfl, trivial⟩, rfl, sI, rfl, rfl, trivial⟩
  · obtain ⟨a, rfl⟩ := c2 (.inr (.inr (.inl rfl)))
    obtain ⟨p, q, rfl⟩ := c3 rfl
    have e : t' = t ++ tTabs d ++ tBehind tIf [a] ++ tNl ++ tLs (tTabs (d + 1)) p ++ tLine d [tElse] ++ tLs (tTabs (d + 1)) q ++ tTabs d ++ tBehind tEnd outs ++ tNl := by
      rw [ht, tBehind_one, tLine_one]
      simp [tNd, tKs, tElse_nl, tIf_sp, app_assoc, tTabs_succ]
    have hb2 := hb
    rw [e] at hb2
    simp only [size_app] at hb2
    have h1 := sc_word (.inr rfl) d (by omega) tIf [a] (by decide) ha (by simp) (t := t) rfl (by simp only [size_app]; omega)
    have h2 := ih p (.head _) (t := t ++ tTabs d ++ tBehind tIf [a] ++ tNl) rfl (by simp only [size_app]; omega)
    have h3 := sc_line (.inr rfl) d (by omega) [tElse] (by simp) (t := t ++ tTabs d ++ tBehind tIf [a] ++ tNl ++ tLs (tTabs (d + 1)) p) rfl (by simp only [size_app]; omega)
    have h4 := ih q (.tail _ (.head _)) (t := t ++ tTabs d ++ tBehind tIf [a] ++ tNl ++ tLs (tTabs (d + 1)) p ++ tLine d [tElse]) rfl (by simp only [size_app]; omega)
    have h5 := sc_word (.inr rfl) d (by omega) tEnd outs (by decide) ho (by omega) (t := t ++ tTabs d ++ tBehind tIf [a] ++ tNl ++ tLs (tTabs (d + 1)) p ++ tLine d [tElse] ++ tLs (tTabs (d + 1)) q) e hb
    exact ⟨rfl, ky rfl, rfl, ky rfl, rfl, ky rfl, rfl, ky rfl, rfl, ky rfl, rfl, ky rfl, rfl, [], h1, sR, ⟨rfl, rfl, trivial⟩, rfl, at0 (a := eKid p), rfl, i64_add rfl (by omega), [], h2, sR, ⟨rfl, rfl, trivial⟩, rfl, [], h3, sR, ⟨rfl, rfl, trivial⟩, rfl,
      at1 (b := eKid q), rfl, i64_add rfl (by omega), [], h4, sR, ⟨rfl, rfl, trivial⟩, rfl, [], h5, sR, ⟨rfl, rfl, trivial⟩, rfl, sI, rfl, rfl, trivial⟩
  · obtain ⟨⟨p, rfl⟩, hpa⟩ := c4 rfl
    have e : t' = t ++ tLine d [tLoop, tPairs params args] ++ tLs (tTabs (d + 1)) p ++ tTabs d ++ tBehind tEnd outs ++ tNl := by
      rw [ht]
      simp [tNd, tKs, tLine, tCat, app_assoc, app_nil, tTabs_succ, tLoop]
    have hb2 := hb
    rw [e] at hb2
    simp only [size_app] at hb2
    have h1 := sc_line (.inr rfl) d (by omega) [tLoop, tPairs params args] (by simp) (t := t) rfl (by simp only [size_app]; omega)
    have h2 := ih p (.head _) (t := t ++ tLine d [tLoop, tPairs params args]) rfl (by simp only [size_app]; omega)
    have h5 := sc_word (.inr rfl) d (by omega) tEnd outs (by decide) ho (by omega) (t := t ++ tLine d [tLoop, tPairs params args] ++ tLs (tTabs (d + 1)) p) e hb
    have hL : (tPairL params args).length = params.length := by simp [tPairL, hpa]
    have hle : ∀ w ∈ tPairL params args, w.size ≤ 48 := fun w hw => by
      obtain ⟨i, hi⟩ := List.mem_iff_getElem?.1 hw
      unfold tPairL at hi
      rw [List.getElem?_zipWith] at hi
      cases h1 : params[i]? with
      | none => rw [h1] at hi; cases h2 : args[i]? <;> rw [h2] at hi <;> cases hi
      | some p =>
        cases h2 : args[i]? with
        | none => rw [h1, h2] at hi; cases hi
        | some q =>
          rw [h1, h2] at hi
          cases hi
          exact tPair_le (hp p (List.mem_of_getElem? h1)) (ha q (List.mem_of_getElem? h2))
    have hj := sc_Join (tPairL params args) tCm (by omega) (by
      have := tJoin_le hle tCm
      have e1 : tCm.size = 1 := rfl
      have e2 : (tJoin (tPairL params args) tCm).size = (Lib.join ((tPairL params args).map (·.data.toList)) tCm.data.toList).length := by unfold tJoin; exact List.size_toArray
      rw [e1] at this
      omega)
    refine ⟨rfl, ky rfl, rfl, ky rfl, rfl, ky rfl, rfl, ky rfl, rfl, ky rfl, rfl, ky rfl, rfl, ?_⟩
    refine ⟨Nat, fun k => [(101, iInt k), (9, .sl 109 (((tPairL params args).take k).map sEl).length)], fun k => [(109, .row ⟨9, 1⟩ (((tPairL params args).take k).map sEl))], fun k => params.length - k, fun k => k ≤ params.length, [], 0, Nat.zero_le _, ⟨rfl, rfl, trivial⟩, ⟨rfl, trivial⟩, ?_⟩
    intro k hk
    refine bcase (fun h => ?_) fun h => ?_
    · have hlt : k < params.length := lt_of (f := eInt) rfl h
      obtain ⟨x, hx, _, _, hm⟩ := at_lt hlt
      have hka : k < args.length := hpa ▸ hlt
      have hv : args[k]? = some (args[k]'hka) := List.getElem?_eq_getElem hka
      have hvm := List.mem_of_getElem? hv
      generalize args[k]'hka = v at hv hvm
      have hs := tPair_snoc params args k x v hx hv
      have vx := tVal_le (hp x hm)
      have vv := tVal_le (ha v hvm)
      exact ⟨map_get (f := eInt) hx, rfl, [], sc_showValue x (hp x hm), sR, trivial, rfl, str_add (by show 1 + _ ≤ _; omega), str_add (by rw [size_app]; show 1 + _ + 3 ≤ _; omega), map_get (f := eInt) hv, rfl, [], sc_showValue v (ha v hvm), sR, trivial, rfl, str_add (by rw [size_app, size_app]; show 1 + _ + 3 + _ ≤ _; omega), rfl, flat1 rfl, by simp; omega, i64_add rfl (by omega), k + 1, step_lt hlt, hlt, ⟨rfl, slq (by rw [hs]; simp), trivial⟩, ⟨rwq (by rw [hs, List.map_append]; rfl), trivial⟩, rfl, rfl, rfl, rfl⟩
    · have hge : params.length ≤ k := ge_of (f := eInt) rfl h
      rw [List.take_of_length_le (by omega)]
      exact ⟨rfl, [], hj, sR, trivial, rfl, [], h1, sR, ⟨rfl, rfl, trivial⟩, rfl, at0 (a := eKid p), rfl, i64_add rfl (by omega), [], h2, sR, ⟨rfl, rfl, trivial⟩, rfl, [], h5, sR, ⟨rfl, rfl, trivial⟩, rfl, sI, rfl, rfl, trivial⟩
  · obtain ⟨o, rfl⟩ := c5 hkd
    have no : ∀ {i : Int}, kind ≠ i → (kind == i) = true → False := fun h e => h (eq_of_beq e)
    have hS := sc_showRight _ hro
    have e : tNd (tTabs d) (.mk kind op n name args [o] params ks) = tVal o ++ tEq ++ tRight (.mk kind op n name args [o] params ks) := by
      unfold tNd
      rw [if_neg (by omega), if_neg (by omega), if_neg (by omega), if_neg (by omega), if_neg (by omega), if_neg (by omega), if_neg (by omega), if_neg (by omega)]
      simp
    rw [e] at ht
    generalize tRight (.mk kind op n name args [o] params ks) = Rt at *
    have h := sc_line (.inr rfl) d (by omega) [tVal o, tEq, Rt] (by simp) (t := t) (t' := t') (by rw [ht]; simp [tLine, tCat, app_assoc, app_nil]) hb
    have hm : mfind (.int .i64 kind) [(.int .i64 9, .val (.string ⟨#[112, 114, 105, 110, 116]⟩)), (.int .i64 15, .val (.string ⟨#[114, 101, 116, 117, 114, 110]⟩)), (.int .i64 12, .val (.string ⟨#[121, 105, 101, 108, 100]⟩)), (.int .i64 13, .val (.string ⟨#[110, 101, 120, 116]⟩)), (.int .i64 14, .val (.string ⟨#[108, 101, 97, 118, 101]⟩))] = none := by
      simp only [mfind, keyB, beq_false_of_ne (show kind ≠ 9 by omega), beq_false_of_ne (show kind ≠ 15 by omega), beq_false_of_ne (show kind ≠ 12 by omega), beq_false_of_ne (show kind ≠ 13 by omega), beq_false_of_ne (show kind ≠ 14 by omega)]
      rfl
    refine ⟨rfl, ky rfl, rfl, ky rfl, rfl, ky rfl, rfl, ky rfl, rfl, ky rfl, VAsk.mk (p := .val (.string ⟨#[]⟩)) (b := false) rfl (ky rfl) (congrArg (fun m : Option PV => (m.getD (PV.val (.string ⟨#[]⟩)), m.isSome)) hm) ?_⟩
    exact bcase (fun h => (no (by omega) h).elim) fun _ => bcase (fun h => (no (by omega) h).elim) fun _ => bcase (fun h => (no (by omega) h).elim) fun _ =>
      ⟨at0 (a := eInt o), rfl, [], sc_showValue o (ho o (.head _)), sR, trivial, rfl, [], hS, sR, trivial, rfl, [], h, sR, ⟨rfl, rfl, trivial⟩, rfl, sI, rfl, rfl, trivial⟩
theorem ndOk_of {dep : Nat} {x : Nd} (hxo : pOkN x) (hx6 : ok64N dep x) (hw : wtN x ≤ 536870912) : NdOk x := by
  obtain ⟨kind, op, n, name, args, outs, params, ks⟩ := x
  simp only [pOkN] at hxo
  simp only [ok64N] at hx6
  simp only [wtN] at hw
  obtain ⟨c1, c2, c3, c4, c5, c6, c7, c8⟩ := hxo
  exact ⟨hx6.2.1, hx6.2.2.1, by show args.length ≤ _; omega, by show name.size ≤ _; omega, fun h => c2 (.inr (.inr (.inr (.inl h)))), fun h => c1 (.inr h), fun h => c2 (.inr (.inr (.inr (.inr h)))), c6⟩
theorem pOkK_mem : ∀ {ks : List (List Nd)} {l : List Nd}, pOkK ks → l ∈ ks → pOkL l
  | a :: r, l, h, hl => by
    simp only [pOkK] at h
    rcases List.mem_cons.1 hl with rfl | hl
    · exact h.1
    · exact pOkK_mem h.2 hl
theorem ok64K_mem {d : Nat} : ∀ {ks : List (List Nd)} {l : List Nd}, ok64K d ks → l ∈ ks → ok64L d l
  | a :: r, l, h, hl => by
    simp only [ok64K] at h
    rcases List.mem_cons.1 hl with rfl | hl
    · exact h.1
    · exact ok64K_mem h.2 hl
theorem wtK_mem : ∀ {ks : List (List Nd)} {l : List Nd}, l ∈ ks → l.length + wtL l ≤ wtK ks
  | a :: r, l, hl => by
    simp only [wtK]
    rcases List.mem_cons.1 hl with rfl | hl
    · omega
    · have := wtK_mem hl; omega
theorem tLs_take (tabs : ByteArray) (l : List Nd) (k : Nat) : (tLs tabs (l.take k)).size ≤ (tLs tabs l).size := by
  have h : tLs tabs l = tLs tabs (l.take k) ++ tLs tabs (l.drop k) := by rw [← tLs_app, List.take_append_drop]
  rw [h, size_app]
  omega
theorem sc_showList : ∀ (N d dep : Nat) (l : List Nd), l.length + wtL l < N → d + dep ≤ 250 → pOkL l → ok64L dep l → l.length + wtL l ≤ 536870912 → ∀ {t t' : ByteArray}, t' = t ++ tLs (tTabs d) l → t'.size ≤ 70368744177664 →
    SC Tryz.prog 18 [.ptr 1001 0, .pv (nodes l), .pv (.val (.int .i64 d))] (bd bPt t) (fun k => k ∈ []) (.tup []) (bd bPt t')
  | 0, _, _, _, h, _, _, _, _, _, _, _, _ => by omega
  | N + 1, d, dep, l, hN, hd, hok, h64, hsz, t, t', ht, hb => by
    subst ht
    refine SC.vc tb {} [] Tryz.func18 rfl rfl ?_
    refine ⟨Nat, fun k => [(10, iInt k)], fun k => bd bPt (t ++ tLs (tTabs d) (l.take k)), fun k => l.length - k, fun k => k ≤ l.length, [], 0, Nat.zero_le _, ⟨rfl, trivial⟩, ?_, ?_⟩
    · have e : t ++ tLs (tTabs d) (l.take 0) = t := app_nil t
      rw [e]
      exact ⟨rfl, rfl, trivial⟩
    intro k hk
    refine bcase (fun hc => ?_) fun hc => ?_
    · have hlt : k < l.length := lt_of (f := Nd.enc) rfl hc
      obtain ⟨x, hx, hk1, _, hm⟩ := at_lt hlt
      have hxo := pOk_mem hok hm
      have hx6 := ok64_mem h64 hm
      have hw := wtL_in hm
      have hle := tLs_take (tTabs d) l (k + 1)
      rw [size_app] at hb
      have hn := sc_showNode d dep hd x (ndOk_of hxo hx6 (by omega)) hxo hx6 (by omega) (t := t ++ tLs (tTabs d) (l.take k)) (t' := t ++ tLs (tTabs d) (l.take (k + 1))) (by rw [hk1, tLs_snoc]; simp only [app_assoc]) (by rw [size_app]; omega) (fun q hq t t' e1 e2 => by
        obtain ⟨kind, op, n, name, args, outs, params, ks⟩ := x
        simp only [Nd.kids] at hq
        simp only [pOkN] at hxo
        simp only [ok64N] at hx6
        simp only [wtN] at hw
        have h5 := wtK_mem hq
        exact sc_showList N (d + 1) (dep - 1) q (by omega) (by omega) (pOkK_mem hxo.2.2.2.2.2.2.2 hq) (ok64K_mem hx6.2.2.2.2.2 hq) (by omega) e1 e2)
      exact ⟨nodes_get hx, rfl, [], hn, sR, ⟨rfl, rfl, trivial⟩, rfl, i64_add rfl (by omega), k + 1, step_lt hlt, hlt, ⟨rfl, trivial⟩, ⟨rfl, rfl, trivial⟩, rfl, rfl, rfl, rfl⟩
    · have hge : l.length ≤ k := ge_of (f := Nd.enc) rfl hc
      rw [List.take_of_length_le hge]
      exact ⟨sI, rfl, rfl, trivial⟩
termination_by N => N
def Oks (B : Int) (s : Rs) : Prop := 0 ≤ s.fuel ∧ 0 ≤ s.cost ∧ s.cost + s.fuel ≤ B
structure Ext (B : Int) (s t : Rs) : Prop where
  ok : Oks B t
  out : s.out <+: t.out
  ar : t.ar.length = s.ar.length
  fuel : t.fuel ≤ s.fuel
theorem use_in {tys seen : List Int} : ∀ {l want : List Int}, l.length = want.length → r8typesGo tys seen l want = true → inR tys.length l
  | [], _, _, _ => fun v hv => by simp at hv
  | _ :: _, [], h, _ => by simp at h
  | x :: r, w :: ws, h, hg => by
    simp only [r8typesGo, Bool.and_eq_true] at hg
    intro v hv
    rcases List.mem_cons.1 hv with rfl | hv
    ·obtain ⟨h1, h2⟩ := r8use_range hg.1
     exact ⟨h1, by omega⟩
    exact use_in (by simpa using h) hg.2 v hv
theorem types_ok {tys seen l want : List Int} (h : r8types tys seen l want = true) : l.length = want.length ∧ inR tys.length l := by
  simp only [r8types, Bool.and_eq_true, beq_iff_eq] at h
  have : l.length = want.length := by omega
  exact ⟨this, use_in this h.2⟩
theorem r8of_len {tys l : List Int} (h : inR tys.length l) : (r8of tys l).length = l.length := by
  unfold r8of
  have : l.all (r8inr tys) = true := List.all_eq_true.2 fun v hv => by
    have := h v hv
    simp only [r8inr, Bool.and_eq_true, decide_eq_true_eq]; omega
  rw [if_pos this, List.length_map]
structure Inv (n : Nat) (B M : Int) (s : Rs) : Prop where
  ok : Oks B s
  out : (s.out.length : Int) + s.fuel ≤ M
  ar : s.ar.length = n
structure InvS (n : Nat) (B M : Int) (s : Rs) : Prop where
  ok : Oks B s
  ok1 : s.cost + s.fuel + 1 ≤ B
  out : (s.out.length : Int) + s.fuel + 1 ≤ M
  ar : s.ar.length = n
def VF (u : Un) (g : Fl) : Prop := vList u g 1 r8where0 (iota g.params.toNat) g.body = true ∧ g.types.length ≤ 20000 ∧ 0 ≤ g.params ∧ g.params ≤ g.types.length
theorem vf_of {u : Un} (h : (r8Check u).1 = 0) : ∀ g ∈ u.flows, VF u g := by
  intro g hg
  obtain ⟨h1, h2⟩ := (check_iff u).1 h
  have hf := h2 g hg
  have hp := r8globals_params h1 g hg
  unfold r8Flow at hf
  simp only [Bool.and_eq_true] at hf
  obtain ⟨⟨⟨⟨⟨f1, f2⟩, f3⟩, f4⟩, f5⟩, f6⟩ := hf
  simp only [Bool.not_eq_true', decide_eq_false_iff_not] at f1 f2 f3 f4
  rw [r8list_iff u g g.body 1 r8where0 _ _ (firsts_length (by omega))] at f6
  exact ⟨f6.1, by omega, hp.1, hp.2⟩
def SumOk (u : Un) (x : Nd) (k : Nat) : Prop :=
  (x.kind = 3 → 1 ≤ k) ∧ (x.kind = 4 → 2 ≤ k) ∧ (x.kind = 5 → 1 ≤ k ∧ 0 ≤ r8Array x.name u.arrays 0) ∧ (x.kind = 6 → 2 ≤ k ∧ 0 ≤ r8Array x.name u.arrays 0) ∧
  (x.kind = 7 → 0 ≤ r8Place x.name u.flows 0 ∧ ∀ g, u.flows[(r8Place x.name u.flows 0).toNat]? = some g → (k : Int) = g.params) ∧ (x.kind = 9 → 1 ≤ k)
theorem smp_ok {u : Un} {f : Fl} {x : Nd} {seen : List Int} {w : Wh} (hgp : ∀ g ∈ u.flows, VF u g) (h : (sForm u f x seen w).ok f.types x.outs = true) :
    inR f.types.length x.outs ∧ inR f.types.length x.args ∧ SumOk u x x.args.length ∧ ((x.kind = 1 ∨ x.kind = 2) → x.outs ≠ []) ∧
    (x.kind = 12 → w.If = true ∧ x.args.length = w.Yield.length) ∧ (x.kind = 13 → x.args.length = w.Next.length) ∧ (x.kind = 14 → x.args.length = w.Left.length) ∧ (x.kind = 15 → x.args.length = 1) := by
  refine ⟨ok_in h, ?_⟩
  have V : ∀ {b : Bool} {want : Option (List Int)}, SForm.ok ⟨b, want⟩ f.types x.outs = true → b = true := fun {b want} h => by
    cases want <;> simp only [SForm.ok, Bool.and_eq_true] at h <;> exact h.1
  have V1 : ∀ {b : Bool} {t : Int}, SForm.ok ⟨b, some [t]⟩ f.types x.outs = true → x.outs ≠ [] := fun {b t} h e => by
    simp only [SForm.ok, Bool.and_eq_true] at h
    have := vOuts_len h.2
    rw [e] at this; simp at this
  have T : ∀ {want : List Int}, r8types f.types seen x.args want = true → inR f.types.length x.args ∧ x.args.length = want.length := fun h => ⟨(types_ok h).2, (types_ok h).1⟩
  have tr : ∀ {k : Int} {P : Prop} {j : Int}, x.kind = k → k ≠ j → x.kind = j → P := fun h1 h2 h3 => absurd (h1.symm.trans h3) h2
  unfold sForm at h
  by_cases k1 : x.kind = 1
  ·rw [if_pos (beq_iff_eq.2 k1)] at h
   obtain ⟨t1, t2⟩ := T (V h)
   refine ⟨t1, ⟨tr k1 (by decide), tr k1 (by decide), tr k1 (by decide), tr k1 (by decide), tr k1 (by decide), tr k1 (by decide)⟩, fun _ => V1 h, tr k1 (by decide), tr k1 (by decide), tr k1 (by decide), tr k1 (by decide)⟩
  rw [if_neg (by simpa using k1)] at h
  by_cases k2 : x.kind = 2
  ·rw [if_pos (beq_iff_eq.2 k2)] at h
   have hb := V h
   simp only [Bool.and_eq_true] at hb
   obtain ⟨t1, t2⟩ := T hb.2
   refine ⟨t1, ⟨tr k2 (by decide), tr k2 (by decide), tr k2 (by decide), tr k2 (by decide), tr k2 (by decide), tr k2 (by decide)⟩, fun _ => V1 h, tr k2 (by decide), tr k2 (by decide), tr k2 (by decide), tr k2 (by decide)⟩
  rw [if_neg (by simpa using k2)] at h
  have n12 : ¬ (x.kind = 1 ∨ x.kind = 2) := by rintro (h | h) <;> contradiction
  by_cases k3 : x.kind = 3
  ·rw [if_pos (beq_iff_eq.2 k3)] at h
   have hb := V h
   simp only [Bool.and_eq_true] at hb
   obtain ⟨t1, t2⟩ := T hb.2
   refine ⟨t1, ⟨fun _ => by rw [t2]; exact Nat.le_refl _, tr k3 (by decide), tr k3 (by decide), tr k3 (by decide), tr k3 (by decide), tr k3 (by decide)⟩, fun h => absurd h n12, tr k3 (by decide), tr k3 (by decide), tr k3 (by decide), tr k3 (by decide)⟩
  rw [if_neg (by simpa using k3)] at h
  by_cases k4 : x.kind = 4
  ·rw [if_pos (beq_iff_eq.2 k4)] at h
   have hb := V h
   simp only [Bool.and_eq_true] at hb
   obtain ⟨t1, t2⟩ := T hb.1.2
   refine ⟨t1, ⟨tr k4 (by decide), fun _ => by rw [t2]; exact Nat.le_refl _, tr k4 (by decide), tr k4 (by decide), tr k4 (by decide), tr k4 (by decide)⟩, fun h => absurd h n12, tr k4 (by decide), tr k4 (by decide), tr k4 (by decide), tr k4 (by decide)⟩
  rw [if_neg (by simpa using k4)] at h
  by_cases k5 : x.kind = 5
  ·rw [if_pos (beq_iff_eq.2 k5)] at h
   have hb := V h
   simp only [Bool.and_eq_true, decide_eq_true_eq] at hb
   obtain ⟨t1, t2⟩ := T hb.2
   refine ⟨t1, ⟨tr k5 (by decide), tr k5 (by decide), fun _ => ⟨by rw [t2]; exact Nat.le_refl _, hb.1⟩, tr k5 (by decide), tr k5 (by decide), tr k5 (by decide)⟩, fun h => absurd h n12, tr k5 (by decide), tr k5 (by decide), tr k5 (by decide), tr k5 (by decide)⟩
  rw [if_neg (by simpa using k5)] at h
  by_cases k6 : x.kind = 6
  ·rw [if_pos (beq_iff_eq.2 k6)] at h
   have hb := V h
   simp only [Bool.and_eq_true, decide_eq_true_eq] at hb
   obtain ⟨t1, t2⟩ := T hb.2
   refine ⟨t1, ⟨tr k6 (by decide), tr k6 (by decide), tr k6 (by decide), fun _ => ⟨by rw [t2]; exact Nat.le_refl _, hb.1⟩, tr k6 (by decide), tr k6 (by decide)⟩, fun h => absurd h n12, tr k6 (by decide), tr k6 (by decide), tr k6 (by decide), tr k6 (by decide)⟩
  rw [if_neg (by simpa using k6)] at h
  by_cases k7 : x.kind = 7
  ·rw [if_pos (beq_iff_eq.2 k7)] at h
   by_cases hp : decide (r8Place x.name u.flows 0 ≥ 0) = true
   ·rw [if_pos hp] at h
    have hp' : 0 ≤ r8Place x.name u.flows 0 := by simpa using hp
    cases hg : u.flows[(r8Place x.name u.flows 0).toNat]? with
    | none => rw [hg] at h; exact absurd (V h) (by decide)
    | some g =>
      rw [hg] at h
      obtain ⟨t1, t2⟩ := T (V h)
      obtain ⟨_, _, g1, g2⟩ := hgp g (List.mem_of_getElem? hg)
      refine ⟨t1, ⟨tr k7 (by decide), tr k7 (by decide), tr k7 (by decide), tr k7 (by decide), fun _ => ⟨hp', fun g' hg' => ?_⟩, tr k7 (by decide)⟩, fun h => absurd h n12, tr k7 (by decide), tr k7 (by decide), tr k7 (by decide), tr k7 (by decide)⟩
      rw [hg] at hg'
      cases hg'
      rw [t2, List.length_take]; omega
   rw [if_neg hp] at h; exact absurd (V h) (by decide)
  rw [if_neg (by simpa using k7)] at h
  by_cases k8 : x.kind = 8
  ·rw [if_pos (beq_iff_eq.2 k8)] at h
   have hb := V h
   have : x.args = [] := List.eq_nil_of_length_eq_zero (by simp at hb; simp [hb])
   refine ⟨by rw [this]; exact fun v hv => by simp at hv, ⟨tr k8 (by decide), tr k8 (by decide), tr k8 (by decide), tr k8 (by decide), tr k8 (by decide), tr k8 (by decide)⟩, fun h => absurd h n12, tr k8 (by decide), tr k8 (by decide), tr k8 (by decide), tr k8 (by decide)⟩
  rw [if_neg (by simpa using k8)] at h
  by_cases k9 : x.kind = 9
  ·rw [if_pos (beq_iff_eq.2 k9)] at h
   obtain ⟨t1, t2⟩ := T (V h)
   refine ⟨t1, ⟨tr k9 (by decide), tr k9 (by decide), tr k9 (by decide), tr k9 (by decide), tr k9 (by decide), fun _ => by rw [t2]; exact Nat.le_refl _⟩, fun h => absurd h n12, tr k9 (by decide), tr k9 (by decide), tr k9 (by decide), tr k9 (by decide)⟩
  rw [if_neg (by simpa using k9)] at h
  have S : SumOk u x x.args.length := ⟨fun h => absurd h k3, fun h => absurd h k4, fun h => absurd h k5, fun h => absurd h k6, fun h => absurd h k7, fun h => absurd h k9⟩
  by_cases k12 : x.kind = 12
  ·rw [if_pos (beq_iff_eq.2 k12)] at h
   have hb := V h
   simp only [Bool.and_eq_true] at hb
   obtain ⟨t1, t2⟩ := T hb.2
   exact ⟨t1, S, fun h => absurd h n12, fun _ => ⟨hb.1, t2⟩, tr k12 (by decide), tr k12 (by decide), tr k12 (by decide)⟩
  rw [if_neg (by simpa using k12)] at h
  by_cases k13 : x.kind = 13
  ·rw [if_pos (beq_iff_eq.2 k13)] at h
   have hb := V h
   simp only [Bool.and_eq_true] at hb
   obtain ⟨t1, t2⟩ := T hb.2
   exact ⟨t1, S, fun h => absurd h n12, tr k13 (by decide), fun _ => t2, tr k13 (by decide), tr k13 (by decide)⟩
  rw [if_neg (by simpa using k13)] at h
  by_cases k14 : x.kind = 14
  ·rw [if_pos (beq_iff_eq.2 k14)] at h
   have hb := V h
   simp only [Bool.and_eq_true] at hb
   obtain ⟨t1, t2⟩ := T hb.2
   exact ⟨t1, S, fun h => absurd h n12, tr k14 (by decide), tr k14 (by decide), fun _ => t2, tr k14 (by decide)⟩
  rw [if_neg (by simpa using k14)] at h
  by_cases k15 : x.kind = 15
  ·rw [if_pos (beq_iff_eq.2 k15)] at h
   obtain ⟨t1, t2⟩ := T (V h)
   exact ⟨t1, S, fun h => absurd h n12, tr k15 (by decide), tr k15 (by decide), tr k15 (by decide), fun _ => t2⟩
  rw [if_neg (by simpa using k15)] at h
  exact absurd (V h) (by decide)
mutual
def n64N : Nd → Prop
  | .mk _ _ n _ _ _ _ ks => N64 n ∧ n64K ks
def n64L : List Nd → Prop
  | [] => True
  | x :: r => n64N x ∧ n64L r
def n64K : List (List Nd) → Prop
  | [] => True
  | l :: r => n64L l ∧ n64K r
end
theorem len_one {l : List Int} (h : l.length = 1) : ∃ a, l = [a] := by
  match l, h with
  | [a], _ => exact ⟨a, rfl⟩
theorem len_two {l : List Int} (h : l.length = 2) : ∃ a b, l = [a, b] := by
  match l, h with
  | [a, b], _ => exact ⟨a, b, rfl⟩
theorem inR_64 {n : Nat} (hn : n ≤ 20000) {l : List Int} (h : inR n l) : ∀ v ∈ l, N64 v := fun v hv => by
  have := h v hv
  exact ⟨by omega, by omega⟩
theorem smp_form {u : Un} {f : Fl} {x : Nd} {seen : List Int} {w : Wh} (h : (sForm u f x seen w).ok f.types x.outs = true) :
    (x.kind = 6 ∨ x.kind = 4 → ∃ a b, x.args = [a, b]) ∧ (x.kind = 9 ∨ x.kind = 15 ∨ x.kind = 10 ∨ x.kind = 3 ∨ x.kind = 5 → ∃ a, x.args = [a]) ∧ (x.kind = 10 ∨ x.kind = 11 → False) ∧ (x.kind ≤ 5 ∨ x.kind = 7 ∨ x.kind = 8 → ∃ o, x.outs = [o]) ∧
    (x.kind = 3 ∨ x.kind = 4 → 1 ≤ x.op ∧ x.op ≤ 28) ∧ (1 ≤ x.kind ∧ x.kind ≤ 15) := by
  have V : ∀ {b : Bool} {want : Option (List Int)}, SForm.ok ⟨b, want⟩ f.types x.outs = true → b = true := fun {b want} h => by
    cases want <;> simp only [SForm.ok, Bool.and_eq_true] at h <;> exact h.1
  have V1 : ∀ {b : Bool} {t : Int}, SForm.ok ⟨b, some [t]⟩ f.types x.outs = true → ∃ o, x.outs = [o] := fun {b t} h => by
    simp only [SForm.ok, Bool.and_eq_true] at h
    exact len_one (vOuts_len h.2)
  have T1 : ∀ {t : Int}, r8types f.types seen x.args [t] = true → ∃ a, x.args = [a] := fun h => len_one (types_ok h).1
  have T2 : ∀ {t s : Int}, r8types f.types seen x.args [t, s] = true → ∃ a b, x.args = [a, b] := fun h => len_two (types_ok h).1
  have key : ∀ {k : Int}, x.kind = k → ∀ {A B C D : Prop}, (k = 6 ∨ k = 4 → A) → (k = 9 ∨ k = 15 ∨ k = 10 ∨ k = 3 ∨ k = 5 → B) → (k = 10 ∨ k = 11 → False) → (k ≤ 5 ∨ k = 7 ∨ k = 8 → C) → (k = 3 ∨ k = 4 → D) → (1 ≤ k ∧ k ≤ 15) →
      (x.kind = 6 ∨ x.kind = 4 → A) ∧ (x.kind = 9 ∨ x.kind = 15 ∨ x.kind = 10 ∨ x.kind = 3 ∨ x.kind = 5 → B) ∧ (x.kind = 10 ∨ x.kind = 11 → False) ∧ (x.kind ≤ 5 ∨ x.kind = 7 ∨ x.kind = 8 → C) ∧ (x.kind = 3 ∨ x.kind = 4 → D) ∧ (1 ≤ x.kind ∧ x.kind ≤ 15) := by
    intro k e A B C D a b c d g i
    subst e; exact ⟨a, b, c, d, g, i⟩
  unfold sForm at h
  by_cases k1 : x.kind = 1
  ·rw [if_pos (beq_iff_eq.2 k1)] at h
   exact key k1 (fun e => by omega) (fun e => by omega) (fun e => by omega) (fun _ => V1 h) (fun e => by omega) (by omega)
  rw [if_neg (by simpa using k1)] at h
  by_cases k2 : x.kind = 2
  ·rw [if_pos (beq_iff_eq.2 k2)] at h
   exact key k2 (fun e => by omega) (fun e => by omega) (fun e => by omega) (fun _ => V1 h) (fun e => by omega) (by omega)
  rw [if_neg (by simpa using k2)] at h
  by_cases k3 : x.kind = 3
  ·rw [if_pos (beq_iff_eq.2 k3)] at h
   have hb := V h
   simp only [Bool.and_eq_true, r1IsOne, decide_eq_true_eq] at hb
   exact key k3 (fun e => by omega) (fun _ => T1 hb.2) (fun e => by omega) (fun _ => V1 h) (fun _ => by omega) (by omega)
  rw [if_neg (by simpa using k3)] at h
  by_cases k4 : x.kind = 4
  ·rw [if_pos (beq_iff_eq.2 k4)] at h
   have hb := V h
   simp only [Bool.and_eq_true, r1IsTwo, decide_eq_true_eq] at hb
   exact key k4 (fun _ => T2 hb.1.2) (fun e => by omega) (fun e => by omega) (fun _ => V1 h) (fun _ => by omega) (by omega)
  rw [if_neg (by simpa using k4)] at h
  by_cases k5 : x.kind = 5
  ·rw [if_pos (beq_iff_eq.2 k5)] at h
   have hb := V h
   simp only [Bool.and_eq_true] at hb
   exact key k5 (fun e => by omega) (fun _ => T1 hb.2) (fun e => by omega) (fun _ => V1 h) (fun e => by omega) (by omega)
  rw [if_neg (by simpa using k5)] at h
  by_cases k6 : x.kind = 6
  ·rw [if_pos (beq_iff_eq.2 k6)] at h
   have hb := V h
   simp only [Bool.and_eq_true] at hb
   exact key k6 (fun _ => T2 hb.2) (fun e => by omega) (fun e => by omega) (fun e => by omega) (fun e => by omega) (by omega)
  rw [if_neg (by simpa using k6)] at h
  by_cases k7 : x.kind = 7
  ·rw [if_pos (beq_iff_eq.2 k7)] at h
   have ho : ∃ o, x.outs = [o] := by
     split at h
     ·split at h
      ·exact V1 h
      exact absurd (V h) (by decide)
     exact absurd (V h) (by decide)
   exact key k7 (fun e => by omega) (fun e => by omega) (fun e => by omega) (fun _ => ho) (fun e => by omega) (by omega)
  rw [if_neg (by simpa using k7)] at h
  by_cases k8 : x.kind = 8
  ·rw [if_pos (beq_iff_eq.2 k8)] at h
   exact key k8 (fun e => by omega) (fun e => by omega) (fun e => by omega) (fun _ => V1 h) (fun e => by omega) (by omega)
  rw [if_neg (by simpa using k8)] at h
  by_cases k9 : x.kind = 9
  ·rw [if_pos (beq_iff_eq.2 k9)] at h
   exact key k9 (fun e => by omega) (fun _ => T1 (V h)) (fun e => by omega) (fun e => by omega) (fun e => by omega) (by omega)
  rw [if_neg (by simpa using k9)] at h
  by_cases k12 : x.kind = 12
  ·exact key k12 (fun e => by omega) (fun e => by omega) (fun e => by omega) (fun e => by omega) (fun e => by omega) (by omega)
  rw [if_neg (by simpa using k12)] at h
  by_cases k13 : x.kind = 13
  ·exact key k13 (fun e => by omega) (fun e => by omega) (fun e => by omega) (fun e => by omega) (fun e => by omega) (by omega)
  rw [if_neg (by simpa using k13)] at h
  by_cases k14 : x.kind = 14
  ·exact key k14 (fun e => by omega) (fun e => by omega) (fun e => by omega) (fun e => by omega) (fun e => by omega) (by omega)
  rw [if_neg (by simpa using k14)] at h
  by_cases k15 : x.kind = 15
  ·rw [if_pos (beq_iff_eq.2 k15)] at h
   exact key k15 (fun e => by omega) (fun _ => T1 (V h)) (fun e => by omega) (fun e => by omega) (fun e => by omega) (by omega)
  rw [if_neg (by simpa using k15)] at h
  exact absurd (V h) (by decide)
theorem bare_none {x : Nd} (h : r8bare x = true) (h10 : x.kind ≠ 10) (h11 : x.kind ≠ 11) : x.kids = [] ∧ x.params = [] := by
  simp only [r8bare, Bool.and_eq_true, Bool.or_eq_true, beq_iff_eq, r8kn, h10, h11, if_false] at h
  refine ⟨List.eq_nil_of_length_eq_zero (by simpa [h10, h11] using h.1.2), List.eq_nil_of_length_eq_zero ?_⟩
  have := h.2
  simp at this
  simp [this]
theorem vOuts_in0 {tys l : List Int} (h : vOuts tys l (zer l) = true) : inR tys.length l := vOuts_in h
theorem v_ok {u : Un} (hgp : ∀ g ∈ u.flows, VF u g) {f : Fl} (hn : f.types.length ≤ 20000) : ∀ (N : Nat),
    (∀ (x : Nd) (deep : Int) (d : Nat) (w : Wh) (seen : List Int), wtN x < N → deep + d = 101 → 1 ≤ d → vNode u f deep w seen x = true → n64N x → pOkN x ∧ ok64N d x) ∧
    (∀ (l : List Nd) (deep : Int) (d : Nat) (w : Wh) (seen : List Int), l.length + wtL l < N → deep + d = 101 → vGo u f deep w seen l = true → n64L l → pOkL l ∧ ok64L d l)
  | 0 => ⟨fun _ _ _ _ _ h => by omega, fun _ _ _ _ _ h => by omega⟩
  | N + 1 => by
    have ih := v_ok hgp hn N
    refine ⟨fun x deep d w seen hw hd hd1 h h64 => ?_, fun l deep d w seen hw hd h h64 => ?_⟩
    ·have hb := vNode_bare u f deep w seen h
     by_cases k10 : x.kind = 10
     ·obtain ⟨a, b, hk⟩ := r8bare_if hb k10
      rw [vNode_if u f deep w seen hb k10 hk] at h
      simp only [Bool.and_eq_true, vList] at h
      obtain ⟨⟨⟨⟨t1, t2⟩, t3⟩, _⟩, t5⟩ := h
      obtain ⟨kind, op, n, name, args, outs, params, ks⟩ := x
      simp only [Nd.kind, Nd.kids, Nd.args, Nd.outs] at k10 hk t1 t5
      subst k10 hk
      simp only [n64N, n64K] at h64
      simp only [wtN, wtK] at hw
      obtain ⟨p1, p2⟩ := ih.2 a (deep + 1) (d - 1) _ _ (by omega) (by omega) t2.2 h64.2.1
      obtain ⟨q1, q2⟩ := ih.2 b (deep + 1) (d - 1) _ _ (by omega) (by omega) t3.2 h64.2.2.1
      obtain ⟨e1, e2⟩ := types_ok t1
      have hp : params = [] := by
        simp only [r8bare, Bool.and_eq_true, Bool.or_eq_true, beq_iff_eq, Nd.params, Nd.kind] at hb
        exact List.eq_nil_of_length_eq_zero (by have := hb.2; omega)
      subst hp
      refine ⟨?_, ?_⟩
      ·simp only [pOkN, pOkK]
       exact ⟨fun e => by omega, fun _ => len_one e1, fun _ => ⟨a, b, rfl⟩, fun e => by omega, fun e => by omega, fun e => by omega, by omega, p1, q1, trivial⟩
      simp only [ok64N, ok64K]
      exact ⟨hd1, h64.1, inR_64 hn e2, inR_64 hn (vOuts_in0 t5), fun v hv => by simp at hv, p2, q2, trivial⟩
     by_cases k11 : x.kind = 11
     ·obtain ⟨a, hk⟩ := r8bare_loop hb k11
      rw [vNode_loop u f deep w seen hb k11 hk] at h
      simp only [Bool.and_eq_true, vList] at h
      obtain ⟨⟨⟨⟨t1, t2⟩, t3⟩, _⟩, t5⟩ := h
      obtain ⟨kind, op, n, name, args, outs, params, ks⟩ := x
      simp only [Nd.kind, Nd.kids, Nd.args, Nd.outs, Nd.params] at k11 hk t1 t2 t5
      subst k11 hk
      simp only [n64N, n64K] at h64
      simp only [wtN, wtK] at hw
      obtain ⟨p1, p2⟩ := ih.2 a (deep + 1) (d - 1) _ _ (by omega) (by omega) t3.2 h64.2.1
      obtain ⟨e1, e2⟩ := types_ok t1
      have hpar := vOuts_in0 t2
      rw [r8of_len hpar] at e1
      refine ⟨?_, ?_⟩
      ·simp only [pOkN, pOkK]
       exact ⟨fun e => by omega, fun e => by omega, fun e => by omega, fun _ => ⟨⟨a, rfl⟩, e1.symm⟩, fun e => by omega, fun e => by omega, by omega, p1, trivial⟩
      simp only [ok64N, ok64K]
      exact ⟨hd1, h64.1, inR_64 hn e2, inR_64 hn (vOuts_in0 t5), inR_64 hn hpar, p2, trivial⟩
     rw [vNode_simple u f deep w seen hb (beq_false_of_ne k10) (beq_false_of_ne k11)] at h
     obtain ⟨c1, c2, c3, c4, c5, c6⟩ := smp_form h
     obtain ⟨s1, s2, _⟩ := smp_ok hgp h
     obtain ⟨g1, g2⟩ := bare_none hb k10 k11
     obtain ⟨kind, op, n, name, args, outs, params, ks⟩ := x
     simp only [Nd.kind, Nd.kids, Nd.args, Nd.outs, Nd.params, Nd.op] at *
     subst g1 g2
     simp only [n64N] at h64
     refine ⟨?_, ?_⟩
     ·simp only [pOkN, pOkK]
      exact ⟨c1, c2, fun e => absurd e k10, fun e => absurd e k11, c4, c5, c6, trivial⟩
     simp only [ok64N, ok64K]
     exact ⟨hd1, h64.1, inR_64 hn s2, inR_64 hn s1, fun v hv => by simp at hv, trivial⟩
    cases l with
    | nil => exact ⟨by simp [pOkL], by simp [ok64L]⟩
    | cons x r =>
      simp only [vGo, Bool.and_eq_true, Bool.not_eq_true', decide_eq_false_iff_not] at h
      simp only [n64L] at h64
      simp only [wtL, List.length_cons] at hw
      obtain ⟨⟨⟨h1, h2⟩, _⟩, h3⟩ := h
      obtain ⟨p1, p2⟩ := ih.1 x deep d w seen (by omega) hd (by omega) h2 h64.1
      obtain ⟨q1, q2⟩ := ih.2 r deep d w _ (by omega) hd h3 h64.2
      exact ⟨by simp only [pOkL]; exact ⟨p1, q1⟩, by simp only [ok64L]; exact ⟨p2, q2⟩⟩
theorem body_ok {u : Un} (h : (r8Check u).1 = 0) {f : Fl} (hf : f ∈ u.flows) (h64 : n64L f.body) : pOkL f.body ∧ ok64L 100 f.body := by
  have hv := vf_of h
  obtain ⟨h1, h2, _, _⟩ := hv f hf
  simp only [vList, Bool.and_eq_true] at h1
  exact (v_ok hv h2 _).2 f.body 1 100 _ _ (Nat.lt_succ_self _) (by omega) h1.2 h64
set_option maxRecDepth 20000
set_option maxHeartbeats 4000000
def tSemi : ByteArray := ⟨#[59]⟩
def hPut (p : List ByteArray) : List ByteArray := p.set (p.length - 1) (p.getD (p.length - 1) ⟨#[]⟩ ++ tSemi)
def hParts (f : Fl) : Nat → List ByteArray
  | 0 => [tKind f.ty, f.name]
  | k + 1 => (if (k : Int) = f.params then hPut (hParts f k) else hParts f k) ++ [tKind (f.types.getD k 0)]
def tHd (f : Fl) : Nat → ByteArray
  | 0 => tKind f.ty ++ tSp ++ f.name
  | k + 1 => (if (k : Int) = f.params then tHd f k ++ tSemi else tHd f k) ++ tSp ++ tKind (f.types.getD k 0)
theorem hParts_ne (f : Fl) : ∀ k, hParts f k ≠ []
  | 0 => by simp [hParts]
  | k + 1 => by simp [hParts]
theorem hPut_snoc (q : List ByteArray) (x : ByteArray) : hPut (q ++ [x]) = q ++ [x ++ tSemi] := by
  simp [hPut]
theorem tJoin_put {p : List ByteArray} (h : p ≠ []) (sep : ByteArray) : tJoin (hPut p) sep = tJoin p sep ++ tSemi := by
  obtain ⟨q, x, rfl⟩ : ∃ q x, p = q ++ [x] := ⟨p.dropLast, p.getLast h, (List.dropLast_concat_getLast h).symm⟩
  rw [hPut_snoc, tJoin_snoc, tJoin_snoc]
  split
  · rfl
  · simp only [app_assoc]
theorem hParts_join (f : Fl) : ∀ k, tJoin (hParts f k) tSp = tHd f k
  | 0 => by
    have := tJoin_snoc tSp f.name [tKind f.ty]
    simp only [List.cons_append, List.nil_append] at this
    show tJoin [tKind f.ty, f.name] tSp = _
    rw [this, if_neg (by simp)]
    have h1 := tJoin_snoc tSp (tKind f.ty) []
    simp only [List.nil_append, if_true] at h1
    rw [h1]
    rfl
  | k + 1 => by
    have ih := hParts_join f k
    have hne := hParts_ne f k
    simp only [hParts, tHd]
    by_cases hp : (k : Int) = f.params
    · rw [if_pos hp, if_pos hp, tJoin_snoc, if_neg (by rw [hPut]; simpa using hne), tJoin_put hne, ih]
    · rw [if_neg hp, if_neg hp, tJoin_snoc, if_neg hne, ih]
theorem hPut_len (p : List ByteArray) : (hPut p).length = p.length := by simp [hPut]
theorem hParts_len (f : Fl) : ∀ k, (hParts f k).length = k + 2
  | 0 => rfl
  | k + 1 => by
    simp only [hParts]
    rw [List.length_append]
    split
    · rw [hPut_len, hParts_len f k]; rfl
    · rw [hParts_len f k]; rfl
theorem tKind_le (t : Int) : (tKind t).size ≤ 4 := by
  unfold tKind
  split <;> decide
theorem tHd_le (f : Fl) : ∀ k, (tHd f k).size ≤ f.name.size + 5 + 6 * k
  | 0 => by
    simp only [tHd, size_app]
    have := tKind_le f.ty
    show _ + 1 + _ ≤ _
    omega
  | k + 1 => by
    have ih := tHd_le f k
    have hk := tKind_le (f.types.getD k 0)
    have e1 : tSemi.size = 1 := rfl
    have e2 : tSp.size = 1 := rfl
    simp only [tHd]
    split <;> simp only [size_app] <;> omega
theorem hParts_all (f : Fl) : ∀ k, ∀ w ∈ hParts f k, w.size ≤ f.name.size + 5 + 6 * k := fun k w hw => by
  have h := hParts_join f k
  have h2 := tHd_le f k
  rw [← h] at h2
  refine Nat.le_trans ?_ h2
  have key : ∀ (l : List (List UInt8)) (x : List UInt8), x ∈ l → x.length ≤ (Lib.join l tSp.data.toList).length := by
    intro l
    induction l with
    | nil => intro x hx; simp at hx
    | cons a r ih =>
      intro x hx
      cases r with
      | nil =>
        simp only [List.mem_singleton] at hx
        subst hx
        rw [Lib.join_one]
        exact Nat.le_refl _
      | cons b r =>
        have e : Lib.join (a :: b :: r) tSp.data.toList = a ++ tSp.data.toList ++ Lib.join (b :: r) tSp.data.toList := by simp [Lib.join]
        rw [e]
        simp only [List.length_append]
        rcases List.mem_cons.1 hx with rfl | hx
        · omega
        · have := ih x hx
          omega
  have h3 := key ((hParts f k).map (·.data.toList)) w.data.toList (List.mem_map_of_mem hw)
  have e1 : w.data.toList.length = w.size := by simp
  have e2 : (tJoin (hParts f k) tSp).size = (Lib.join ((hParts f k).map (·.data.toList)) tSp.data.toList).length := by unfold tJoin; exact List.size_toArray
  omega
theorem set_map {p : List ByteArray} : (p.map sEl).set (p.length - 1) (sEl (p.getD (p.length - 1) ⟨#[]⟩ ++ tSemi)) = (hPut p).map sEl := by
  rw [hPut, List.map_set]
theorem sc_head (f : Fl) (hn : f.name.size ≤ 1073741824) (ht : f.types.length ≤ 1073741824) : SC Tryz.prog 17 [.pv (.agg f.enc)] [] (fun k => k ∈ []) (.pv (.val (.string (tHd f f.types.length)))) [] := by
  refine SC.vc tb { pb := [101], ob := [111], gh := [(9, [.fz 3 111])] } [] Tryz.func17 rfl rfl ?_
  have hj := sc_Join (hParts f f.types.length) tSp (by rw [hParts_len]; omega) (by
    have e2 : (tJoin (hParts f f.types.length) tSp).size = (Lib.join ((hParts f f.types.length).map (·.data.toList)) tSp.data.toList).length := by unfold tJoin; exact List.size_toArray
    have h2 := tHd_le f f.types.length
    rw [← hParts_join] at h2
    omega)
  have e0 : (⟨(Lib.join ((hParts f f.types.length).map (·.data.toList)) tSp.data.toList).toArray⟩ : ByteArray) = tHd f f.types.length := hParts_join f f.types.length
  rw [e0] at hj
  refine ⟨[], sc_kind f.ty, sR, trivial, rfl, ?_⟩
  refine ⟨Nat, fun k => [(15, iInt k), (3, .sl 111 ((hParts f k).map sEl).length)], fun k => [(111, .row ⟨9, 1⟩ ((hParts f k).map sEl))], fun k => f.types.length - k, fun k => k ≤ f.types.length, [], 0, Nat.zero_le _, ⟨rfl, rfl, trivial⟩, ⟨rfl, trivial⟩, ?_⟩
  intro k hk
  refine bcase (fun h => ?_) fun h => ?_
  · have hlt : k < f.types.length := lt_of (f := eInt) rfl h
    obtain ⟨t, hx, _, _, _⟩ := at_lt hlt
    have hg : f.types.getD k 0 = t := by rw [List.getD_eq_getElem?_getD, hx]; rfl
    have hl := hParts_len f k
    have hne := hParts_ne f k
    have hall := hParts_all f k
    have hnext : hParts f (k + 1) = (if (k : Int) = f.params then hPut (hParts f k) else hParts f k) ++ [tKind t] := by rw [← hg]; rfl
    refine ⟨map_get (f := eInt) hx, rfl, bcase (fun hb => ?_) fun hb => ?_⟩
    · have hb' : (k : Int) = f.params := eq_of_beq hb
      rw [if_pos hb'] at hnext
      generalize hP : hParts f k = p at *
      have hi : p.length - 1 < p.length := by omega
      have hgi : p[p.length - 1]? = some (p.getD (p.length - 1) ⟨#[]⟩) := by
        rw [List.getD_eq_getElem?_getD, List.getElem?_eq_getElem hi]; rfl
      have hsz := hall _ (List.mem_of_getElem? hgi)
      have hmi := map_get (f := sEl) hgi
      have hm := set_map (p := p)
      generalize p.getD (p.length - 1) ⟨#[]⟩ = w at *
      have hln : (p.map sEl).length = p.length := List.length_map _
      have e1 : ((p.map sEl).length : Int) - 1 = (p.length - 1 : Nat) := by omega
      exact ⟨rfl, i64_sub rfl (by omega), rfl, by omega, e1, VRow.mk (i := p.length - 1) (j := 0) (el := sEl w) (z := .val (.string w)) rfl rfl hmi rfl ⟨str_add (by show _ + 1 ≤ _; omega), rfl, by omega, e1, p.length - 1, 0, sEl w, rfl, rfl, hmi, Nat.one_pos, [], sc_kind t, sR, trivial, rfl, by simp, flat1 rfl, by simp; omega, i64_add rfl (by omega), k + 1, step_lt hlt, hlt, ⟨rfl, slq (by rw [hnext]; simp [hPut_len]), trivial⟩, ⟨rwq (by rw [hnext, List.map_append, ← hm]; rfl), trivial⟩, rfl, rfl, rfl, rfl⟩⟩
    · have hb' : ¬ (k : Int) = f.params := by simpa using hb
      rw [if_neg hb'] at hnext
      exact ⟨[], sc_kind t, sR, trivial, rfl, rfl, flat1 rfl, by simp; omega, i64_add rfl (by omega), k + 1, step_lt hlt, hlt, ⟨rfl, slq (by rw [hnext]; simp), trivial⟩, ⟨rwq (by rw [hnext, List.map_append]; rfl), trivial⟩, rfl, rfl, rfl, rfl⟩
  · have hge : f.types.length ≤ k := ge_of (f := eInt) rfl h
    have hk' : k = f.types.length := by omega
    subst hk'
    exact ⟨rfl, [], hj, sR, trivial, rfl, sI, trivial⟩
def tArr (a : Ar) : ByteArray := ⟨#[97, 114, 114, 97, 121, 32]⟩ ++ a.name ++ tSp ++ tNum a.size ++ tNl
def tFlw (f : Fl) : ByteArray := tHd f f.types.length ++ tNl ++ tLs tTab f.body
def tUnit (u : Un) : ByteArray := tCat (u.arrays.map tArr) ++ tCat (u.flows.map tFlw)
def printOf (u : Un) : ByteArray × Int := if (r8Check u).1 = 0 then (tUnit u, 0) else (⟨#[]⟩, 1)
structure PrOk (u : Un) : Prop where
  w : r8Weight u ≤ 536870912
  n : ∀ f ∈ u.flows, n64L f.body
theorem gA_ok {u : Un} : ∀ {l : List Ar} {i : Int}, r8gA u l i = true → ∀ a ∈ l, 1 ≤ a.size ∧ a.size ≤ 1000
  | b :: r, i, h, a, ha => by
    simp only [r8gA, Bool.and_eq_true, gArr, Bool.not_eq_true', decide_eq_false_iff_not] at h
    rcases List.mem_cons.1 ha with rfl | ha
    · omega
    · exact gA_ok h.2 a ha
theorem gF_ok {u : Un} : ∀ {l : List Fl} {i : Int}, r8gF u l i = true → ∀ f ∈ l, f.ty = 1 ∨ f.ty = 2
  | b :: r, i, h, a, ha => by
    simp only [r8gF, Bool.and_eq_true, gFlw, Bool.or_eq_true, beq_iff_eq] at h
    rcases List.mem_cons.1 ha with rfl | ha
    · exact h.1.1.1.2
    · exact gF_ok h.2 a ha
theorem arrs_ok {u : Un} (h : (r8Check u).1 = 0) : ∀ a ∈ u.arrays, 1 ≤ a.size ∧ a.size ≤ 1000 := by
  obtain ⟨h1, _⟩ := (check_iff u).1 h
  simp only [r8globals, Bool.and_eq_true] at h1
  exact gA_ok h1.1.1
theorem flws_ty {u : Un} (h : (r8Check u).1 = 0) : ∀ f ∈ u.flows, f.ty = 1 ∨ f.ty = 2 := by
  obtain ⟨h1, _⟩ := (check_iff u).1 h
  simp only [r8globals, Bool.and_eq_true] at h1
  exact gF_ok h1.1.2
theorem flws_tys {u : Un} (h : (r8Check u).1 = 0) : ∀ f ∈ u.flows, ∀ t ∈ f.types, t = 1 ∨ t = 2 := by
  obtain ⟨_, h1⟩ := (check_iff u).1 h
  intro f hf t ht
  have h2 := h1 f hf
  simp only [r8Flow, Bool.and_eq_true] at h2
  have h3 := List.all_eq_true.1 h2.1.2 t ht
  simpa using h3
theorem flws_ne {u : Un} (h : (r8Check u).1 = 0) : u.flows ≠ [] := by
  obtain ⟨h1, _⟩ := (check_iff u).1 h
  simp only [r8globals, r8main, Bool.and_eq_true, decide_eq_true_eq] at h1
  intro e
  rw [e] at h1
  simp [r8Place] at h1
theorem tArr_le {a : Ar} (h : 1 ≤ a.size ∧ a.size ≤ 1000) : (tArr a).size ≤ a.name.size + 29 := by
  have := tNum_le (n := a.size) ⟨by omega, by omega⟩
  simp only [tArr, size_app]
  show 6 + _ + 1 + _ + 1 ≤ _
  omega
theorem tArrs_le : ∀ {l : List Ar}, (∀ a ∈ l, 1 ≤ a.size ∧ a.size ≤ 1000) → (tCat (l.map tArr)).size ≤ wtA l + 29 * l.length
  | [], _ => by show 0 ≤ _; omega
  | a :: r, h => by
    have h1 := tArr_le (h a (.head _))
    have h2 := tArrs_le fun b hb => h b (.tail _ hb)
    simp only [List.map_cons, tCat, size_app, wtA, List.length_cons]
    omega
theorem tFlw_le {f : Fl} (h : ok64L 100 f.body) : (tFlw f).size ≤ (f.name.size + f.types.length + r8nodes f.body + 1) * 1024 := by
  have h1 := tHd_le f f.types.length
  have h2 := tLs_le tTab 100 f.body h (by decide)
  simp only [tFlw, size_app, r8nodes]
  have e1 : tNl.size = 1 := rfl
  omega
theorem tFlws_le : ∀ {l : List Fl}, (∀ f ∈ l, ok64L 100 f.body) → (tCat (l.map tFlw)).size ≤ (wtF l + l.length) * 1024
  | [], _ => by show 0 ≤ _; omega
  | f :: r, h => by
    have h1 := tFlw_le (h f (.head _))
    have h2 := tFlws_le fun g hg => h g (.tail _ hg)
    simp only [List.map_cons, tCat, size_app, wtF, List.length_cons]
    omega
theorem tUnit_le {u : Un} (h : (r8Check u).1 = 0) (ho : PrOk u) : (tUnit u).size ≤ 549755813888 := by
  have h1 := tArrs_le (arrs_ok h)
  have h2 := tFlws_le fun f hf => (body_ok h hf (ho.n f hf)).2
  have h3 := ho.w
  simp only [r8Weight] at h3
  simp only [tUnit, size_app]
  omega
set_option maxRecDepth 20000
set_option maxHeartbeats 4000000
theorem tCat_app : ∀ a b : List ByteArray, tCat (a ++ b) = tCat a ++ tCat b
  | [], b => by simp only [List.nil_append, tCat, nil_app]
  | x :: r, b => by simp only [List.cons_append, tCat, tCat_app r b, app_assoc]
theorem tCat_part {α : Type} (g : α → ByteArray) (l : List α) (k : Nat) : (tCat ((l.take k).map g)).size ≤ (tCat (l.map g)).size := by
  have h : tCat (l.map g) = tCat ((l.take k).map g) ++ tCat ((l.drop k).map g) := by rw [← tCat_app, ← List.map_append, List.take_append_drop]
  rw [h, size_app]
  omega
theorem tCat_next {α : Type} (g : α → ByteArray) {l : List α} {k : Nat} {x : α} (h : l.take (k + 1) = l.take k ++ [x]) : tCat ((l.take (k + 1)).map g) = tCat ((l.take k).map g) ++ g x := by
  rw [h, List.map_append, tCat_app]
  simp only [List.map_cons, List.map_nil, tCat, app_nil]
theorem wtF_at : ∀ {l : List Fl} {f : Fl}, f ∈ l → f.name.size + f.types.length + r8nodes f.body ≤ wtF l
  | g :: r, f, h => by
    simp only [wtF]
    rcases List.mem_cons.1 h with rfl | h
    · omega
    · have := wtF_at h; omega
theorem sc_shTypes (u : Un) (f : Fl) (st : List Int) (hs : st.length = f.types.length) (l : List Int) (hb : l.length ≤ 1073741824) : SC Tryz.prog 126 [.ptr 3 0, .pv (ints l)] (ckS u f 3 st) (fun k => k < 100) (.pv (ints (r8of f.types l))) (ckS u f 3 st) := by
  refine SC.of Tryz.func126 rfl (lb rfl) fun F ρ w => ?_
  refine Tr.lenOf (t := 1) rfl (fun hl => ?_)
  simp only [List.length_map] at hl
  rw [r8of_eq]
  refine tQ <| tG <| sm 1 rfl <| nL <| tQ <| tQ <| Tr.grow (t := 4) (k := 104) ⟨3, 1⟩ rfl rfl rfl rfl rfl <| tG <| sm 1 rfl <| cV rfl (oSm Tryz.underlying35 rfl) <| sm 1 rfl <| nL ?_
  refine Tr.block <| Tr.sub (Sub.of (fr' := [(9, iInt 0), (8, iInt l.length), (7, .pv (ints l)), (4, .sl 104 0), (0, .ptr 3 0)]) ⟨rfl, rfl, rfl, rfl, rfl, trivial⟩) ?_
  refine Tr.loop (fun fr σ m => ∃ (k : Nat) (acc : List Int), (k ≤ l.length) ∧ (acc.length = k) ∧ (r8ofGo f.types [] l = r8ofGo f.types acc (l.drop k)) ∧ fr = [(9, iInt k), (8, iInt l.length), (7, .pv (ints l)), (4, .sl 104 k), (0, .ptr 3 0)] ∧ σ = look ((104, some (.row ⟨3, 1⟩ (acc.map eInt))) :: up (ckS u f 3 st)) ∧ m = l.length - k) (n := l.length - 0) ?_ ?_
  ·exact ⟨0, [], Nat.zero_le _, rfl, rfl, rfl, rfl, rfl⟩
  rintro fr σ m ⟨k, acc, hI0, hI1, hI2, rfl, rfl, rfl⟩
  refine tQ <| tG <| sm 1 rfl <| nL <| tQ ?_
  refine tC rfl (fun hc10 => ?_) fun hc10 => ?_
  ·have hlt : k < l.length := by simpa using hc10
   have hd := List.drop_eq_getElem_cons hlt
   have hm := List.getElem_mem hlt
   have hi := map_get (f := eInt) (List.getElem?_eq_getElem hlt)
   generalize l[k] = x at hd hm hi
   refine Tr.skip <| tQ <| Tr.block <| tQ <| tG <| cV rfl (ok_index_seq rfl rfl rfl Tryz.underlying35 hi tS3 rfl (by rfl)) <| sm 2 rfl <| nL <| tQ <| tQ <| tG <| sm 2 rfl ?_
   refine cE rfl (ocr (sc_shVal u f st x 0) ent141 rfl (po2 rfl rfl) rfl (fun k (h : _) => .inr trivial) rfl rfl) <| sm 1 rfl <| nL ?_
   refine tC rfl (fun hc16 => ?_) fun hc16 => ?_
   ·refine tQ <| tG <| sm 1 rfl <| nL <| Tr.ret ?_
    have hin : r8inr f.types x = false := by
      cases hr : r8inr f.types x with
      | false => rfl
      | true => simp [r8inr] at hr; simp [shVal] at hc16; omega
    rw [hI2, hd]
    simp only [r8ofGo, hin]
    exact ⟨⟨_, rfl, fun _ _ _ _ h => sub_nil h⟩, (po2 rfl rfl)⟩
   have hin : r8inr f.types x = true := by simp [shVal] at hc16; simp [r8inr]; omega
   have hv0 : x.toNat < f.types.length := by simp [r8inr] at hin; omega
   have hvx : x = ((x.toNat : Nat) : Int) := by simp [r8inr] at hin; omega
   have hty : (f.types.map eInt)[x.toNat]? = some [vInt (f.types.getD x.toNat 0)] := by rw [List.getElem?_map]; simp [eInt, List.getD, hv0]
   refine Tr.skip <| tG <| sm 2 rfl <| cV rfl (ok_nilCheck rfl rfl rfl) <| sm 4 rfl <| cV rfl (ok_index_seq rfl rfl rfl Tryz.underlying35 hty tS3 rfl (by omega)) <| sm 1 rfl <| cE rfl (ok_buildSlice rfl rfl Tryz.underlying35 tZ3 tS3 rfl rfl rfl rfl (firmB_ok rfl) rfl) ?_
   refine cE rfl (ok_append rfl rfl rfl rfl (by (simp; omega)) (by simp) Tryz.underlying35 tB3 (by decide) (by (simp [chunks]; done)) (by (simp [chunks, PV.one]; rfl)) (by simp [maxLen, chunks]; omega) (by simp [chunks]; omega)) ?_
   refine sm 1 rfl <| nL <| tG <| cV rfl (oB rfl rfl (i64_add rfl (by omega))) <| sm 1 rfl <| nL ?_
   refine ⟨_, _, ?_, Sub.of (fr' := [(9, iInt (k + 1)), (8, iInt l.length), (7, .pv (ints l)), (4, .sl 104 (k + 1)), (0, .ptr 3 0)]) ⟨rfl, rfl, rfl, rfl, rfl, trivial⟩, (k + 1), (acc ++ [f.types.getD x.toNat 0]), ?_, ?_, ?_, rfl, look_row_snoc2, rfl⟩
   ·omega
   ·omega
   ·simp [hI1]
   rw [hI2, hd]
   simp [r8ofGo, hin]
  refine Tr.exit <| tQ ?_
  refine Tr.freeze (t := 4) (k := 104) rfl rfl (by simpa using hI1) ?_
  refine tG <| sm 2 rfl <| nL <| Tr.ret <| ret_ok rfl ?_ (po2 rfl rfl)
  have hge : l.length ≤ k := by simpa using hc10
  rw [hI2, List.drop_eq_nil_of_le hge]
  rfl
theorem sc_shSum (u : Un) (f : Fl) (st : List Int) (hs : st.length = f.types.length) (x : Nd) : SC Tryz.prog 130 [.ptr 3 0, .pv (ndv x)] (ckS u f 3 st) (fun k => k = 3) (iBool (shSum f st x).1) (ckS u f 3 (shSum f st x).2) := by
  refine SC.of Tryz.func130 rfl (lb rfl) fun F ρ w => ?_
  refine tQ <| tG <| cE rfl (ok_box rfl rfl) <| sm 1 rfl <| nL <| tQ <| tG <| sm 2 rfl <| cE rfl (ocq (sc_shOperand _) ent145 rfl rfl) <| sm 1 rfl <| cV rfl (ok_extract rfl rfl rfl) <| cV rfl (ok_extract rfl rfl rfl) ?_
  refine sm 2 rfl <| nL <| tQ <| tQ <| tG <| sm 3 rfl <| nL ?_
  refine tC rfl (fun hc16 => ?_) fun hc16 => ?_
  ·refine tQ <| tG <| sm 4 rfl ?_
   refine wS 20 rfl (fun hb20 => ?_) fun hb20 => ?_
   ·refine sm 5 rfl ?_
    refine wS 25 rfl (fun hb25 => ?_) fun hb25 => ?_
    ·refine sm 4 rfl <| WL.yes rfl rfl rfl rfl rfl rfl (ok_buildSlice rfl rfl Tryz.underlying35 tZ3 tS3 rfl rfl rfl rfl (firmB_ok rfl) rfl) <| WL.yes rfl rfl rfl rfl rfl rfl (ok_callr (sc_shUses u f st hs x.args [(shOperand x.op).1]) ent127 rfl rfl (Subs.refl _ _) (po2 rfl rfl) (by rfl) (fun k (h : _) => .inr trivial) rfl (by rfl)) <| sm 2 rfl ?_
     refine wS 33 rfl (fun hb33 => ?_) fun hb33 => ?_
     ·refine sm 4 rfl <| WL.yes rfl rfl rfl rfl rfl rfl (ok_buildSlice rfl rfl Tryz.underlying35 tZ3 tS3 rfl rfl rfl rfl (firmB_ok rfl) rfl) <| WL.yes rfl rfl rfl rfl rfl rfl (ok_callr (sc_shSets u f st hs x.outs [(shOperand x.op).2]) ent129 rfl rfl (Subs.refl _ _) (po2 rfl rfl) (by rfl) (fun k (h : _) => .inr h) rfl (by rfl)) <| sm 2 rfl <| nL <| Tr.ret ?_
      (have h2 : (shSum f st x).2 = (shSets f.types st x.outs [(shOperand x.op).2]).2 := (by simp_all [shSum, r1IsOne, andP]; done)
       rw [h2]
       refine ret_ok rfl ?_ (po2 rfl rfl)
       clear h2
       skip
       simp_all [shSum, r1IsOne, andP]
       done)
     refine sm 8 rfl <| nL <| Tr.ret ?_
     (have h2 : (shSum f st x).2 = st := (by simp_all [shSum, r1IsOne, andP]; done)
      rw [h2]
      refine ret_ok rfl ?_ (po2 rfl rfl)
      clear h2
      skip
      simp_all [shSum, r1IsOne, andP]
      done)
    refine sm 16 rfl <| nL <| Tr.ret ?_
    (have h2 : shSum f st x = (false, st) := (by (first | (simp_all [shSum, r1IsOne, andP]; done) | (simp_all [shSum, r1IsOne, andP] <;> omega)))
     rw [h2]
     exact ret_ok rfl rfl (po2 rfl rfl))
   refine sm 21 rfl <| nL <| Tr.ret ?_
   (have h2 : shSum f st x = (false, st) := (by (first | (simp_all [shSum, r1IsOne, andP]; done) | (simp_all [shSum, r1IsOne, andP] <;> omega)))
    rw [h2]
    exact ret_ok rfl rfl (po2 rfl rfl))
  refine Tr.skip <| tQ <| tG <| sm 2 rfl <| cE rfl (ocq (sc_wLevel _) ent146 rfl rfl) <| sm 2 rfl ?_
  refine wS 45 rfl (fun hb45 => ?_) fun hb45 => ?_
  ·refine sm 5 rfl ?_
   refine wS 50 rfl (fun hb50 => ?_) fun hb50 => ?_
   ·refine sm 5 rfl <| WL.yes rfl rfl rfl rfl rfl rfl (ok_buildSlice rfl rfl Tryz.underlying35 tZ3 tS3 rfl rfl rfl rfl (firmB_ok rfl) rfl) <| WL.yes rfl rfl rfl rfl rfl rfl (ok_callr (sc_shUses u f st hs x.args [(shOperand x.op).1, (shOperand x.op).1]) ent127 rfl rfl (Subs.refl _ _) (po2 rfl rfl) (by rfl) (fun k (h : _) => .inr trivial) rfl (by rfl)) <| sm 2 rfl <| nL <| tQ <| Tr.drawn mixed (fun k => k ∈ ([3] : List Nat)) <| wR 4 [0, 1, 2, 3, 4, 5, 6, 7, 8, 9, 10, 11, 12, 13, 14, 15, 16, 17, 18, 19, 20, 21, 22, 23, 24, 25, 26, 27, 28, 29, 30] (by kernel_rfl) (fun _ _ _ h => h) <| smR 2 rfl ?_
    refine WR.split (t := 60) rfl (fun hb60 => ?_) (fun hb60 => ?_)
    ·obtain ⟨a, b, hab, ha0, hal, hb0, hbl⟩ := shUses_two (by simpa using hb60)
     have hi0 : (x.args.map eInt)[0]? = some [vInt a] := by rw [hab]; rfl
     have hi1 : (x.args.map eInt)[1]? = some [vInt b] := by rw [hab]; rfl
     have hta : (f.types.map eInt)[a.toNat]? = some [vInt (f.types.getD a.toNat 0)] := by rw [List.getElem?_map]; simp [eInt, List.getD, hal]
     have htb : (f.types.map eInt)[b.toNat]? = some [vInt (f.types.getD b.toNat 0)] := by rw [List.getElem?_map]; simp [eInt, List.getD, hbl]
     refine smR 1 rfl <| ryV rfl rfl rfl (ok_nilCheck rfl rfl rfl) <| smR 2 rfl <| ryV rfl rfl rfl (oLb Tryz.underlying35 rfl rfl rfl (by decide)) <| smR 2 rfl <| ryV rfl rfl rfl (ok_index_seq rfl rfl rfl Tryz.underlying35 hi0 tS3 rfl (by rfl)) <| smR 1 rfl <| ryV rfl rfl rfl (ok_index_seq rfl rfl rfl Tryz.underlying35 hta tS3 rfl (by omega)) <| smR 2 rfl <| ryV rfl rfl rfl (ok_nilCheck rfl rfl rfl) <| smR 2 rfl <| ryV rfl rfl rfl (oLb Tryz.underlying35 rfl rfl rfl (by decide)) ?_
     refine smR 2 rfl <| ryV rfl rfl rfl (ok_index_seq rfl rfl rfl Tryz.underlying35 hi1 tS3 rfl (by rfl)) <| smR 1 rfl <| ryV rfl rfl rfl (ok_index_seq rfl rfl rfl Tryz.underlying35 htb tS3 rfl (by omega)) <| smR 4 rfl ?_
     refine WR.split (t := 85) rfl (fun hb85 => ?_) (fun hb85 => ?_)
     ·refine smR 4 rfl <| nR <| wO 31 (by kernel_rfl) <| wY rfl rfl rfl (fun k (h : _) => by (simp at h ⊢; omega)) nw (fun _ _ => ok_buildSlice rfl rfl Tryz.underlying35 tZ3 tS3 rfl rfl rfl rfl (firmB_ok rfl) rfl) <| wO 32 (by kernel_rfl) <| wY rfl rfl rfl (fun k (h : _) => by (simp at h ⊢; omega)) (new_app rfl) (fun _ _ => ocr (sc_shSets u f st hs x.outs [(shOperand x.op).2]) ent129 rfl (po2 rfl rfl) rfl (fun k (h : _) => by (simp only [List.mem_cons, List.not_mem_nil, or_false] at h; rcases h with rfl <;> first | exact .inl rfl | exact .inr rfl | exact .inr (by decide))) rfl rfl) <| wR 0 [33, 34] (by kernel_rfl) (fun _ _ _ h => h) <| smR 2 rfl <| nR <| WA.done (by kernel_rfl) <| Tr.ret ?_
      (have h2 : (shSum f st x).2 = (shSets f.types st x.outs [(shOperand x.op).2]).2 := (by (try (clear ha0 hb0)); simp_all [shSum, andP]; done)
       rw [h2]
       refine ret_ok rfl ?_ (po2 rfl rfl)
       clear h2
       try (clear ha0 hb0)
       simp_all [shSum, andP]
       done)
     refine smR 4 rfl <| nR <| wN 31 (by kernel_rfl) (fun _ _ _ h => h) rfl rfl rfl <| wN 32 (by kernel_rfl) (fun _ _ _ h => h) rfl rfl rfl <| wR 0 [33, 34] (by kernel_rfl) (fun _ _ _ h => h) <| smR 2 rfl <| nR <| WA.done (by kernel_rfl) <| Tr.ret ?_
     (have h2 : (shSum f st x).2 = st := (by (try (clear ha0 hb0)); simp_all [shSum, andP]; done)
      rw [h2]
      refine ret_ok rfl ?_ (po2 rfl rfl)
      clear h2
      try (clear ha0 hb0)
      simp_all [shSum, andP]
      done)
    refine smR 29 rfl <| nR <| wN 31 (by kernel_rfl) (fun _ _ _ h => h) rfl rfl rfl <| wN 32 (by kernel_rfl) (fun _ _ _ h => h) rfl rfl rfl <| wR 0 [33, 34] (by kernel_rfl) (fun _ _ _ h => h) <| smR 2 rfl <| nR <| WA.done (by kernel_rfl) <| Tr.ret ?_
    (have h2 : (shSum f st x).2 = st := (by (try (clear ha0 hb0)); simp_all [shSum, andP]; done)
     rw [h2]
     refine ret_ok rfl ?_ (po2 rfl rfl)
     clear h2
     try (clear ha0 hb0)
     simp_all [shSum, andP]
     done)
   refine sm 9 rfl <| nL <| tQ <| Tr.drawn mixed (fun k => k ∈ ([3] : List Nat)) <| wR 4 [0, 1, 2, 3, 4, 5, 6, 7, 8, 9, 10, 11, 12, 13, 14, 15, 16, 17, 18, 19, 20, 21, 22, 23, 24, 25, 26, 27, 28, 29, 30] (by kernel_rfl) (fun _ _ _ h => h) <| smR 31 rfl <| nR <| wN 31 (by kernel_rfl) (fun _ _ _ h => h) rfl rfl rfl <| wN 32 (by kernel_rfl) (fun _ _ _ h => h) rfl rfl rfl <| wR 0 [33, 34] (by kernel_rfl) (fun _ _ _ h => h) <| smR 2 rfl <| nR ?_
   refine WA.done (by kernel_rfl) <| Tr.ret ?_
   (have h2 : shSum f st x = (false, st) := (by (try (clear ha0 hb0)); (first | (simp_all [shSum, andP]; done) | (simp_all [shSum, andP] <;> omega)))
    rw [h2]
    exact ret_ok rfl rfl (po2 rfl rfl))
  refine sm 14 rfl <| nL <| tQ <| Tr.drawn mixed (fun k => k ∈ ([3] : List Nat)) <| wR 4 [0, 1, 2, 3, 4, 5, 6, 7, 8, 9, 10, 11, 12, 13, 14, 15, 16, 17, 18, 19, 20, 21, 22, 23, 24, 25, 26, 27, 28, 29, 30] (by kernel_rfl) (fun _ _ _ h => h) <| smR 31 rfl <| nR <| wN 31 (by kernel_rfl) (fun _ _ _ h => h) rfl rfl rfl <| wN 32 (by kernel_rfl) (fun _ _ _ h => h) rfl rfl rfl <| wR 0 [33, 34] (by kernel_rfl) (fun _ _ _ h => h) <| smR 2 rfl <| nR ?_
  refine WA.done (by kernel_rfl) <| Tr.ret ?_
  (have h2 : shSum f st x = (false, st) := (by (try (clear ha0 hb0)); (first | (simp_all [shSum, andP]; done) | (simp_all [shSum, andP] <;> omega)))
   rw [h2]
   exact ret_ok rfl rfl (po2 rfl rfl))
theorem sc_shEnd (u : Un) (f : Fl) (st : List Int) (hs : st.length = f.types.length) (x : Nd) (wh : Wh) : SC Tryz.prog 109 [.ptr 3 0, .pv (ndv x), .pv (whv wh)] (ckS u f 3 st) (fun k => k = 3) (iBool (shEnd f st x wh)) (ckS u f 3 st) := by
  refine SC.of Tryz.func109 rfl (lb rfl) fun F ρ w => ?_
  refine tQ <| tG <| cE rfl (ok_box rfl rfl) <| cE rfl (ok_box rfl rfl) <| sm 1 rfl <| nL <| tQ <| tG <| sm 2 rfl <| cV rfl (oSm Tryz.underlying35 rfl) <| sm 2 rfl <| nL ?_
  refine tQ <| tQ <| tG <| sm 2 rfl <| nL <| Tr.block <| tQ <| tG <| sm 2 rfl <| nL ?_
  refine tC rfl (fun hc14 => ?_) fun hc14 => ?_
  ·refine tQ <| tG <| sm 2 rfl ?_
   refine wS 17 rfl (fun hb17 => ?_) fun hb17 => ?_
   ·refine sm 4 rfl ?_
    refine wS 21 rfl (fun hb21 => ?_) fun hb21 => ?_
    ·refine sm 5 rfl <| WL.yes rfl rfl rfl rfl rfl rfl (ok_callr (sc_shUses u f st hs x.args wh.Yield) ent127 rfl rfl (Subs.refl _ _) (po2 rfl rfl) (by rfl) (fun k (h : _) => .inr trivial) rfl (by rfl)) <| sm 2 rfl <| nL <| Tr.ret <| ret_ok rfl ?_ (post_ok (And.intro rfl (And.intro rfl (trivial))))
     refine congrArg (fun b => iBool b) ?_
     simp_all [shEnd]
    refine sm 8 rfl <| nL <| Tr.ret <| ret_ok rfl ?_ (post_ok (And.intro rfl (And.intro rfl (trivial))))
    refine congrArg (fun b => iBool b) ?_
    simp_all [shEnd]
   refine sm 12 rfl <| nL <| Tr.ret <| ret_ok rfl ?_ (post_ok (And.intro rfl (And.intro rfl (trivial))))
   refine congrArg (fun b => iBool b) ?_
   simp_all [shEnd]
  refine tQ <| tG <| sm 2 rfl <| nL ?_
  refine tC rfl (fun hc29 => ?_) fun hc29 => ?_
  ·refine tQ <| tG <| sm 2 rfl ?_
   refine wS 32 rfl (fun hb32 => ?_) fun hb32 => ?_
   ·refine sm 4 rfl ?_
    refine wS 36 rfl (fun hb36 => ?_) fun hb36 => ?_
    ·refine sm 5 rfl <| WL.yes rfl rfl rfl rfl rfl rfl (ok_callr (sc_shUses u f st hs x.args wh.Next) ent127 rfl rfl (Subs.refl _ _) (po2 rfl rfl) (by rfl) (fun k (h : _) => .inr trivial) rfl (by rfl)) <| sm 2 rfl <| nL <| Tr.ret <| ret_ok rfl ?_ (post_ok (And.intro rfl (And.intro rfl (trivial))))
     refine congrArg (fun b => iBool b) ?_
     simp_all [shEnd]
    refine sm 8 rfl <| nL <| Tr.ret <| ret_ok rfl ?_ (post_ok (And.intro rfl (And.intro rfl (trivial))))
    refine congrArg (fun b => iBool b) ?_
    simp_all [shEnd]
   refine sm 12 rfl <| nL <| Tr.ret <| ret_ok rfl ?_ (post_ok (And.intro rfl (And.intro rfl (trivial))))
   refine congrArg (fun b => iBool b) ?_
   simp_all [shEnd]
  refine tQ <| tG <| sm 2 rfl <| nL ?_
  refine tC rfl (fun hc44 => ?_) fun hc44 => ?_
  ·refine tQ <| tG <| sm 2 rfl ?_
   refine wS 47 rfl (fun hb47 => ?_) fun hb47 => ?_
   ·refine sm 4 rfl ?_
    refine wS 51 rfl (fun hb51 => ?_) fun hb51 => ?_
    ·refine sm 5 rfl <| WL.yes rfl rfl rfl rfl rfl rfl (ok_callr (sc_shUses u f st hs x.args wh.Left) ent127 rfl rfl (Subs.refl _ _) (po2 rfl rfl) (by rfl) (fun k (h : _) => .inr trivial) rfl (by rfl)) <| sm 2 rfl <| nL <| Tr.ret <| ret_ok rfl ?_ (post_ok (And.intro rfl (And.intro rfl (trivial))))
     refine congrArg (fun b => iBool b) ?_
     simp_all [shEnd]
    refine sm 8 rfl <| nL <| Tr.ret <| ret_ok rfl ?_ (post_ok (And.intro rfl (And.intro rfl (trivial))))
    refine congrArg (fun b => iBool b) ?_
    simp_all [shEnd]
   refine sm 12 rfl <| nL <| Tr.ret <| ret_ok rfl ?_ (post_ok (And.intro rfl (And.intro rfl (trivial))))
   refine congrArg (fun b => iBool b) ?_
   simp_all [shEnd]
  refine Tr.skip <| tQ <| Tr.drawn mixed (fun k => k ∈ ([3, 4] : List Nat)) <| wR 4 [0, 1, 2, 3, 4, 5, 6, 7, 8, 9] (by kernel_rfl) (fun _ _ _ h => h) <| smR 2 rfl ?_
  refine WR.split (t := 60) rfl (fun hb60 => ?_) (fun hb60 => ?_)
  ·refine smR 4 rfl <| ryV rfl rfl rfl (ok_nilCheck rfl rfl rfl) <| smR 2 rfl <| ryV rfl rfl rfl (oLb Tryz.underlying3 rfl rfl rfl (by decide)) <| nR <| wO 10 (by kernel_rfl) <| wY rfl rfl rfl (fun k (h : _) => by (simp at h ⊢; omega)) nw (fun _ _ => ok_buildSlice rfl rfl Tryz.underlying35 tZ3 tS3 rfl rfl rfl rfl (firmB_ok rfl) rfl) <| wO 11 (by kernel_rfl) <| wY rfl rfl rfl (fun k (h : _) => by (simp at h ⊢; omega)) (new_app rfl) (fun _ _ => ocr (sc_shUses u f st hs x.args [f.ty]) ent127 rfl (po2 rfl rfl) rfl (fun k (h : _) => .inr trivial) rfl rfl) <| wR 0 [12, 13] (by kernel_rfl) (fun _ _ _ h => h) <| smR 2 rfl <| nR ?_
   refine WA.done (by kernel_rfl) <| Tr.ret <| ret_ok rfl ?_ (post_ok (And.intro rfl (And.intro rfl (trivial))))
   refine congrArg (fun b => iBool b) ?_
   simp_all [shEnd]
  refine smR 8 rfl <| nR <| wN 10 (by kernel_rfl) (fun _ _ _ h => h) rfl rfl rfl <| wN 11 (by kernel_rfl) (fun _ _ _ h => h) rfl rfl rfl <| wR 0 [12, 13] (by kernel_rfl) (fun _ _ _ h => h) <| smR 2 rfl <| nR <| WA.done (by kernel_rfl) <| Tr.ret <| ret_ok rfl ?_ (post_ok (And.intro rfl (And.intro rfl (trivial))))
  refine congrArg (fun b => iBool b) ?_
  simp_all [shEnd]
set_option maxRecDepth 20000
theorem sc_shSimple (u : Un) (f : Fl) (st : List Int) (hs : st.length = f.types.length) (hg : ∀ g ∈ u.flows, 0 ≤ g.params ∧ g.params ≤ g.types.length) (x : Nd) : SC Tryz.prog 110 [.ptr 3 0, .pv (ndv x)] (ckS u f 3 st) (fun k => k = 3) (iBool (shSimple u f st x).1) (ckS u f 3 (shSimple u f st x).2) := by
  refine SC.sameR (SC.vc tb {} [3] Tryz.func110 rfl rfl ?_) fun k _ h => List.mem_singleton.2 h
  obtain ⟨kind, op, n, name, args, outs, params, kids⟩ := x
  rcases (show kind = 1 ∨ kind = 2 ∨ kind = 3 ∨ kind = 4 ∨ kind = 5 ∨ kind = 6 ∨ kind = 8 ∨ kind = 9 ∨ kind = 7 ∨ (kind ≠ 1 ∧ kind ≠ 2 ∧ kind ≠ 3 ∧ kind ≠ 4 ∧ kind ≠ 5 ∧ kind ≠ 6 ∧ kind ≠ 8 ∧ kind ≠ 9 ∧ kind ≠ 7) by omega) with rfl | rfl | rfl | rfl | rfl | rfl | rfl | rfl | rfl | h
  · have e : shSimple u f st (.mk 1 op n name args outs params kids) = andP (shUses f.types st args []) st (shSets f.types st outs [1]) := rfl
    rw [e]
    have h1 := sc_shUses u f st hs args []
    generalize shUses f.types st args [] = b at h1 ⊢
    cases b
    · exact ⟨[], h1, SubA.same (SubA.same (SubA.cons sN SubA.nil)), ⟨rfl, trivial, rfl, trivial⟩, rfl, sI, rfl, rfl, trivial⟩
    · exact ⟨[], h1, SubA.same (SubA.same (SubA.cons sN SubA.nil)), ⟨rfl, trivial, rfl, trivial⟩, rfl, [], sc_shSets u f st hs outs [1], sR, ⟨rfl, rfl, rfl, trivial⟩, rfl, sI, rfl, rfl, trivial⟩
  · have e : shSimple u f st (.mk 2 op n name args outs params kids) = andP ((n == 0 || n == 1) && shUses f.types st args []) st (shSets f.types st outs [2]) := rfl
    rw [e]
    have h1 := sc_shUses u f st hs args []
    generalize shUses f.types st args [] = b at h1 ⊢
    rcases (show n = 0 ∨ n = 1 ∨ ((n == 0) = false ∧ (n == 1) = false) by simp; omega) with rfl | rfl | ⟨h2, h3⟩
    · cases b
      · exact ⟨[], h1, SubA.same (SubA.same (SubA.cons sN SubA.nil)), ⟨rfl, trivial, rfl, trivial⟩, rfl, sI, rfl, rfl, trivial⟩
      · exact ⟨[], h1, SubA.same (SubA.same (SubA.cons sN SubA.nil)), ⟨rfl, trivial, rfl, trivial⟩, rfl, [], sc_shSets u f st hs outs [2], sR, ⟨rfl, rfl, rfl, trivial⟩, rfl, sI, rfl, rfl, trivial⟩
    · cases b
      · exact ⟨[], h1, SubA.same (SubA.same (SubA.cons sN SubA.nil)), ⟨rfl, trivial, rfl, trivial⟩, rfl, sI, rfl, rfl, trivial⟩
      · exact ⟨[], h1, SubA.same (SubA.same (SubA.cons sN SubA.nil)), ⟨rfl, trivial, rfl, trivial⟩, rfl, [], sc_shSets u f st hs outs [2], sR, ⟨rfl, rfl, rfl, trivial⟩, rfl, sI, rfl, rfl, trivial⟩
    · rw [show ((n == 0 || n == 1) && b) = false by rw [h2, h3]; rfl]
      refine bcase (fun h => absurd (h.symm.trans h2) (by decide)) fun _ => bcase (fun h => absurd (h.symm.trans h3) (by decide)) fun _ => ?_
      exact ⟨sI, rfl, rfl, trivial⟩
  · exact ⟨[], sc_shSum u f st hs (.mk 3 op n name args outs params kids), sR, ⟨rfl, rfl, rfl, trivial⟩, rfl, sI, rfl, rfl, trivial⟩
  · exact ⟨[], sc_shSum u f st hs (.mk 4 op n name args outs params kids), sR, ⟨rfl, rfl, rfl, trivial⟩, rfl, sI, rfl, rfl, trivial⟩
  · have e : shSimple u f st (.mk 5 op n name args outs params kids) = andP (decide (r8Array name u.arrays 0 ≥ 0) && shUses f.types st args [1]) st (shSets f.types st outs [1]) := rfl
    rw [e]
    have h0 := sc_shHas u name
    have h1 := sc_shUses u f st hs args [1]
    generalize shUses f.types st args [1] = b at h1 ⊢
    generalize decide (r8Array name u.arrays 0 ≥ 0) = c at h0 ⊢
    cases c
    · exact ⟨[], h0, sR, trivial, rfl, sI, rfl, rfl, trivial⟩
    · cases b
      · exact ⟨[], h0, sR, trivial, rfl, [], h1, sR, ⟨rfl, trivial, rfl, trivial⟩, rfl, sI, rfl, rfl, trivial⟩
      · exact ⟨[], h0, sR, trivial, rfl, [], h1, sR, ⟨rfl, trivial, rfl, trivial⟩, rfl, [], sc_shSets u f st hs outs [1], sR, ⟨rfl, rfl, rfl, trivial⟩, rfl, sI, rfl, rfl, trivial⟩
  · have e : shSimple u f st (.mk 6 op n name args outs params kids) = andP (decide (r8Array name u.arrays 0 ≥ 0) && shUses f.types st args [1, 1]) st (shSets f.types st outs []) := rfl
    rw [e]
    have h0 := sc_shHas u name
    have h1 := sc_shUses u f st hs args [1, 1]
    generalize shUses f.types st args [1, 1] = b at h1 ⊢
    generalize decide (r8Array name u.arrays 0 ≥ 0) = c at h0 ⊢
    cases c
    · exact ⟨[], h0, sR, trivial, rfl, sI, rfl, rfl, trivial⟩
    · cases b
      · exact ⟨[], h0, sR, trivial, rfl, [], h1, sR, ⟨rfl, trivial, rfl, trivial⟩, rfl, sI, rfl, rfl, trivial⟩
      · exact ⟨[], h0, sR, trivial, rfl, [], h1, sR, ⟨rfl, trivial, rfl, trivial⟩, rfl, [], sc_shSets u f st hs outs [], SubA.same (SubA.same (SubA.cons sN SubA.nil)), ⟨rfl, rfl, rfl, trivial⟩, rfl, sI, rfl, rfl, trivial⟩
  · have e : shSimple u f st (.mk 8 op n name args outs params kids) = andP (shUses f.types st args []) st (shSets f.types st outs [1]) := rfl
    rw [e]
    have h1 := sc_shUses u f st hs args []
    generalize shUses f.types st args [] = b at h1 ⊢
    cases b
    · exact ⟨[], h1, SubA.same (SubA.same (SubA.cons sN SubA.nil)), ⟨rfl, trivial, rfl, trivial⟩, rfl, sI, rfl, rfl, trivial⟩
    · exact ⟨[], h1, SubA.same (SubA.same (SubA.cons sN SubA.nil)), ⟨rfl, trivial, rfl, trivial⟩, rfl, [], sc_shSets u f st hs outs [1], sR, ⟨rfl, rfl, rfl, trivial⟩, rfl, sI, rfl, rfl, trivial⟩
  · have e : shSimple u f st (.mk 9 op n name args outs params kids) = andP (shUses f.types st args [1]) st (shSets f.types st outs []) := rfl
    rw [e]
    have h1 := sc_shUses u f st hs args [1]
    generalize shUses f.types st args [1] = b at h1 ⊢
    cases b
    · exact ⟨[], h1, sR, ⟨rfl, trivial, rfl, trivial⟩, rfl, sI, rfl, rfl, trivial⟩
    · exact ⟨[], h1, sR, ⟨rfl, trivial, rfl, trivial⟩, rfl, [], sc_shSets u f st hs outs [], SubA.same (SubA.same (SubA.cons sN SubA.nil)), ⟨rfl, rfl, rfl, trivial⟩, rfl, sI, rfl, rfl, trivial⟩
  · have e : shSimple u f st (.mk 7 op n name args outs params kids) = shCall u f st (.mk 7 op n name args outs params kids) := rfl
    rw [e]
    refine ⟨[], sc_shPlace u name, sR, trivial, rfl, bcase (fun hc => ?_) fun hc => ?_⟩
    · rw [show shCall u f st (.mk 7 op n name args outs params kids) = (false, st) from if_pos (of_decide_eq_true hc)]
      exact ⟨sI, rfl, rfl, trivial⟩
    · have hl : ¬ r8Place name u.flows 0 < 0 := of_decide_eq_false hc
      have hk0 : r8Place name u.flows 0 ≥ 0 := by omega
      obtain ⟨g, hgk, _⟩ := r8Place_at hk0
      obtain ⟨hgp0, hgpl⟩ := hg g (List.mem_of_getElem? hgk)
      have e2 : shCall u f st (.mk 7 op n name args outs params kids) = andP (shUses f.types st args (g.types.take g.params.toNat)) st (shSets f.types st outs [g.ty]) := by
        show (if r8Place name u.flows 0 < 0 then _ else match u.flows[(r8Place name u.flows 0).toNat]? with | some g => _ | none => _) = _
        rw [if_neg hl, hgk]
        rfl
      rw [e2]
      have h1 := sc_shUses u f st hs args (g.types.take g.params.toNat)
      generalize shUses f.types st args (g.types.take g.params.toNat) = b at h1 ⊢
      have hi := map_get (f := Fl.enc) hgk
      have hkn : (((r8Place name u.flows 0).toNat : Nat) : Int) = r8Place name u.flows 0 := by omega
      have hpn : ((g.params.toNat : Nat) : Int) = g.params := by omega
      have hle : 0 ≤ g.params.toNat := Nat.zero_le _
      have hge : g.params.toNat ≤ (g.types.map eInt).length := by simp; omega
      cases b
      · exact ⟨hi, hkn.symm, _, hpn.symm, hle, hge, hw_int, [], h1, SubA.same (SubA.same (SubA.cons (sP (by simp only [ints, List.map_take]; exact PSub.refl _)) SubA.nil)), ⟨rfl, trivial, rfl, trivial⟩, rfl, sI, rfl, rfl, trivial⟩
      · exact ⟨hi, hkn.symm, _, hpn.symm, hle, hge, hw_int, [], h1, SubA.same (SubA.same (SubA.cons (sP (by simp only [ints, List.map_take]; exact PSub.refl _)) SubA.nil)), ⟨rfl, trivial, rfl, trivial⟩, rfl, [], sc_shSets u f st hs outs [g.ty], sR, ⟨rfl, rfl, rfl, trivial⟩, rfl, sI, rfl, rfl, trivial⟩
  · obtain ⟨h1, h2, h3, h4, h5, h6, h8, h9, h7⟩ := h
    rw [show shSimple u f st (.mk kind op n name args outs params kids) = (false, st) by unfold shSimple; simp [Nd.kind, h1, h2, h3, h4, h5, h6, h7, h8, h9]]
    have no : ∀ {i : Int}, kind ≠ i → (kind == i) = true → False := fun h e => h (eq_of_beq e)
    exact bcase (fun h => (no h1 h).elim) fun _ => bcase (fun h => (no h2 h).elim) fun _ => bcase (fun h => (no h3 h).elim) fun _ => bcase (fun h => (no h4 h).elim) fun _ => bcase (fun h => (no h5 h).elim) fun _ => bcase (fun h => (no h6 h).elim) fun _ => bcase (fun h => (no h8 h).elim) fun _ => bcase (fun h => (no h9 h).elim) fun _ => bcase (fun h => (no h7 h).elim) fun _ => ⟨sI, rfl, rfl, trivial⟩
set_option maxRecDepth 20000
set_option maxHeartbeats 2000000
theorem shTail_c (f : Fl) {x : Nd} (st : List Int) {c : Bool} (h : ((x.outs.length : Int) == 0 || !r8Closed x) = c) : shTail f x st = andP c st (shSets f.types st x.outs (List.replicate x.outs.length 0)) := by rw [shTail, h]
theorem sc_shChoice (u : Un) (f : Fl) (st : List Int) (hs : st.length = f.types.length) (x : Nd) (ka kb : List Nd) (hkids : x.kids = [ka, kb]) (wh : Wh) (deep : Int) (hbo : x.outs.length ≤ 1073741824) (ih : ∀ q ∈ x.kids, ∀ (w : Wh) (st : List Int), st.length = f.types.length → SC Tryz.prog 51 [.ptr 3 0, .pv (nodes q), .pv (whv w), iInt deep] (ckS u f 3 st) (fun k => k = 3) (iBool (shList u f deep w st q).1) (ckS u f 3 (shList u f deep w st q).2)) : SC Tryz.prog 106 [.ptr 3 0, .pv (ndv x), .pv (whv wh), iInt deep] (ckS u f 3 st) (fun k => k = 3) (iBool (if shUses f.types st x.args [2] then andQ (shList u f deep ⟨true, wh.Loop, r8of f.types x.outs, wh.Next, wh.Left⟩ st ka) (fun s1 => andQ (shList u f deep ⟨true, wh.Loop, r8of f.types x.outs, wh.Next, wh.Left⟩ s1 kb) fun s2 => shTail f x s2) else (false, st)).1) (ckS u f 3 (if shUses f.types st x.args [2] then andQ (shList u f deep ⟨true, wh.Loop, r8of f.types x.outs, wh.Next, wh.Left⟩ st ka) (fun s1 => andQ (shList u f deep ⟨true, wh.Loop, r8of f.types x.outs, wh.Next, wh.Left⟩ s1 kb) fun s2 => shTail f x s2) else (false, st)).2) := by
  refine SC.sameR (SC.vc tb {} [3] Tryz.func106 rfl rfl ?_) fun k _ h => List.mem_singleton.2 h
  have hi0 : (x.kids.map eKid)[0]? = some [nodes ka] := by rw [hkids]; rfl
  have hi1 : (x.kids.map eKid)[1]? = some [nodes kb] := by rw [hkids]; rfl
  have hm0 : ka ∈ x.kids := by rw [hkids]; exact .head _
  have hm1 : kb ∈ x.kids := by rw [hkids]; exact .tail _ (.head _)
  have hT := sc_shTypes u f st hs x.outs hbo
  have h1 := sc_shUses u f st hs x.args [2]
  have h2 := ih ka hm0 ⟨true, wh.Loop, r8of f.types x.outs, wh.Next, wh.Left⟩ st hs
  have l2 := (shList_length u f deep ⟨true, wh.Loop, r8of f.types x.outs, wh.Next, wh.Left⟩ st ka).trans hs
  have hC := sc_shClosed x
  generalize shUses f.types st x.args [2] = b1 at h1 ⊢
  generalize shList u f deep ⟨true, wh.Loop, r8of f.types x.outs, wh.Next, wh.Left⟩ st ka = R2 at h2 l2 ⊢
  obtain ⟨b2, st2⟩ := R2
  have h3 := ih kb hm1 ⟨true, wh.Loop, r8of f.types x.outs, wh.Next, wh.Left⟩ st2 l2
  have l3 := (shList_length u f deep ⟨true, wh.Loop, r8of f.types x.outs, wh.Next, wh.Left⟩ st2 kb).trans l2
  cases b1
  · exact ⟨[], hT, sR, ⟨rfl, by decide, rfl, trivial⟩, rfl, [], h1, sR, ⟨rfl, trivial, rfl, trivial⟩, rfl, sI, rfl, rfl, trivial⟩
  cases b2
  · exact ⟨[], hT, sR, ⟨rfl, by decide, rfl, trivial⟩, rfl, [], h1, sR, ⟨rfl, trivial, rfl, trivial⟩, rfl, hi0, rfl, [], h2, sR, ⟨rfl, rfl, rfl, trivial⟩, rfl, sI, rfl, rfl, trivial⟩
  rw [show andQ (true, st2) (fun s1 => andQ (shList u f deep ⟨true, wh.Loop, r8of f.types x.outs, wh.Next, wh.Left⟩ s1 kb) fun s2 => shTail f x s2) = andQ (shList u f deep ⟨true, wh.Loop, r8of f.types x.outs, wh.Next, wh.Left⟩ st2 kb) (fun s2 => shTail f x s2) from rfl]
  generalize shList u f deep ⟨true, wh.Loop, r8of f.types x.outs, wh.Next, wh.Left⟩ st2 kb = R3 at h3 l3 ⊢
  obtain ⟨b3, st3⟩ := R3
  cases b3
  · exact ⟨[], hT, sR, ⟨rfl, by decide, rfl, trivial⟩, rfl, [], h1, sR, ⟨rfl, trivial, rfl, trivial⟩, rfl, hi0, rfl, [], h2, sR, ⟨rfl, rfl, rfl, trivial⟩, rfl, hi1, rfl, [], h3, sR, ⟨rfl, rfl, rfl, trivial⟩, rfl, sI, rfl, rfl, trivial⟩
  rw [show andQ (true, st3) (fun s2 => shTail f x s2) = shTail f x st3 from rfl]
  have hA := sc_shAll u f st3 l3 x.outs hbo
  refine ⟨[], hT, sR, ⟨rfl, by decide, rfl, trivial⟩, rfl, [], h1, sR, ⟨rfl, trivial, rfl, trivial⟩, rfl, hi0, rfl, [], h2, sR, ⟨rfl, rfl, rfl, trivial⟩, rfl, hi1, rfl, [], h3, sR, ⟨rfl, rfl, rfl, trivial⟩, rfl, bcase (fun h => ?_) fun h => ?_⟩
  · rw [shTail_c f st3 (c := true) (by rw [List.length_map] at h; rw [h, Bool.true_or])]
    exact ⟨[], hA, sR, ⟨rfl, rfl, rfl, trivial⟩, rfl, sI, rfl, rfl, trivial⟩
  · rw [List.length_map] at h
    have hq : ((x.outs.length : Int) == 0 || !r8Closed x) = !r8Closed x := by rw [h, Bool.false_or]
    rw [shTail_c f st3 hq]
    generalize r8Closed x = c at hC ⊢
    cases c
    · exact ⟨[], hC, sR, trivial, rfl, [], hA, sR, ⟨rfl, rfl, rfl, trivial⟩, rfl, sI, rfl, rfl, trivial⟩
    · exact ⟨[], hC, sR, trivial, rfl, sI, rfl, rfl, trivial⟩
theorem sc_shLoop (u : Un) (f : Fl) (st : List Int) (hs : st.length = f.types.length) (x : Nd) (ka : List Nd) (hkids : x.kids = [ka]) (deep : Int) (hbo : x.outs.length ≤ 1073741824) (hbp : x.params.length ≤ 1073741824) (ih : ∀ q ∈ x.kids, ∀ (w : Wh) (st : List Int), st.length = f.types.length → SC Tryz.prog 51 [.ptr 3 0, .pv (nodes q), .pv (whv w), iInt deep] (ckS u f 3 st) (fun k => k = 3) (iBool (shList u f deep w st q).1) (ckS u f 3 (shList u f deep w st q).2)) : SC Tryz.prog 107 [.ptr 3 0, .pv (ndv x), iInt deep] (ckS u f 3 st) (fun k => k = 3) (iBool (if shUses f.types st x.args (r8of f.types x.params) then andQ (shSets f.types st x.params (List.replicate x.params.length 0)) (fun s1 => andQ (shList u f deep ⟨false, true, [], r8of f.types x.params, r8of f.types x.outs⟩ s1 ka) fun s2 => shTail f x (shHide s2 x.params)) else (false, st)).1) (ckS u f 3 (if shUses f.types st x.args (r8of f.types x.params) then andQ (shSets f.types st x.params (List.replicate x.params.length 0)) (fun s1 => andQ (shList u f deep ⟨false, true, [], r8of f.types x.params, r8of f.types x.outs⟩ s1 ka) fun s2 => shTail f x (shHide s2 x.params)) else (false, st)).2) := by
  refine SC.sameR (SC.vc tb {} [3] Tryz.func107 rfl rfl ?_) fun k _ h => List.mem_singleton.2 h
  have hi0 : (x.kids.map eKid)[0]? = some [nodes ka] := by rw [hkids]; rfl
  have hm0 : ka ∈ x.kids := by rw [hkids]; exact .head _
  have hT := sc_shTypes u f st hs x.params hbp
  have hT2 := sc_shTypes u f st hs x.outs hbo
  have h1 := sc_shUses u f st hs x.args (r8of f.types x.params)
  have hA1 := sc_shAll u f st hs x.params hbp
  have l1 := (shSets_length f.types st x.params (List.replicate x.params.length 0)).trans hs
  have hC := sc_shClosed x
  generalize shUses f.types st x.args (r8of f.types x.params) = b1 at h1 ⊢
  cases b1
  · exact ⟨[], hT, sR, ⟨rfl, by decide, rfl, trivial⟩, rfl, [], hT2, sR, ⟨rfl, by decide, rfl, trivial⟩, rfl, [], h1, sR, ⟨rfl, trivial, rfl, trivial⟩, rfl, sI, rfl, rfl, trivial⟩
  have hpin : (shSets f.types st x.params (List.replicate x.params.length 0)).1 = true → ∀ v ∈ x.params, 0 ≤ v ∧ v < f.types.length := fun h => shSets_in h
  generalize shSets f.types st x.params (List.replicate x.params.length 0) = R2 at hA1 l1 hpin ⊢
  obtain ⟨b2, st1⟩ := R2
  cases b2
  · exact ⟨[], hT, sR, ⟨rfl, by decide, rfl, trivial⟩, rfl, [], hT2, sR, ⟨rfl, by decide, rfl, trivial⟩, rfl, [], h1, sR, ⟨rfl, trivial, rfl, trivial⟩, rfl, [], hA1, sR, ⟨rfl, rfl, rfl, trivial⟩, rfl, sI, rfl, rfl, trivial⟩
  have hpin := hpin rfl
  have h2 := ih ka hm0 ⟨false, true, [], r8of f.types x.params, r8of f.types x.outs⟩ st1 l1
  have l2 := (shList_length u f deep ⟨false, true, [], r8of f.types x.params, r8of f.types x.outs⟩ st1 ka).trans l1
  rw [show andQ (true, st1) (fun s1 => andQ (shList u f deep ⟨false, true, [], r8of f.types x.params, r8of f.types x.outs⟩ s1 ka) fun s2 => shTail f x (shHide s2 x.params)) = andQ (shList u f deep ⟨false, true, [], r8of f.types x.params, r8of f.types x.outs⟩ st1 ka) (fun s2 => shTail f x (shHide s2 x.params)) from rfl]
  generalize shList u f deep ⟨false, true, [], r8of f.types x.params, r8of f.types x.outs⟩ st1 ka = R3 at h2 l2 ⊢
  obtain ⟨b3, st2⟩ := R3
  cases b3
  · exact ⟨[], hT, sR, ⟨rfl, by decide, rfl, trivial⟩, rfl, [], hT2, sR, ⟨rfl, by decide, rfl, trivial⟩, rfl, [], h1, sR, ⟨rfl, trivial, rfl, trivial⟩, rfl, [], hA1, sR, ⟨rfl, rfl, rfl, trivial⟩, rfl, hi0, rfl, [], h2, SubA.same (SubA.same (SubA.cons (sP (nilP_agg _)) sR)), ⟨rfl, rfl, rfl, trivial⟩, rfl, sI, rfl, rfl, trivial⟩
  have hH := sc_shHide u f st2 l2 x.params hpin
  have l3 := (shHide_length x.params st2).trans l2
  rw [show andQ (true, st2) (fun s2 => shTail f x (shHide s2 x.params)) = shTail f x (shHide st2 x.params) from rfl]
  generalize shHide st2 x.params = st3 at hH l3 ⊢
  have hA := sc_shAll u f st3 l3 x.outs hbo
  refine ⟨[], hT, sR, ⟨rfl, by decide, rfl, trivial⟩, rfl, [], hT2, sR, ⟨rfl, by decide, rfl, trivial⟩, rfl, [], h1, sR, ⟨rfl, trivial, rfl, trivial⟩, rfl, [], hA1, sR, ⟨rfl, rfl, rfl, trivial⟩, rfl, hi0, rfl, [], h2, SubA.same (SubA.same (SubA.cons (sP (nilP_agg _)) sR)), ⟨rfl, rfl, rfl, trivial⟩, rfl, [], hH, sR, ⟨rfl, rfl, rfl, trivial⟩, rfl, bcase (fun h => ?_) fun h => ?_⟩
  · rw [shTail_c f st3 (c := true) (by rw [List.length_map] at h; rw [h, Bool.true_or])]
    exact ⟨[], hA, sR, ⟨rfl, rfl, rfl, trivial⟩, rfl, sI, rfl, rfl, trivial⟩
  · rw [List.length_map] at h
    have hq : ((x.outs.length : Int) == 0 || !r8Closed x) = !r8Closed x := by rw [h, Bool.false_or]
    rw [shTail_c f st3 hq]
    generalize r8Closed x = c at hC ⊢
    cases c
    · exact ⟨[], hC, sR, trivial, rfl, [], hA, sR, ⟨rfl, rfl, rfl, trivial⟩, rfl, sI, rfl, rfl, trivial⟩
    · exact ⟨[], hC, sR, trivial, rfl, sI, rfl, rfl, trivial⟩
theorem sc_shNode (u : Un) (f : Fl) (hg : ∀ g ∈ u.flows, 0 ≤ g.params ∧ g.params ≤ g.types.length) (x : Nd) (deep : Int) (hd : 0 ≤ deep ∧ deep ≤ 100) (wh : Wh) (st : List Int) (hs : st.length = f.types.length) (hbo : x.outs.length ≤ 1073741824) (hbp : x.params.length ≤ 1073741824) (ih : ∀ q ∈ x.kids, ∀ (w : Wh) (st : List Int), st.length = f.types.length → SC Tryz.prog 51 [.ptr 3 0, .pv (nodes q), .pv (whv w), iInt (deep + 1)] (ckS u f 3 st) (fun k => k = 3) (iBool (shList u f (deep + 1) w st q).1) (ckS u f 3 (shList u f (deep + 1) w st q).2)) : SC Tryz.prog 79 [.ptr 3 0, .pv (ndv x), .pv (whv wh), iInt deep] (ckS u f 3 st) (fun k => k = 3) (iBool (shNode u f deep wh st x).1) (ckS u f 3 (shNode u f deep wh st x).2) := by
  refine SC.of Tryz.func79 rfl (lb rfl) fun F ρ w => ?_
  refine tQ <| tG <| cE rfl (ok_box rfl rfl) <| cE rfl (ok_box rfl rfl) <| sm 1 rfl <| nL <| tQ <| Tr.block <| tQ <| tG <| cV rfl (ok_load_ept_agg rfl rfl Tryz.underlying38 rfl tS38 (lb rfl)) <| cE rfl (ocq (sc_shBare _) ent105 rfl rfl) ?_
  refine sm 2 rfl <| nL ?_
  refine tC rfl (fun hc9 => ?_) fun hc9 => ?_
  ·refine tQ <| tG <| sm 1 rfl <| nL <| Tr.ret ?_
   have hbare : r8bare x = false := by simpa using hc9
   rw [shNode_bare _ _ _ _ _ hbare]
   exact ret_ok rfl rfl (po2 rfl rfl)
  have hbare : r8bare x = true := by simpa using hc9
  refine tQ <| tG <| sm 4 rfl <| nL ?_
  refine tC rfl (fun hc13 => ?_) fun hc13 => ?_
  ·have hk10 : x.kind = 10 := by simpa using hc13
   obtain ⟨ka, kb, hkids⟩ := r8bare_if hbare hk10
   refine tQ <| tG <| sm 1 rfl <| cV rfl (ok_load_ept_agg rfl rfl Tryz.underlying38 rfl tS38 (lb rfl)) <| cV rfl (ok_load_ept_agg rfl rfl Tryz.underlying96 rfl tS96 (lb rfl)) <| sm 1 rfl <| cV rfl (oB rfl rfl (i64_add rfl (by omega))) <| cE rfl (ocr (sc_shChoice u f st hs x ka kb hkids wh (deep + 1) hbo ih) ent106 rfl (po2 rfl rfl) rfl (fun k (h : _) => .inr h) rfl rfl) <| sm 1 rfl <| nL <| Tr.ret ?_
   rw [shNode_if _ _ _ _ _ hbare hk10 hkids]
   exact ret_ok rfl rfl (po2 rfl rfl)
  refine tQ <| tG <| sm 4 rfl <| nL ?_
  refine tC rfl (fun hc23 => ?_) fun hc23 => ?_
  ·have hk11 : x.kind = 11 := by simpa using hc23
   obtain ⟨ka, hkids⟩ := r8bare_loop hbare hk11
   refine tQ <| tG <| sm 1 rfl <| cV rfl (ok_load_ept_agg rfl rfl Tryz.underlying38 rfl tS38 (lb rfl)) <| sm 1 rfl <| cV rfl (oB rfl rfl (i64_add rfl (by omega))) <| cE rfl (ocr (sc_shLoop u f st hs x ka hkids (deep + 1) hbo hbp ih) ent107 rfl (po2 rfl rfl) rfl (fun k (h : _) => .inr h) rfl rfl) <| sm 1 rfl <| nL <| Tr.ret ?_
   rw [shNode_loop _ _ _ _ _ hbare hk11 hkids]
   exact ret_ok rfl rfl (po2 rfl rfl)
  refine tQ <| tG <| cV rfl (ok_load_ept_agg rfl rfl Tryz.underlying38 rfl tS38 (lb rfl)) <| cE rfl (ocq (sc_shEnds _) ent108 rfl rfl) <| sm 1 rfl <| nL ?_
  refine tC rfl (fun hc32 => ?_) fun hc32 => ?_
  ·refine tQ <| tG <| sm 1 rfl <| cV rfl (ok_load_ept_agg rfl rfl Tryz.underlying38 rfl tS38 (lb rfl)) <| cV rfl (ok_load_ept_agg rfl rfl Tryz.underlying96 rfl tS96 (lb rfl)) <| cE rfl (ocr (sc_shEnd u f st hs x wh) ent109 rfl (po2 rfl rfl) rfl (fun k (h : _) => .inr h) rfl rfl) <| sm 1 rfl <| nL <| Tr.ret ?_
   rw [shNode_end _ _ _ _ _ hbare hc13 hc23 hc32]
   exact ret_ok rfl rfl (po2 rfl rfl)
  refine Tr.skip <| tQ <| tG <| sm 1 rfl <| cV rfl (ok_load_ept_agg rfl rfl Tryz.underlying38 rfl tS38 (lb rfl)) <| cE rfl (ocr (sc_shSimple u f st hs hg x) ent110 rfl (po2 rfl rfl) rfl (fun k (h : _) => .inr h) rfl rfl) <| sm 1 rfl <| nL <| Tr.ret ?_
  rw [shNode_simple _ _ _ _ _ hbare hc13 hc23 hc32]
  exact ret_ok rfl rfl (po2 rfl rfl)
theorem sc_shList_aux (N : Nat) : ∀ (u : Un) (f : Fl) (hg : ∀ g ∈ u.flows, 0 ≤ g.params ∧ g.params ≤ g.types.length) (l : List Nd) (deep : Int) (hd : 0 ≤ deep ∧ deep ≤ 101) (wh : Wh) (st : List Int) (hs : st.length = f.types.length) (hb : lsW l ≤ 1073741824), SizeOf.sizeOf l < N → SC Tryz.prog 51 [.ptr 3 0, .pv (nodes l), .pv (whv wh), iInt deep] (ckS u f 3 st) (fun k => k = 3) (iBool (shList u f deep wh st l).1) (ckS u f 3 (shList u f deep wh st l).2) := by
  induction N with
  | zero => intro u f hg l deep hd wh st hs hb hN; exact absurd hN (Nat.not_lt_zero _)
  | succ N ih =>
    intro u f hg l deep hd wh st hs hb hN
    refine SC.of Tryz.func51 rfl (lb rfl) fun F ρ w => ?_
    refine Tr.lenOf (t := 1) rfl (fun hl => ?_)
    simp only [List.length_map] at hl
    refine tQ <| tG <| cE rfl (ok_box rfl rfl) <| sm 1 rfl <| nL <| tQ <| tQ <| tG <| sm 1 rfl <| cV rfl (oSm Tryz.underlying39 rfl) <| sm 1 rfl <| nL ?_
    refine Tr.block <| Tr.sub (Sub.of (fr' := [(15, iInt 0), (14, iInt l.length), (13, .pv (nodes l)), (6, .pv (.ept [vBool wh.If, vBool wh.Loop, ints wh.Yield, ints wh.Next, ints wh.Left] 0)), (0, .ptr 3 0), (1, .pv (nodes l)), (3, iInt deep)]) ⟨rfl, rfl, rfl, rfl, rfl, rfl, rfl, trivial⟩) ?_
    refine Tr.loop (fun fr σ m => ∃ (k : Nat) (s : List Int), (k ≤ l.length) ∧ (shGo u f deep wh st l = shGo u f deep wh s (l.drop k)) ∧ (s.length = f.types.length) ∧ fr = [(15, iInt k), (14, iInt l.length), (13, .pv (nodes l)), (6, .pv (.ept [vBool wh.If, vBool wh.Loop, ints wh.Yield, ints wh.Next, ints wh.Left] 0)), (0, .ptr 3 0), (1, .pv (nodes l)), (3, iInt deep)] ∧ σ = look (up (ckS u f 3 s)) ∧ m = l.length - k) (n := l.length - 0) ?_ ?_
    ·exact ⟨0, st, Nat.zero_le _, rfl, hs, rfl, rfl, rfl⟩
    rintro fr σ m ⟨k, s, hI0, hI1, hI2, rfl, rfl, rfl⟩
    refine tQ <| tG <| sm 1 rfl <| nL <| tQ ?_
    refine tC rfl (fun hc16 => ?_) fun hc16 => ?_
    ·have hlt : k < l.length := by simpa using hc16
     have hd2 := List.drop_eq_getElem_cons hlt
     have hm := List.getElem_mem hlt
     have hi := nodes_get (List.getElem?_eq_getElem hlt)
     generalize l[k] = x at hd2 hm hi
     have hWx := ndW_eq x
     have hWl := ndW_mem hm
     have hxo : x.outs.length ≤ 1073741824 := by omega
     have hxp : x.params.length ≤ 1073741824 := by omega
     refine Tr.skip <| tQ <| Tr.block <| tQ <| tG <| sm 1 rfl <| cV rfl (ok_index_seq rfl rfl rfl Tryz.underlying39 hi tS38 rfl (by rfl)) <| cV rfl (ok_load_ept_agg rfl rfl Tryz.underlying38 rfl tS38 (lb rfl)) <| cE rfl (ok_alloc (k := 110) rfl tZ38 rfl rfl rfl rfl) <| sm 1 rfl <| c0 (ok_store_box_agg rfl rfl rfl rfl rfl (by simp) tS38 (firmL_ok rfl) (lb rfl)) <| nL ?_
     refine tQ <| Tr.freezeBox (t := 10) (k := 110) rfl rfl rfl ?_
     refine Tr.heap (σ' := look (up (ckS u f 3 s))) (fun k => by
       simp only [look]
       by_cases h : 110 = k
       · subst h; rfl
       · simp [beq_ne h]) ?_
     refine tG <| sm 3 rfl ?_
     refine wS 22 rfl (fun hb22 => ?_) fun hb22 => ?_
     ·refine sm 17 rfl <| nL <| Tr.condT rfl <| tQ <| tG <| sm 1 rfl <| nL <| Tr.ret ?_
      (have h2 : shList u f deep wh st l = (false, s) := by
         unfold shList
         rw [hI1, hd2]
         unfold shGo
         rw [if_pos (by simpa using hb22)]
         simp [andQ]
       rw [h2]
       exact ret_ok rfl rfl (po2 rfl rfl))
     refine sm 1 rfl <| yV rfl rfl (ok_load_ept_agg rfl rfl Tryz.underlying38 rfl tS38 (lb rfl)) <| yV rfl rfl (ok_load_ept_agg rfl rfl Tryz.underlying96 rfl tS96 (lb rfl)) <| sm 1 rfl <| WL.yes rfl rfl rfl rfl rfl rfl (ok_callr (sc_shNode u f hg x deep ⟨hd.1, by simp at hb22; omega⟩ wh s hI2 hxo hxp (fun q hq w st hst => ih u f hg q (deep + 1) ⟨by omega, by simp at hb22; omega⟩ w st hst (by have := kdW_mem hq; omega) (Nat.lt_of_lt_of_le (kid_lt hm rfl hq) (Nat.le_of_lt_succ hN)))) ent79 rfl rfl (Subs.refl _ _) (po2 rfl rfl) (by rfl) (fun k (h : _) => .inr h) rfl (by rfl)) <| sm 3 rfl ?_
     refine wS 30 rfl (fun hb30 => ?_) fun hb30 => ?_
     ·refine sm 9 rfl <| nL <| Tr.condT rfl <| tQ <| tG <| sm 1 rfl <| nL <| Tr.ret ?_
      (have h2 : shList u f deep wh st l = (false, (shNode u f deep wh s x).2) := by
         unfold shList
         rw [hI1, hd2]
         unfold shGo
         rw [if_neg (by simpa using hb22)]
         have hn1 : (shNode u f deep wh s x).1 = false := by simpa using hb30
         simp [andQ, hn1]
       rw [h2]
       exact ret_ok rfl rfl (po2 rfl rfl))
     refine yV rfl rfl (ok_load_ept_agg rfl rfl Tryz.underlying38 rfl tS38 (lb rfl)) <| WL.yes rfl rfl rfl rfl rfl rfl (ok_callq (sc_shClosed x) ent80 rfl rfl (Subs.refl _ _) rfl) <| sm 2 rfl <| yV rfl rfl (oSm Tryz.underlying39 rfl) <| yV rfl rfl (oB rfl rfl (i64_sub rfl (by omega))) <| sm 1 rfl <| yV rfl rfl (ok_neq_bool rfl rfl rfl Tryz.underlying4) <| sm 1 rfl <| nL ?_
     refine tC rfl (fun hc39 => ?_) fun hc39 => ?_
     ·refine tQ <| tG <| sm 1 rfl <| nL <| Tr.ret ?_
      (have h2 : shList u f deep wh st l = (false, (shNode u f deep wh s x).2) := by
         unfold shList
         rw [hI1, hd2]
         unfold shGo
         rw [if_neg (by simpa using hb22)]
         have hn1 : (shNode u f deep wh s x).1 = true := by simpa using hb30
         have hcl : (r8Closed x != (l.drop (k + 1)).isEmpty) = true := by rw [drop_isEmpty hlt]; simpa using hc39
         simp [andQ, hn1, hcl]
       rw [h2]
       exact ret_ok rfl rfl (po2 rfl rfl))
     refine Tr.skip <| tG <| cV rfl (oB rfl rfl (i64_add rfl (by omega))) <| sm 1 rfl <| nL ?_
     refine ⟨_, _, ?_, Sub.of (fr' := [(15, iInt (k + 1)), (14, iInt l.length), (13, .pv (nodes l)), (6, .pv (.ept [vBool wh.If, vBool wh.Loop, ints wh.Yield, ints wh.Next, ints wh.Left] 0)), (0, .ptr 3 0), (1, .pv (nodes l)), (3, iInt deep)]) ⟨rfl, rfl, rfl, rfl, rfl, rfl, rfl, trivial⟩, (k + 1), (shNode u f deep wh s x).2, ?_, ?_, ?_, rfl, (look_app_same rfl), rfl⟩
     ·omega
     ·omega
     ·rw [hI1, hd2]
      have hn1 : (shNode u f deep wh s x).1 = true := by simpa using hb30
      have hcl : (r8Closed x != (l.drop (k + 1)).isEmpty) = false := by rw [drop_isEmpty hlt]; simpa using hc39
      have hdp : ¬ deep > 100 := by simpa using hb22
      conv => lhs; unfold shGo
      simp only [if_neg hdp, andQ, hn1, hcl, if_true]
      rfl
     exact (shNode_length ..).trans hI2
    refine Tr.exit <| tQ <| tQ ?_
    have hgo2 : shGo u f deep wh st l = (true, s) := by rw [hI1, List.drop_eq_nil_of_le (by simpa using hc16)]; simp [shGo]
    have hgo : (shGo u f deep wh st l).1 = true := by rw [hgo2]
    have hs0 := hI2
    generalize s = s0 at hgo2 hs0 ⊢
    refine tG <| sm 1 rfl <| cV rfl (oSm Tryz.underlying39 rfl) <| sm 1 rfl <| nL <| Tr.block <| Tr.sub (Sub.of (fr' := [(43, iInt 0), (42, iInt l.length), (41, .pv (nodes l)), (0, .ptr 3 0), (1, .pv (nodes l))]) ⟨rfl, rfl, rfl, rfl, rfl, trivial⟩) ?_
    refine Tr.loop (fun fr σ m => ∃ (k : Nat) (s : List Int), (k ≤ l.length) ∧ (shHideAll s0 l = shHideAll s (l.drop k)) ∧ (s.length = f.types.length) ∧ fr = [(43, iInt k), (42, iInt l.length), (41, .pv (nodes l)), (0, .ptr 3 0), (1, .pv (nodes l))] ∧ σ = look (up (ckS u f 3 s)) ∧ m = l.length - k) (n := l.length - 0) ?_ ?_
    ·exact ⟨0, s0, Nat.zero_le _, rfl, hs0, rfl, rfl, rfl⟩
    rintro fr σ m ⟨k, s, hJ0, hJ1, hJ2, rfl, rfl, rfl⟩
    refine tQ <| tG <| sm 1 rfl <| nL <| tQ ?_
    refine tC rfl (fun hc44 => ?_) fun hc44 => ?_
    ·have hlt : k < l.length := by simpa using hc44
     have hd2 := List.drop_eq_getElem_cons hlt
     have hm := List.getElem_mem hlt
     have hi := nodes_get (List.getElem?_eq_getElem hlt)
     generalize l[k] = x at hd2 hm hi
     refine Tr.skip <| tQ <| Tr.block <| tQ <| tG <| cV rfl (ok_index_seq rfl rfl rfl Tryz.underlying39 hi tS38 rfl (by rfl)) <| cV rfl (ok_load_ept_agg rfl rfl Tryz.underlying38 rfl tS38 (lb rfl)) <| cE rfl (ok_alloc (k := 112) rfl tZ38 rfl rfl rfl rfl) <| c0 (ok_store_box_agg rfl rfl rfl rfl rfl (by simp) tS38 (firmL_ok rfl) (lb rfl)) <| nL <| Tr.freezeBox (t := 12) (k := 112) rfl rfl rfl ?_
     refine Tr.heap (σ' := look (up (ckS u f 3 s))) (fun k => by
       simp only [look]
       by_cases h : 112 = k
       · subst h; rfl
       · simp [beq_ne h]) ?_
     refine tG <| sm 3 rfl <| cE rfl (ocr (sc_shHide u f s hJ2 x.outs (shGo_outs hgo x hm)) ent81 rfl (po2 rfl rfl) rfl (fun k (h : _) => .inr h) rfl rfl) <| nL <| tG <| cV rfl (oB rfl rfl (i64_add rfl (by omega))) <| sm 1 rfl <| nL ?_
     refine ⟨_, _, ?_, Sub.of (fr' := [(43, iInt (k + 1)), (42, iInt l.length), (41, .pv (nodes l)), (0, .ptr 3 0), (1, .pv (nodes l))]) ⟨rfl, rfl, rfl, rfl, rfl, trivial⟩, (k + 1), (shHide s x.outs), ?_, ?_, ?_, rfl, (look_app_same rfl), rfl⟩
     ·omega
     ·omega
     ·rw [hJ1, hd2]; rfl
     exact (shHide_length ..).trans hJ2
    refine Tr.exit <| tQ <| tG <| sm 1 rfl <| cV rfl (oSm Tryz.underlying39 rfl) <| sm 2 rfl <| nL <| Tr.ret ?_
    have hge : l.length ≤ k := by simpa using hc44
    have h2 : shList u f deep wh st l = (decide ((l.length : Int) > 0), s) := by
      unfold shList
      rw [hgo2]
      simp only [andQ, if_true, shFin, hJ1, List.drop_eq_nil_of_le hge]
      rfl
    rw [h2]
    exact ret_ok rfl rfl (po2 rfl rfl)
theorem sc_shList (u : Un) (f : Fl) (hg : ∀ g ∈ u.flows, 0 ≤ g.params ∧ g.params ≤ g.types.length) (l : List Nd) (deep : Int) (hd : 0 ≤ deep ∧ deep ≤ 101) (wh : Wh) (st : List Int) (hs : st.length = f.types.length) (hb : lsW l ≤ 1073741824) : SC Tryz.prog 51 [.ptr 3 0, .pv (nodes l), .pv (whv wh), iInt deep] (ckS u f 3 st) (fun k => k = 3) (iBool (shList u f deep wh st l).1) (ckS u f 3 (shList u f deep wh st l).2) := sc_shList_aux _ u f hg l deep hd wh st hs hb (Nat.lt_succ_self _)
theorem sc_shFlow (u : Un) (f : Fl) (hg : ∀ g ∈ u.flows, 0 ≤ g.params ∧ g.params ≤ g.types.length) (hp : 0 ≤ f.params ∧ f.params ≤ f.types.length) (hb : lsW f.body ≤ 536870912) : SC Tryz.prog 28 [.pv u.enc, .pv (.agg f.enc)] [] (fun _ => False) (iBool (shFlow u f)) [] := by
  refine SC.of Tryz.func28 rfl (lb rfl) fun F ρ w => ?_
  refine tQ <| tG <| cE rfl (ok_box rfl rfl) <| cE rfl (ok_box rfl rfl) <| sm 1 rfl <| nL <| tQ <| tQ <| tG <| sm 4 rfl ?_
  refine wS 10 rfl (fun hb10 => ?_) fun hb10 => ?_
  ·refine sm 10 rfl <| nL <| Tr.condT rfl <| tQ <| tG <| sm 1 rfl <| nL <| Tr.ret <| ret_ok rfl ?_ no_post
   have hno : (decide (f.params > 8) || decide ((f.types.length : Int) > 20000) || f.types.any (fun t => !isTy t)) = true := by
     simp_all
   simp only [shFlow, hno, Bool.not_true, Bool.false_and]
  refine sm 2 rfl <| yV rfl rfl (oSm Tryz.underlying35 rfl) <| sm 3 rfl ?_
  refine wS 16 rfl (fun hb16 => ?_) fun hb16 => ?_
  ·refine sm 4 rfl <| nL <| Tr.condT rfl <| tQ <| tG <| sm 1 rfl <| nL <| Tr.ret <| ret_ok rfl ?_ no_post
   have hno : (decide (f.params > 8) || decide ((f.types.length : Int) > 20000) || f.types.any (fun t => !isTy t)) = true := by
     simp_all
   simp only [shFlow, hno, Bool.not_true, Bool.false_and]
  refine sm 2 rfl <| WL.yes rfl rfl rfl rfl rfl rfl (ok_callq (sc_has_int 50 [] [] rfl ent50 (fun t => !isTy t) f.types (fun x hm => (sc_flow1 x).anyR)) ent49 rfl rfl (Subs.same rfl (Subs.cons (fun _ _ _ _ h => sub_func h) Subs.nil)) rfl) <| sm 1 rfl <| nL ?_
  refine tC rfl (fun hc20 => ?_) fun hc20 => ?_
  ·refine tQ <| tG <| sm 1 rfl <| nL <| Tr.ret <| ret_ok rfl ?_ no_post
   have hno : (decide (f.params > 8) || decide ((f.types.length : Int) > 20000) || f.types.any (fun t => !isTy t)) = true := by
     simp_all
   simp only [shFlow, hno, Bool.not_true, Bool.false_and]
  ·have hpar : f.params ≤ 8 ∧ f.types.length ≤ 20000 := by
     (simp_all <;> omega)
   have hpt : f.params.toNat ≤ f.types.length := by omega
   have hpi : f.params = (f.params.toNat : Int) := by omega
   have hno : (decide (f.params > 8) || decide ((f.types.length : Int) > 20000) || f.types.any (fun t => !isTy t)) = false := by
     clear hpi
     simp_all
   refine Tr.skip <| tQ <| Tr.drawn mixed (fun k => k < 3) <| wR 4 [0, 1, 2, 3, 4] (by kernel_rfl) (fun _ _ _ h => h) <| rV rfl rfl (ok_load_ept_agg rfl rfl Tryz.underlying25 rfl tS25 (lb rfl)) <| rV rfl rfl (ok_load_ept_agg rfl rfl Tryz.underlying41 rfl tS41 (lb rfl)) <| smR 2 rfl <| rV rfl rfl (oSm Tryz.underlying35 rfl) <| nR <| wO 5 (by kernel_rfl) <| wI rfl rfl nf (new_one rfl) (fun _ _ => ok_makeSlice (k := 4) (s := ⟨3, 1⟩) rfl rfl rfl Tryz.underlying35 tZ3 tC3 rfl (by decide) (by omega) (by omega) rfl rfl rfl rfl) <| wR 2 [6] (by kernel_rfl) (fun _ _ _ h => h) ?_
   refine rV rfl rfl (by exact ok_build rfl rfl tZ93 tP93 rfl (firmHp_ok (by (simp [firmHp, firm1, look, PV.one]; exact ⟨_, _, ⟨rfl, rfl⟩, by simp⟩)))) <| nR <| wO 7 (by kernel_rfl) <| wI rfl rfl nf (new_one rfl) (fun _ _ => ok_boxOwn (k := 3) rfl rfl rfl rfl rfl rfl rfl) <| wR 0 [8] (by kernel_rfl) (fun _ _ _ h => h) <| smR 1 rfl <| nR <| WA.done (by kernel_rfl) <| tQ <| tQ <| tG <| sm 3 rfl ?_
   refine nL <| Tr.block <| Tr.sub (Sub.of (fr' := [(31, iInt 0), (30, iInt f.params), (5, .ptr 3 0), (2, .pv (.ept [arrs u.arrays, flws u.flows] 0)), (3, .pv (.ept [vStr f.name, vInt f.ty, vInt f.params, ints f.types, nodes f.body] 0))]) ⟨rfl, rfl, rfl, rfl, rfl, trivial⟩) ?_
   refine Tr.heap (σ' := look (up (ckS u f 3 (seens 0 f.types.length)))) (fun k => by
  rw [show (seens 0 f.types.length) = List.replicate f.types.length 0 by simp [seens]]
  simp only [ckS, up, List.map_cons, List.map_nil, look, List.length_map, List.length_replicate, List.map_replicate]
  by_cases h3 : 3 = k
  · subst h3; rfl
  · by_cases h4 : 4 = k
    · subst h4; rfl
    · simp [beq_ne h3, beq_ne h4]) ?_
   refine Tr.loop (fun fr σ m => ∃ (k : Nat), (k ≤ f.params.toNat) ∧ fr = [(31, iInt k), (30, iInt f.params), (5, .ptr 3 0), (2, .pv (.ept [arrs u.arrays, flws u.flows] 0)), (3, .pv (.ept [vStr f.name, vInt f.ty, vInt f.params, ints f.types, nodes f.body] 0))] ∧ σ = look (up (ckS u f 3 (seens k f.types.length))) ∧ m = f.params.toNat - k) (n := f.params.toNat - 0) ?_ ?_
   ·exact ⟨0, Nat.zero_le _, rfl, rfl, rfl⟩
   rintro fr σ m ⟨k, hI0, rfl, rfl, rfl⟩
   refine tQ <| tG <| sm 1 rfl <| nL <| tQ ?_
   refine tC rfl (fun hc32 => ?_) fun hc32 => ?_
   ·have hkp : k < f.params.toNat := by simp at hc32; omega
    have hkt : k < f.types.length := by omega
    have hst : ((seens k f.types.length).map eInt)[k]? = some [vInt 0] := by
      rw [List.getElem?_map]
      simp only [seens]
      rw [List.getElem?_append_right (by simp)]
      simp [List.getElem?_replicate, eInt]
      omega
    have hstl : k < ((seens k f.types.length).map eInt).length := by rw [List.length_map, seens_length (by omega)]; exact hkt
    refine Tr.skip <| tQ <| Tr.block <| tQ <| tG <| sm 2 rfl <| nL <| tG <| sm 1 rfl <| cV rfl (ok_nilCheck rfl rfl rfl) <| sm 3 rfl <| cV rfl (ok_index_row rfl rfl rfl rfl rfl Tryz.underlying35 tS3 (by assumption) (by rfl)) ?_
    refine c0 (ok_store_row rfl rfl rfl rfl rfl (Nat.add_zero _).symm (by assumption) (by simp) tS3 rfl ((fun h => h))) <| nL <| tG <| cV rfl (oB rfl rfl (i64_add rfl (by omega))) <| sm 1 rfl <| nL ?_
    refine ⟨_, _, ?_, Sub.of (fr' := [(31, iInt (k + 1)), (30, iInt f.params), (5, .ptr 3 0), (2, .pv (.ept [arrs u.arrays, flws u.flows] 0)), (3, .pv (.ept [vStr f.name, vInt f.ty, vInt f.params, ints f.types, nodes f.body] 0))]) ⟨rfl, rfl, rfl, rfl, rfl, trivial⟩, (k + 1), ?_, rfl, (by rw [← seens_set hkt]; exact funext ckS_set), rfl⟩
    all_goals omega
   refine Tr.exit <| tQ ?_
   have hkp : k = f.params.toNat := by simp at hc32; omega
   subst hkp
   refine tG <| sm 3 rfl <| cV rfl (ok_build_pure rfl rfl tZ96 tP96 rfl (firmB_ok rfl) rfl) <| cE rfl (ok_callr (sc_shList u f hg f.body 1 ⟨by omega, by omega⟩ r8where0 (seens f.params.toNat f.types.length) (seens_length hpt) (by omega)) ent51 rfl rfl (Subs.same rfl (Subs.same rfl (Subs.cons (fun _ _ _ _ h => sub_pv (q := whv r8where0) (PSub.agg (ps := [vBool false, vBool false, .val (.slice none 0 0), .val (.slice none 0 0), .val (.slice none 0 0)]) (And.intro (PSub.refl _) (And.intro (PSub.refl _) (And.intro PSub.nil (And.intro PSub.nil (And.intro PSub.nil trivial)))))) h) (Subs.same rfl Subs.nil)))) (po2 rfl rfl) (by rfl) (fun k (h : _) => (show False from h).elim) rfl (by rfl)) <| sm 1 rfl <| nL <| Tr.ret <| ret_ok rfl ?_ no_post
   simp only [shFlow, hno, Bool.not_false, Bool.true_and]
set_option maxRecDepth 20000
set_option maxHeartbeats 2000000
theorem sc_tkLetter (n : Int) : SC Tryz.prog 73 [.pv (.val (.int .i32 n))] [] (fun _ => False) (iBool (isLetter n)) [] := by
  refine SC.anyR (SC.vc tb {} [] Tryz.func73 rfl rfl ?_)
  unfold isLetter
  refine bcase (fun h1 => bcase (fun h2 => ⟨sE (by rw [h1, h2]; rfl), trivial⟩) fun h2 => ?_) fun h1 => ?_
  · refine bcase (fun h3 => bcase (fun h4 => ⟨sE (by rw [h1, h2, h3, h4]; rfl), trivial⟩) fun h4 => ⟨sE (by rw [h1, h2, h3, h4]; rfl), trivial⟩) fun h3 => ⟨sE (by rw [h1, h2, h3]; rfl), trivial⟩
  · refine bcase (fun h3 => bcase (fun h4 => ⟨sE (by rw [h1, h3, h4]; rfl), trivial⟩) fun h4 => ⟨sE (by rw [h1, h3, h4]; rfl), trivial⟩) fun h3 => ⟨sE (by rw [h1, h3]; rfl), trivial⟩
theorem sc_tkDigit (n : Int) : SC Tryz.prog 104 [.pv (.val (.int .i32 n))] [] (fun _ => False) (iBool (isDigit n)) [] := by
  refine SC.anyR (SC.vc tb {} [] Tryz.func104 rfl rfl ?_)
  unfold isDigit
  exact bcase (fun h1 => ⟨sE (by rw [h1]; rfl), trivial⟩) fun h1 => ⟨sE (by rw [h1]; rfl), trivial⟩
theorem sc_tkWord (s : ByteArray) : SC Tryz.prog 75 [iStr s] [] (fun _ => False) (iBool (isWord s)) [] := by
  refine SC.anyR (SC.vc tb {} [] Tryz.func75 rfl rfl ?_)
  have N : ∀ {b : Bool} {P : Prop}, b = true → b = false → P := fun h g => by rw [h] at g; cases g
  have T : ∀ {b : Bool}, b = true → SubI (iBool true) (iBool b) := fun h => sE (by rw [h])
  exact bcase (fun h => bcase (fun _ => ⟨T (by unfold isWord; rw [h]; simp only [Bool.or_true, Bool.true_or]), trivial⟩) fun g => N h g) fun h1 => bcase (fun h => bcase (fun _ => ⟨T (by unfold isWord; rw [h]; simp only [Bool.or_true, Bool.true_or]), trivial⟩) fun g => N h g) fun h2 => bcase (fun h => bcase (fun _ => ⟨T (by unfold isWord; rw [h]; simp only [Bool.or_true, Bool.true_or]), trivial⟩) fun g => N h g) fun h3 => bcase (fun h => bcase (fun _ => ⟨T (by unfold isWord; rw [h]; simp only [Bool.or_true, Bool.true_or]), trivial⟩) fun g => N h g) fun h4 => bcase (fun h => bcase (fun _ => ⟨T (by unfold isWord; rw [h]; simp only [Bool.or_true, Bool.true_or]), trivial⟩) fun g => N h g) fun h5 => bcase (fun h => bcase (fun _ => ⟨T (by unfold isWord; rw [h]; simp only [Bool.or_true, Bool.true_or]), trivial⟩) fun g => N h g) fun h6 => bcase (fun h => bcase (fun _ => ⟨T (by unfold isWord; rw [h]; simp only [Bool.or_true, Bool.true_or]), trivial⟩) fun g => N h g) fun h7 => bcase (fun h => bcase (fun _ => ⟨T (by unfold isWord; rw [h]; simp only [Bool.or_true, Bool.true_or]), trivial⟩) fun g => N h g) fun h8 => bcase (fun h => bcase (fun _ => ⟨T (by unfold isWord; rw [h]; simp only [Bool.or_true, Bool.true_or]), trivial⟩) fun g => N h g) fun h9 => bcase (fun h => bcase (fun _ => ⟨T (by unfold isWord; rw [h]; simp only [Bool.or_true, Bool.true_or]), trivial⟩) fun g => N h g) fun h10 => bcase (fun h => bcase (fun _ => ⟨T (by unfold isWord; rw [h]; simp only [Bool.or_true, Bool.true_or]), trivial⟩) fun g => N h g) fun h11 => bcase (fun h => bcase (fun _ => ⟨T (by unfold isWord; rw [h]; simp only [Bool.or_true, Bool.true_or]), trivial⟩) fun g => N h g) fun h12 => bcase (fun h => bcase (fun _ => ⟨T (by unfold isWord; rw [h]; simp only [Bool.or_true, Bool.true_or]), trivial⟩) fun g => N h g) fun h13 => bcase (fun h => bcase (fun _ => ⟨T (by unfold isWord; rw [h]; simp only [Bool.or_true, Bool.true_or]), trivial⟩) fun g => N h g) fun h14 => bcase (fun h => bcase (fun _ => ⟨T (by unfold isWord; rw [h]; simp only [Bool.or_true, Bool.true_or]), trivial⟩) fun g => N h g) fun h15 => bcase (fun h => bcase (fun _ => ⟨T (by unfold isWord; rw [h]; simp only [Bool.or_true, Bool.true_or]), trivial⟩) fun g => N h g) fun h16 => bcase (fun h => bcase (fun _ => ⟨T (by unfold isWord; rw [h]; simp only [Bool.or_true, Bool.true_or]), trivial⟩) fun g => N h g) fun h17 => bcase (fun h => ⟨T (by unfold isWord; rw [h]; simp only [Bool.or_true, Bool.true_or]), trivial⟩) fun h18 => ⟨sE (by unfold isWord; rw [h1, h2, h3, h4, h5, h6, h7, h8, h9, h10, h11, h12, h13, h14, h15, h16, h17, h18]; rfl), trivial⟩
theorem sc_tkRun (s : ByteArray) : SC Tryz.prog 74 [iStr s] [] (fun _ => False) (iStr (runOf s)) [] := by
  refine SC.of Tryz.func74 rfl (lb rfl) fun F ρ w => ?_
  refine tQ <| tG <| sm 1 rfl <| nL <| tQ ?_
  refine Tr.strRange rfl rfl rfl rfl rfl rfl rfl rfl Tryz.underlying9 rfl rfl rfl rfl rfl rfl rfl rfl rfl rfl rfl (fun _ h => h) (fun k fr => (k ≤ s.toList.length ∧ (s.toList.take k).all isLD = true) ∧ fr = [(0, iStr s)]) ⟨[(0, iStr s)], Sub.of ⟨rfl, trivial⟩, ⟨Nat.zero_le _, rfl⟩, rfl⟩ ?_ ?_
  ·rintro b0 k _ hk ⟨hI, rfl⟩
   refine tQ <| tG <| sm 2 rfl <| nL <| Tr.ret <| ret_ok rfl ?_ no_post
   have hall : s.toList.all isLD = true := by
     have := hI.2
     rwa [List.take_of_length_le (by rw [ba_len]; exact hk)] at this
   simp [runOf, hall]
  rintro ρ2 w2 b0 k _ hk ⟨hI, rfl⟩
  have hlt : k < s.toList.length := by rw [ba_len]; exact hk
  refine Tr.block <| tQ <| tG <| cV rfl (ok_extract rfl rfl rfl) <| cV rfl (ok_extract rfl rfl rfl) <| sm 2 rfl <| nL <| tQ <| tG <| sm 1 rfl <| cE rfl (ocq (sc_tkLetter _) ent73 rfl rfl) <| sm 2 rfl ?_
  refine wS 14 rfl (fun hb14 => ?_) fun hb14 => ?_
  ·refine sm 1 rfl <| WL.yes rfl rfl rfl rfl rfl rfl (ok_callq (sc_tkDigit _) ent104 rfl rfl (Subs.refl _ _) rfl) <| sm 2 rfl <| nL ?_
   refine tC rfl (fun hc18 => ?_) fun hc18 => ?_
   ·refine tQ <| tG <| sm 2 rfl <| cV rfl (ok_slice_str rfl rfl Tryz.underlying9 (.inl ⟨rfl, rfl⟩) (.inr ⟨_, _, rfl, rfl⟩) (by omega) (Nat.le_of_lt (by assumption))) <| sm 1 rfl <| nL <| Tr.ret <| ret_ok rfl ?_ no_post
    have hld : isLDr (Utf8.decode s k).1 = false := by
      simp only [isLDr]
      simp_all
    rw [runOf_at hI.2 (List.getElem?_eq_getElem hlt) ((decode_ld hlt).2 hld)]
   refine Tr.skip ?_
   refine ⟨rfl, [(0, iStr s)], Sub.of ⟨rfl, rfl, trivial⟩, ?_, rfl⟩
   have hld : isLDr (Utf8.decode s k).1 = true := by
     simp only [isLDr]
     simp_all
   obtain ⟨hw1, hb1⟩ := (decode_ld hlt).1 hld
   rw [hw1]
   exact ⟨by omega, by rw [List.take_succ_eq_append_getElem hlt, List.all_append, hI.2]; simp [hb1]⟩
  refine sm 4 rfl <| nL <| Tr.condF rfl <| Tr.skip ?_
  refine ⟨rfl, [(0, iStr s)], Sub.of ⟨rfl, rfl, trivial⟩, ?_, rfl⟩
  have hld : isLDr (Utf8.decode s k).1 = true := by
    simp only [isLDr]
    simp_all
  obtain ⟨hw1, hb1⟩ := (decode_ld hlt).1 hld
  rw [hw1]
  exact ⟨by omega, by rw [List.take_succ_eq_append_getElem hlt, List.all_append, hI.2]; simp [hb1]⟩
theorem sc_tkName (s : ByteArray) : SC Tryz.prog 46 [iStr s] [] (fun _ => False) (iBool (isName s)) [] := by
  refine SC.of Tryz.func46 rfl (lb rfl) fun F ρ w => ?_
  refine tQ <| tG <| sm 1 rfl <| nL <| tQ <| tG <| sm 1 rfl <| cV rfl (ok_bin_str rfl rfl rfl rfl) <| sm 1 rfl ?_
  refine wS 5 rfl (fun hb5 => ?_) fun hb5 => ?_
  ·have hne : s.toList ≠ [] := by simpa using hb5
   obtain ⟨b0, r0, hs0⟩ := List.exists_cons_of_ne_nil hne
   have hi0 : s[0]? = some b0 := by rw [ba_get (i := 0) (by rw [hs0]; simp)]; simp [hs0]
   have hw0 : IntKind.i32.wrap (b0.toNat : Int) = b0.toNat := by
     have : b0.toNat < 256 := b0.toNat_lt
     simp [IntKind.wrap, IntKind.bits, IntKind.signed]
     omega
   have hre := runOf_eq s
   refine sm 1 rfl <| yV rfl rfl (ok_index_str rfl rfl rfl Tryz.underlying9 (by assumption) (by rfl)) <| yV rfl rfl (ok_conv_int rfl rfl ⟨_, Tryz.underlying5⟩ Tryz.underlying21) <| WL.yes rfl rfl rfl rfl rfl rfl (ok_callq (sc_tkLetter _) ent73 rfl rfl (Subs.refl _ _) rfl) <| sm 2 rfl ?_
   refine wS 11 rfl (fun hb11 => ?_) fun hb11 => ?_
   ·refine sm 1 rfl <| WL.yes rfl rfl rfl rfl rfl rfl (ok_callq (sc_tkRun s) ent74 rfl rfl (Subs.refl _ _) rfl) <| sm 1 rfl <| yV rfl rfl (ok_bin_str rfl rfl rfl rfl) <| sm 2 rfl ?_
    refine wS 17 rfl (fun hb17 => ?_) fun hb17 => ?_
    ·refine sm 1 rfl <| yV rfl rfl (ok_len_str rfl rfl Tryz.underlying9) <| sm 3 rfl ?_
     refine wS 22 rfl (fun hb22 => ?_) fun hb22 => ?_
     ·refine sm 1 rfl <| WL.yes rfl rfl rfl rfl rfl rfl (ok_callq (sc_tkWord s) ent75 rfl rfl (Subs.refl _ _) rfl) <| sm 3 rfl <| nL <| Tr.ret <| ret_ok rfl ?_ no_post
      refine congrArg (fun b => iBool b) ?_
      simp_all [isName]
     refine sm 5 rfl <| nL <| Tr.ret <| ret_ok rfl ?_ no_post
     refine congrArg (fun b => iBool b) ?_
     (simp_all [isName] <;> omega)
    refine sm 10 rfl <| nL <| Tr.ret <| ret_ok rfl ?_ no_post
    refine congrArg (fun b => iBool b) ?_
    simp_all [isName]
   refine sm 16 rfl <| nL <| Tr.ret <| ret_ok rfl ?_ no_post
   refine congrArg (fun b => iBool b) ?_
   simp_all [isName]
  refine sm 22 rfl <| nL <| Tr.ret <| ret_ok rfl ?_ no_post
  refine congrArg (fun b => iBool b) ?_
  simp_all [isName]
set_option maxRecDepth 20000
set_option maxHeartbeats 2000000
theorem sc_shHead (u : Un) (hW : r8Weight u ≤ 536870912) : SC Tryz.prog 27 [.pv u.enc] [] (fun _ => False) (iBool (shHead u)) [] := by
  refine SC.anyR (SC.vc tb {} [] Tryz.func27 rfl rfl ?_)
  have hw1 : u.arrays.length ≤ r8Weight u := by unfold r8Weight; omega
  have hw2 : u.flows.length ≤ r8Weight u := by unfold r8Weight; omega
  refine ⟨Nat × List (Value × PV), fun (k, _) => [(13, iInt k)], fun (_, es) => [(109, .map es)], fun (k, _) => u.arrays.length - k, fun (k, es) => k ≤ u.arrays.length ∧ u.arrays.all shArr = (u.arrays.drop k).all shArr ∧ countA [] u.arrays = countA es (u.arrays.drop k) ∧ Cnt es, [], (0, []), ⟨Nat.zero_le _, rfl, rfl, Cnt.nil⟩, ⟨rfl, trivial⟩, ⟨rfl, trivial⟩, ?_⟩
  rintro ⟨k, es⟩ ⟨hk, hA, hC, hes⟩
  refine bcase (fun hc => ?_) fun hc => ?_
  · have hlt := lt_of (f := Ar.enc) rfl hc
    obtain ⟨a, ha, _, hd, _⟩ := at_lt hlt
    rw [hd] at hA hC
    rw [List.all_cons] at hA
    obtain ⟨n, hn⟩ := hes.find (.string a.name)
    have bad : shArr a = false → SubI (iBool false) (iBool (shHead u)) := fun h => sE (by unfold shHead; rw [hA, h]; rfl)
    have hNm := sc_tkName a.name
    cases hN : isName a.name with
    | false =>
      rw [hN] at hNm
      exact ⟨map_get (f := Ar.enc) ha, rfl, VAsk.mk (p := vInt n) (b := (mfind (.string a.name) es).isSome) rfl hes.1 (Prod.ext hn rfl) ⟨rfl, rfl, hes.1, [], hNm, sR, trivial, rfl, bad (by unfold shArr; rw [hN]; rfl), trivial⟩⟩
    | true =>
      rw [hN] at hNm
      refine ⟨map_get (f := Ar.enc) ha, rfl, VAsk.mk (p := vInt n) (b := (mfind (.string a.name) es).isSome) rfl hes.1 (Prod.ext hn rfl) ⟨rfl, rfl, hes.1, [], hNm, sR, trivial, rfl, bcase (fun h1 => ⟨bad (by unfold shArr; rw [hN, show decide (a.size < 1) = true from h1]; rfl), trivial⟩) fun h1 => bcase (fun h2 => ⟨bad (by unfold shArr; rw [hN, show decide (a.size < 1) = false from h1, show decide (a.size > 1000) = true from h2]; rfl), trivial⟩) fun h2 => ?_⟩⟩
      have good : shArr a = true := by unfold shArr; rw [hN, show decide (a.size < 1) = false from h1, show decide (a.size > 1000) = false from h2]; rfl
      exact ⟨i64_add rfl (by omega), (k + 1, bump a.name es), step_lt hlt, ⟨hlt, by rw [hA, good]; rfl, hC, hes.bump _⟩, ⟨rfl, trivial⟩, ⟨mpq (bump_eq hn).symm, trivial⟩, rfl, rfl, rfl, rfl⟩
  · have hge := ge_of (f := Ar.enc) rfl hc
    rw [List.drop_eq_nil_of_le hge] at hA hC
    refine ⟨Nat × List (Value × PV), fun (k, _) => [(40, iInt k)], fun (_, es) => [(109, .map es)], fun (k, _) => u.flows.length - k, fun (k, es) => k ≤ u.flows.length ∧ u.flows.all shFlw = (u.flows.drop k).all shFlw ∧ countF (countA [] u.arrays) u.flows = countF es (u.flows.drop k) ∧ Cnt es, [], (0, es), ⟨Nat.zero_le _, rfl, by rw [hC]; rfl, hes⟩, ⟨rfl, trivial⟩, ⟨rfl, trivial⟩, ?_⟩
    rintro ⟨k, es⟩ ⟨hk, hF, hC, hes⟩
    refine bcase (fun hc => ?_) fun hc => ?_
    · have hlt := lt_of (f := Fl.enc) rfl hc
      obtain ⟨f, hf, _, hd, hm⟩ := at_lt hlt
      rw [hd] at hF hC
      rw [List.all_cons] at hF
      obtain ⟨n, hn⟩ := hes.find (.string f.name)
      have bad : shFlw f = false → SubI (iBool false) (iBool (shHead u)) := fun h => sE (by unfold shHead; rw [hA, hF, h]; rfl)
      have hNm := sc_tkName f.name
      cases hN : isName f.name with
      | false =>
        rw [hN] at hNm
        exact ⟨map_get (f := Fl.enc) hf, rfl, VAsk.mk (p := vInt n) (b := (mfind (.string f.name) es).isSome) rfl hes.1 (Prod.ext hn rfl) ⟨rfl, rfl, hes.1, [], hNm, sR, trivial, rfl, bad (by unfold shFlw; rw [hN]; rfl), trivial⟩⟩
      | true =>
        rw [hN] at hNm
        have hT := sc_isTy f.ty
        cases hty : isTy f.ty with
        | false =>
          rw [hty] at hT
          exact ⟨map_get (f := Fl.enc) hf, rfl, VAsk.mk (p := vInt n) (b := (mfind (.string f.name) es).isSome) rfl hes.1 (Prod.ext hn rfl) ⟨rfl, rfl, hes.1, [], hNm, sR, trivial, rfl, [], hT, sR, trivial, rfl, bad (by unfold shFlw; rw [hN, hty]; rfl), trivial⟩⟩
        | true =>
          rw [hty] at hT
          refine ⟨map_get (f := Fl.enc) hf, rfl, VAsk.mk (p := vInt n) (b := (mfind (.string f.name) es).isSome) rfl hes.1 (Prod.ext hn rfl) ⟨rfl, rfl, hes.1, [], hNm, sR, trivial, rfl, [], hT, sR, trivial, rfl, bcase (fun h1 => ⟨bad (by unfold shFlw; rw [hN, hty, show decide (f.params < 0) = true from h1]; rfl), trivial⟩) fun h1 => bcase (fun h2 => ⟨bad (by unfold shFlw; rw [hN, hty, show decide (f.params < 0) = false from h1, show decide (f.params > f.types.length) = true by simpa using h2]; rfl), trivial⟩) fun h2 => ?_⟩⟩
          have good : shFlw f = true := by unfold shFlw; rw [hN, hty, show decide (f.params < 0) = false from h1, show decide (f.params > f.types.length) = false by simpa using h2]; rfl
          exact ⟨i64_add rfl (by omega), (k + 1, bump f.name es), step_lt hlt, ⟨hlt, by rw [hF, good]; rfl, hC, hes.bump _⟩, ⟨rfl, trivial⟩, ⟨mpq (bump_eq hn).symm, trivial⟩, rfl, rfl, rfl, rfl⟩
    · have hge := ge_of (f := Fl.enc) rfl hc
      rw [List.drop_eq_nil_of_le hge] at hF hC
      have hG : shHead u = ((es.length : Int) == u.arrays.length + u.flows.length && r8main u) := by unfold shHead; rw [hA, hF, hC]; rfl
      rw [hG]
      have N : ∀ {P : Prop} {b : Bool}, b = true → b = false → P := fun h g => by rw [h] at g; cases g
      cases hb : ((es.length : Int) == u.arrays.length + u.flows.length) with
      | false => exact ⟨[], sc_shPlace u mainName, sR, trivial, rfl, i64_add rfl (by simp; omega), bcase (fun h => N (show ((es.length : Int) == u.arrays.length + u.flows.length) = true by simpa using h) hb) fun _ => ⟨sI, trivial⟩⟩
      | true =>
        cases hp : decide (r8Place mainName u.flows 0 ≥ 0) with
        | false => exact ⟨[], sc_shPlace u mainName, sR, trivial, rfl, i64_add rfl (by simp; omega), bcase (fun _ => bcase (fun h => N h hp) fun _ => ⟨sE (by unfold r8main; rw [hp]; rfl), trivial⟩) fun h => N hb (by simpa using h)⟩
        | true =>
          have h0 : r8Place mainName u.flows 0 ≥ 0 := by simpa using hp
          obtain ⟨g, hg, _⟩ := r8Place_at h0
          have hD : u.flows.getD (r8Place mainName u.flows 0).toNat flDef = g := by rw [List.getD_eq_getElem?_getD, hg]; rfl
          have hi := map_get (f := Fl.enc) hg
          refine ⟨[], sc_shPlace u mainName, sR, trivial, rfl, i64_add rfl (by simp; omega), bcase (fun _ => bcase (fun _ => ⟨hi, by omega, bcase (fun h1 => ⟨hi, by omega, sE ?_, trivial⟩) fun h1 => ⟨sE ?_, trivial⟩⟩) fun h => N hp h) fun h => N hb (by simpa using h)⟩
          · unfold r8main; rw [hp, hD, show (g.ty == 1) = true from h1]; rfl
          · unfold r8main; rw [hp, hD, show (g.ty == 1) = false from h1]; rfl
theorem sc_shCheck (u : Un) (hW : r8Weight u ≤ 536870912) : SC Tryz.prog 14 [.pv u.enc] [] (fun _ => False) (.tup [iInt (shCheck u).1, iInt (shCheck u).2]) [] := by
  refine SC.of Tryz.func14 rfl (lb rfl) fun F ρ w => ?_
  refine tQ <| tG <| cE rfl (ok_box rfl rfl) <| sm 2 rfl <| nL <| tQ <| tQ <| tG <| cV rfl (ok_load_ept_agg rfl rfl Tryz.underlying25 rfl tS25 (lb rfl)) <| cE rfl (ocq (sc_shHead u hW) ent27 rfl rfl) <| sm 1 rfl <| nL ?_
  refine tC rfl (fun hc8 => ?_) fun hc8 => ?_
  ·refine tQ <| tG <| sm 2 rfl <| nL <| Tr.ret <| ret_ok rfl ?_ no_post
   have hg : shHead u = false := by simpa using hc8
   simp [shCheck, hg]
  have hg : shHead u = true := by simpa using hc8
  refine Tr.skip <| tQ <| tQ <| tG <| sm 2 rfl ?_
  refine WL.lenOf (t := 10) rfl (fun hl1 => ?_)
  simp only [List.length_map] at hl1
  refine cV rfl (oSm Tryz.underlying23 rfl) <| sm 1 rfl <| nL <| Tr.block <| Tr.sub (Sub.of (fr' := [(12, iInt 0), (11, iInt u.flows.length), (10, .pv (flws u.flows)), (1, .pv (.ept [arrs u.arrays, flws u.flows] 0))]) ⟨rfl, rfl, rfl, rfl, trivial⟩) ?_
  refine Tr.loop (fun fr σ m => ∃ (k : Nat), (k ≤ u.flows.length) ∧ (shflows u u.flows 0 = shflows u (u.flows.drop k) k) ∧ fr = [(12, iInt k), (11, iInt u.flows.length), (10, .pv (flws u.flows)), (1, .pv (.ept [arrs u.arrays, flws u.flows] 0))] ∧ σ = look [] ∧ m = u.flows.length - k) (n := u.flows.length - 0) ?_ ?_
  ·exact ⟨0, Nat.zero_le _, rfl, rfl, rfl, rfl⟩
  rintro fr σ m ⟨k, hI0, hI1, rfl, rfl, rfl⟩
  refine tQ <| tG <| sm 1 rfl <| nL <| tQ ?_
  refine tC rfl (fun hc13 => ?_) fun hc13 => ?_
  ·have hlt : k < u.flows.length := by simpa using hc13
   have hd := List.drop_eq_getElem_cons hlt
   have hm := List.getElem_mem hlt
   have hi := map_get (f := Fl.enc) (List.getElem?_eq_getElem hlt)
   generalize u.flows[k] = x at hd hm hi
   refine Tr.skip <| tQ <| Tr.block <| tQ <| tG <| sm 1 rfl <| cV rfl (ok_index_seq rfl rfl rfl Tryz.underlying23 hi tS41 rfl (by rfl)) <| cV rfl (ok_load_ept_agg rfl rfl Tryz.underlying41 rfl tS41 (lb rfl)) <| cE rfl (ok_alloc (k := 105) rfl tZ41 rfl rfl rfl rfl) <| sm 1 rfl <| c0 (ok_store_box_agg rfl rfl rfl rfl rfl ((fun h => h)) tS41 (firmL_ok rfl) (lb rfl)) <| nL ?_
   refine tQ <| Tr.freezeBox (t := 5) (k := 105) rfl rfl rfl <| Tr.heap (σ' := look []) (fun k => by simp only [look]; cases Nat.beq 105 k <;> rfl) <| tG <| cV rfl (ok_load_ept_agg rfl rfl Tryz.underlying25 rfl tS25 (lb rfl)) <| cV rfl (ok_load_ept_agg rfl rfl Tryz.underlying41 rfl tS41 (lb rfl)) <| cE rfl (ocq (sc_shFlow u x (shHead_params hg) (shHead_params hg x hm) (flow_le hW hm)) ent28 rfl rfl) <| sm 1 rfl <| nL ?_
   refine tC rfl (fun hc20 => ?_) fun hc20 => ?_
   ·refine tQ <| tG <| sm 3 rfl <| nL <| Tr.ret <| ret_ok rfl ?_ no_post
    have hx : shFlow u x = false := by simpa using hc20
    simp only [shCheck, hg, if_true, hI1, hd, shflows, hx, Bool.false_eq_true, if_false]
   refine Tr.skip <| tG <| cV rfl (oB rfl rfl (i64_add rfl (by omega))) <| sm 1 rfl <| nL ?_
   refine ⟨_, _, ?_, Sub.of (fr' := [(12, iInt (k + 1)), (11, iInt u.flows.length), (10, .pv (flws u.flows)), (1, .pv (.ept [arrs u.arrays, flws u.flows] 0))]) ⟨rfl, rfl, rfl, rfl, trivial⟩, (k + 1), ?_, ?_, rfl, rfl, rfl⟩
   ·omega
   ·omega
   rw [hI1, hd]
   have hx : shFlow u x = true := by simpa using hc20
   simp only [shflows, hx, if_true]
   rfl
  refine Tr.exit <| tQ <| tG <| sm 2 rfl <| nL <| Tr.ret <| ret_ok rfl ?_ no_post
  have hge : u.flows.length ≤ k := by simpa using hc13
  simp only [shCheck, hg, if_true, hI1, List.drop_eq_nil_of_le hge, shflows]
set_option maxRecDepth 20000
set_option maxHeartbeats 8000000
theorem okf_boxT {P : Program} {o : Oper} {fr : Fr} {hp : Hp} {Rl : List Nat} {t : TypeId} {x : Operand} (k : Nat) (ho : o.op = .box t x) (hx : fr.ev x = some (.pv (.agg [.val (.pointer none), .val (.slice none 0 0)]))) :
    OkF P Rl o fr hp ⟨.ptr k 0, [(k, some (.box [.tnil k (tyTag + t), .pv (.val (.slice none 0 0))]))], [k], [k]⟩ := fun c fr2 hp2 _ hc0 hg _ hf => by
  obtain ⟨f1, f2, f3⟩ := frsh_ok (hf k (.head _))
  exact ok_boxT ho (hg.ev hx (by rw [ho]; simp [Op.operands])) f3 (hc0 k (.head _)) f1 f2
theorem okf_String {o : Oper} {fr : Fr} {hp : Hp} {Rl : List Nat} {x : Operand} {n : Nat} {s : ByteArray} {tys : Array TypeId} (ho : o.op = .call { callee := .value (.func 19), args := #[x], argTypes := tys }) (hx : fr.ev x = some (.ptr 1001 0))
    (h1 : look hp 1001 = some (.box [bPt, .sl 1002 n])) (h2 : look hp 1002 = some (.row bRt (tEls s))) (hn : (tEls s).length = n) (h0 : s.size ≠ 0) (hR : nIn 1002 Rl = false) : OkF Tryz.prog Rl o fr hp ⟨.pv (.val (.string s)), [(1002, none)], [1001, 1002], []⟩ :=
  fun c fr2 hp2 hc _ hg hh _ => ok_String ho (hg.ev hx (by rw [ho]; simp [Op.operands, Call.operands])) (hh.at h1 (.head _)) (hh.at h2 (.tail _ (.head _))) hn h0 (notR hc hR)
theorem tTabs0 : tTabs 0 = ⟨#[]⟩ := rfl
theorem tTabs1 : tTabs 1 = tTab := rfl
theorem tHd_ge (f : Fl) : ∀ k, 1 ≤ (tHd f k).size
  | 0 => by
    simp only [tHd, size_app]
    have e : tSp.size = 1 := rfl
    omega
  | k + 1 => by
    have e : tSp.size = 1 := rfl
    simp only [tHd, size_app]
    omega
theorem tUnit_ne {u : Un} (h : u.flows ≠ []) : (tUnit u).size ≠ 0 := by
  match hf : u.flows, h with
  | f :: r, _ =>
    have := tHd_ge f f.types.length
    simp only [tUnit, hf, List.map_cons, tCat, tFlw, size_app]
    omega
theorem sc_showPrint (u : Un) (ho : PrOk u) : SC Tryz.prog 9 [.pv u.enc] [] (fun k => k ∈ []) (.tup [.pv (.val (.string (printOf u).1)), iInt (printOf u).2]) [] := by
  refine SC.vc tb { pb := [101], an := [4001, 16003], gh := [(5, [.growC 1001 1 1002 5 1])] } [] Tryz.func9 rfl rfl ?_
  have hsc := sc_shCheck u ho.w
  rw [shCheck_eq] at hsc
  refine ⟨[], hsc, sR, trivial, rfl, bcase (fun hb => ?_) fun hb => ?_⟩
  · have h : ¬ (r8Check u).1 = 0 := by simpa using hb
    exact ⟨sE (by rw [printOf, if_neg h]), trivial⟩
  · have h : (r8Check u).1 = 0 := by simpa using hb
    have hU := tUnit_le h ho
    have hAr := arrs_ok h
    have hU2 := hU
    simp only [tUnit, size_app] at hU2
    have hw := ho.w
    simp only [r8Weight] at hw
    refine ⟨okf_boxT 1001 rfl rfl, ?_⟩
    refine ⟨Nat × IV, fun (k, _) => [(23, iInt k)], fun (k, c) => bd c (tCat ((u.arrays.take k).map tArr)), fun (k, _) => u.arrays.length - k, fun (k, c) => k ≤ u.arrays.length ∧ BdC c, [], (0, bTn), ⟨Nat.zero_le _, .inl rfl⟩, ⟨rfl, trivial⟩, ⟨rfl, rfl, trivial⟩, ?_⟩
    rintro ⟨k, c0⟩ ⟨hk, hC⟩
    refine bcase (fun hc => ?_) fun hc => ?_
    · have hlt : k < u.arrays.length := lt_of (f := Ar.enc) rfl hc
      obtain ⟨a, hx, hk1, _, hm⟩ := at_lt hlt
      have hA := hAr a hm
      have hpn := tCat_part tArr u.arrays (k + 1)
      have hn := tCat_next tArr hk1
      have hl := sc_line hC 0 (by omega) [⟨#[97, 114, 114, 97, 121, 32]⟩, a.name, tSp, tNum a.size] (by simp) (t := tCat ((u.arrays.take k).map tArr)) (t' := tCat ((u.arrays.take (k + 1)).map tArr)) (by rw [hn]; simp only [tLine, tCat, tArr, app_assoc, app_nil, nil_app, tTabs0]) (by omega)
      have hi := sc_Itoa a.size ⟨by omega, by omega⟩
      have g := map_get (f := Ar.enc) hx
      rcases hC with rfl | rfl
      all_goals exact ⟨g, rfl, [], hi, sR, trivial, rfl, [], hl, sR, ⟨rfl, rfl, trivial⟩, rfl, i64_add rfl (by omega), (k + 1, bPt), step_lt hlt, ⟨hlt, .inr rfl⟩, ⟨rfl, trivial⟩, ⟨rfl, rfl, trivial⟩, rfl, rfl, rfl, rfl⟩
    · have hge : u.arrays.length ≤ k := ge_of (f := Ar.enc) rfl hc
      rw [List.take_of_length_le hge]
      generalize hT : tCat (u.arrays.map tArr) = T at *
      refine ⟨Nat × IV, fun (k, _) => [(39, iInt k)], fun (k, c) => bd c (T ++ tCat ((u.flows.take k).map tFlw)), fun (k, _) => u.flows.length - k, fun (k, c) => k ≤ u.flows.length ∧ BdC c ∧ (1 ≤ k → c = bPt), [], (0, c0), ⟨Nat.zero_le _, hC, fun h => absurd h (by decide)⟩, ⟨rfl, trivial⟩, ?_, ?_⟩
      · have e : T ++ tCat ((u.flows.take 0).map tFlw) = T := app_nil T
        show subH _ (bd c0 (T ++ tCat ((u.flows.take 0).map tFlw)))
        rw [e]
        exact ⟨rfl, rfl, trivial⟩
      rintro ⟨k, c1⟩ ⟨hk, hC2, hk0⟩
      refine bcase (fun hc => ?_) fun hc => ?_
      · have hlt : k < u.flows.length := lt_of (f := Fl.enc) rfl hc
        obtain ⟨f, hx, hk1, _, hm⟩ := at_lt hlt
        have hpn := tCat_part tFlw u.flows (k + 1)
        have hn := tCat_next tFlw hk1
        have hb := body_ok h hm (ho.n f hm)
        have hwf := wtF_at hm
        simp only [r8nodes] at hwf
        have hhd := sc_head f (by omega) (by omega)
        have e : T ++ tCat ((u.flows.take (k + 1)).map tFlw) = T ++ tCat ((u.flows.take k).map tFlw) ++ tLine 0 [tHd f f.types.length] ++ tLs (tTabs 1) f.body := by
          rw [hn]
          simp only [tLine, tCat, tFlw, app_assoc, app_nil, nil_app, tTabs0, tTabs1]
        have hsz : (T ++ tCat ((u.flows.take (k + 1)).map tFlw)).size ≤ 70368744177664 := by rw [size_app]; omega
        have hsz2 := hsz
        rw [e, size_app] at hsz2
        have h1 := sc_line hC2 0 (by omega) [tHd f f.types.length] (by simp) (t := T ++ tCat ((u.flows.take k).map tFlw)) rfl (by omega)
        have h2 := sc_showList _ 1 100 f.body (Nat.lt_succ_self _) (by omega) hb.1 hb.2 (by omega) (t := T ++ tCat ((u.flows.take k).map tFlw) ++ tLine 0 [tHd f f.types.length]) e hsz
        have g := map_get (f := Fl.enc) hx
        rcases hC2 with rfl | rfl
        all_goals exact ⟨g, rfl, [], hhd, sR, trivial, rfl, [], h1, sR, ⟨rfl, rfl, trivial⟩, rfl, [], h2, sR, ⟨rfl, rfl, trivial⟩, rfl, i64_add rfl (by omega), (k + 1, bPt), step_lt hlt, ⟨hlt, .inr rfl, fun _ => rfl⟩, ⟨rfl, trivial⟩, ⟨rfl, rfl, trivial⟩, rfl, rfl, rfl, rfl⟩
      · have hge : u.flows.length ≤ k := ge_of (f := Fl.enc) rfl hc
        have hne := flws_ne h
        obtain rfl := hk0 (by
          have : u.flows.length ≠ 0 := fun e => hne (List.eq_nil_of_length_eq_zero e)
          omega)
        rw [List.take_of_length_le hge]
        have e : T ++ tCat (u.flows.map tFlw) = tUnit u := by rw [tUnit, hT]
        rw [e]
        have h0 : (tUnit u).size ≠ 0 := tUnit_ne hne
        exact ⟨okf_String rfl rfl rfl rfl rfl h0 rfl, sE (by rw [printOf, if_pos h]), trivial⟩
set_option maxRecDepth 20000
set_option maxHeartbeats 4000000
def numU (n : Int) : Un := ⟨[], [⟨mainName, 1, 0, [1], [.mk 1 0 n ⟨#[]⟩ [] [0] [] [], .mk 15 0 0 ⟨#[]⟩ [0] [] [] []]⟩]⟩
def nilv : PV := .val (.slice none 0 0)
def numRaw (n : Int) : PV := .agg [nilv, .seq [[vStr mainName, vInt 1, vInt 0, .seq [[vInt 1]], .seq [[vInt 1, vInt 0, vInt n, vStr ⟨#[]⟩, nilv, .seq [[vInt 0]], nilv, nilv], [vInt 15, vInt 0, vInt 0, vStr ⟨#[]⟩, .seq [[vInt 0]], nilv, nilv, nilv]]]]]
theorem num_sub (n : Int) : PSub (numRaw n) (numU n).enc := by
  refine PSub.agg (ps := [_, _]) (qs := [_, _]) ?_
  repeat' (first | exact PSub.nil | exact PSub.refl _ | exact trivial | refine And.intro ?_ ?_ | refine PSub.seq (ps := [_, _]) (qs := [_, _]) ?_ | refine PSub.seq (ps := [_]) (qs := [_]) ?_)
theorem num_check (n : Int) : (r8Check (numU n)).1 = 0 := by
  have h1 : isName mainName = true := by decide +kernel
  have h2 : eqS mainName mainName = true := by decide +kernel
  rw [check_iff]
  refine ⟨?_, fun f hf => ?_⟩
  · simp [r8globals, r8gA, r8gF, gFlw, r8main, numU, r8Place, h1, h2]
  · simp only [numU, List.mem_singleton] at hf
    subst hf
    simp [r8Flow, r8list, ne, r8go, r8node, andT, andS, r8bare, r8simple, r8types, r8typesGo, r8sets, r8setsGo, r8use, r8op, r8num, r8name, r8kn, firsts, iota, r8Closed, Nd.kind, Nd.op, Nd.n, Nd.name, Nd.args, Nd.outs, Nd.params, Nd.kids, r8bad, r8Ender]
theorem num_weight (n : Int) : r8Weight (numU n) ≤ 536870912 := by
  simp [r8Weight, numU, wtA, wtF, r8nodes, wtL, wtN, wtK]
  decide
theorem num_ok {n : Int} (h : N64 n) : PrOk (numU n) := ⟨num_weight n, fun f hf => by
  simp only [numU, List.mem_singleton] at hf
  subst hf
  simp only [n64L, n64N, n64K]
  exact ⟨⟨h, trivial⟩, ⟨⟨by decide, by decide⟩, trivial⟩, trivial⟩⟩
def emptyU : Un := ⟨[], []⟩
theorem empty_ok : PrOk emptyU := ⟨by decide, fun f hf => by simp [emptyU] at hf⟩
theorem empty_print : printOf emptyU = (⟨#[]⟩, 1) := rfl
theorem wake_text : tUnit (numU (-7)) = ⟨#[105, 110, 116, 32, 109, 97, 105, 110, 59, 32, 105, 110, 116, 10, 9, 118, 48, 32, 61, 32, 45, 55, 10, 9, 114, 101, 116, 117, 114, 110, 32, 118, 48, 10]⟩ := by decide +kernel
theorem sc_awake : SC Tryz.prog 8 [] [] (fun k => k ∈ []) (iBool true) [] := by
  have h1 := sc_showPrint (numU (-7)) (num_ok ⟨by decide, by decide⟩)
  have h2 := sc_showPrint emptyU empty_ok
  rw [empty_print] at h2
  rw [printOf, if_pos (num_check _), wake_text] at h1
  refine SC.vc tb {} [] Tryz.func8 rfl rfl ?_
  refine ⟨[], h1, SubA.cons (sP (num_sub (-7))) sR, trivial, rfl, [], h2, SubA.cons (sP (nilP_agg _)) sR, trivial, rfl, bcase (fun _ => ?_) fun h => absurd h (by simp)⟩
  exact ⟨sI, trivial⟩
end Go.Proofs.YtahpinmlgnfklaaGreatDoor
