/- PART 4 of 6 of a proof: see the last part. -/
import Derived.Test.YtfaeemilgahcpaaGreatHb3
set_option linter.unusedSimpArgs false
set_option linter.unusedVariables false
namespace Go.Proofs.YtfaeemilgahcpaaGreat
open Go
section
variable {P : Program} {c : Cx} {R1 : Nat → Prop} {o : Oper} {fr : Fr} {hp : Hp} {σ : Heap'} {Q : Exit → Fr → Heap' → Prop}
open Classical in
/-- A call, by its contract, that hands back an object that is new. -/
theorem SC.step1 {k0 : Nat} {f : FuncId} {args : List IV} {pre post : List (Nat × HO)} {R : Nat → Prop} {r : IV} {hp : Hp} {ρ : Loc} {w : World} {a : Act} {vs : List Value} (hsc : SC P f args pre R r post)
    (h : All c ρ (look hp) w fr a) (hargs : RepL c.F ρ (look hp) w args vs) (hpre : ∀ k o, look (up pre) k = some o → look hp k = some o) (hdom : post.map (·.1) = k0 :: pre.map (·.1)) (hσ0 : look hp k0 = none) (hc0 : c.σ k0 = none) (hfr0 : nmFr k0 fr = false) (hhp0 : nmHp k0 hp = false)
    (hR : ∀ k, c.R k → look (up pre) k = none ∨ R k) (hr : only (post.map (·.1)) r = true) (hpost : onlyHp (post.map (·.1)) post = true) :
    Calls P f vs.toArray w fun e w' => ∃ ρ' v, e = .returned v ∧ All c ρ' (look (up post ++ hp)) w' fr a ∧ RepI c.F ρ' (look (up post ++ hp)) w' r v := by
  have hp0 : look (up pre) k0 = none := by
    cases h0 : look (up pre) k0 with
    | none => rfl
    | some o => rw [hpre k0 o h0] at hσ0; cases hσ0
  have hd : ∀ k, look (up post) k = none ↔ look (up pre) k = none ∧ k ≠ k0 := fun k => by
    rw [look_up_none, look_up_none, hdom, List.mem_cons, not_or]
    exact And.comm
  have hpp : ∀ k, look (up post) k ≠ none → look hp k ≠ none → look (up pre) k ≠ none := fun k e e1 e2 => by
    by_cases e3 : k = k0
    · subst e3; exact e1 hσ0
    exact e ((hd k).2 ⟨e2, e3⟩)
  let ρ1 : Loc := fun k => if look (up pre) k = none then none else ρ k
  let F1 : Nat → Prop := fun b => c.F b ∨ ∃ k cc, ρ k = some (b, cc) ∧ look (up pre) k = none
  have h1in : ∀ k, look (up pre) k ≠ none → ρ1 k = ρ k := fun k hk => if_neg hk
  have h1out : ∀ k, look (up pre) k = none → ρ1 k = none := fun k hk => if_pos hk
  have h1 : ∀ k l, ρ1 k = some l → look (up pre) k ≠ none ∧ ρ k = some l := fun k l hk => by
    by_cases e : look (up pre) k = none
    · rw [h1out k e] at hk; cases hk
    exact ⟨e, (h1in k e) ▸ hk⟩
  have hown1 : ∀ b, owned F1 ρ1 b → owned c.F ρ b := fun b hb => by
    rcases hb with (hb | ⟨k, cc, hk, _⟩) | ⟨k, cc, hk⟩
    · exact .inl hb
    · exact .inr ⟨k, cc, hk⟩
    exact .inr ⟨k, cc, (h1 k _ hk).2⟩
  have hconv : ∀ x : IV, ¬ Names (fun k => ¬ ∀ o, look (up pre) k = some o → look hp k = some o ∧ ρ1 k = ρ k) x := fun x hx => by
    obtain ⟨k, hk⟩ := hx.some
    exact hk fun o ho => ⟨hpre k o ho, h1in k (by simp [ho])⟩
  have hrel1 : RelH F1 ρ1 (look (up pre)) w := by
    refine ⟨fun k k' b cc cc' hk hk' => h.rel.inj k k' b cc cc' (h1 _ _ hk).2 (h1 _ _ hk').2, fun k b cc hk hb => ?_, fun b hb => ?_, fun k b cc hk => ?_, fun k o hk hρ => ?_⟩
    · rcases hb with hb | ⟨k', cc', hk', hn⟩
      · exact h.rel.apart k b cc (h1 _ _ hk).2 hb
      obtain rfl := h.rel.inj _ _ _ _ _ (h1 _ _ hk).2 hk'
      exact (h1 _ _ hk).1 hn
    · rcases hb with hb | ⟨k', cc', hk', _⟩
      · exact h.rel.old b hb
      exact h.rel.lt hk'
    · obtain ⟨hne, hk2⟩ := h1 _ _ hk
      obtain ⟨o1, ho1, ho2⟩ := h.rel.obj k b cc hk2
      cases hl : look (up pre) k with
      | none => exact absurd hl hne
      | some o2 =>
        rw [hpre k o2 hl] at ho1; cases ho1
        exact ⟨_, rfl, ho2.conv hown1 fun x _ => hconv x⟩
    rw [h1in k (by simp [hk])] at hρ
    exact h.rel.real k o (hpre k o hk) hρ
  refine (hsc F1 ρ1 w vs hrel1 ⟨hargs.1, fun j x hj => ?_⟩).mono ?_
  · obtain ⟨v, hv, hx⟩ := hargs.2 j x hj
    exact ⟨v, hv, hx.conv hown1 (hconv x)⟩
  rintro e w' ⟨ρ2, v, rfl, hv, hrel2, t⟩
  let ρ' : Loc := fun k => if look (up post) k = none then ρ k else ρ2 k
  have h2in : ∀ k, look (up post) k ≠ none → ρ' k = ρ2 k := fun k hk => if_neg hk
  have h2out : ∀ k, look (up post) k = none → ρ' k = ρ k := fun k hk => if_pos hk
  have h2none : ∀ k, look (up post) k = none → ρ2 k = none := fun k hk => by
    cases h3 : ρ2 k with
    | none => rfl
    | some l =>
      obtain ⟨o1, ho1, _⟩ := hrel2.obj k l.1 l.2 h3
      rw [hk] at ho1; cases ho1
  have hσin : ∀ k, look (up post) k ≠ none → look (up post ++ hp) k = look (up post) k := fun k hk => by
    rw [look_append]
    cases h3 : look (up post) k with
    | none => exact absurd h3 hk
    | some o => rfl
  have hσout : ∀ k, look (up post) k = none → look (up post ++ hp) k = look hp k := fun k hk => by
    rw [look_append, hk]; rfl
  have hown2 : ∀ b, owned c.F ρ' b → owned F1 ρ2 b := fun b hb => by
    rcases hb with hb | ⟨k, cc, hk⟩
    · exact .inl (.inl hb)
    by_cases e : look (up post) k = none
    · rw [h2out k e] at hk; exact .inl (.inr ⟨k, cc, hk, ((hd k).1 e).1⟩)
    rw [h2in k e] at hk; exact .inr ⟨k, cc, hk⟩
  have hconv2 : ∀ x : IV, only (post.map (·.1)) x = true → ¬ Names (fun k => ¬ ∀ o, look (up post ++ hp) k = some o → look (up post) k = some o ∧ ρ' k = ρ2 k) x := fun x hx hn => by
    refine only_names hx (hn.imp fun k hk hmem => hk fun o ho => ?_)
    have hne : look (up post) k ≠ none := fun e => (look_up_none.1 e) hmem
    rw [hσin k hne] at ho
    exact ⟨ho, h2in k hne⟩
  have T : Trans c.F (fun k => look (up pre) k = none ∨ R k) ρ (look hp) w ρ' (look (up post ++ hp)) w' := by
    refine ⟨t.os, t.tape, t.output, t.size, fun b hb hall => t.blk b hb fun k cc hk => ?_, fun k b cc hk hb => ?_, fun k cs cs' e1 e2 => ?_, fun k cs cs' e1 e2 => ?_, fun k s s' els els' e1 e2 hl => ?_, fun k s s' els els' e1 e2 => ?_, fun k cs' e2 => ?_, fun k cs' e2 => ?_, fun k s els' e2 => ?_⟩
    · obtain ⟨hne, hk2⟩ := h1 _ _ hk
      exact (hall k cc hk2).resolve_left hne
    · by_cases e : look (up post) k = none
      · rwa [h2out k e] at hk
      rw [h2in k e] at hk; exact (h1 _ _ (t.own k b cc hk hb)).2
    all_goals by_cases e : look (up post) k = none
    · exact h2out k e
    · cases h3 : look (up pre) k with
      | none => exact absurd h3 (hpp k e (by simp [e1]))
      | some o =>
        rw [hpre k o h3] at e1; cases e1
        rw [hσin k e] at e2
        rw [h2in k e, t.box k _ _ h3 e2, h1in k (by simp [h3])]
    · exact h2out k e
    · cases h3 : look (up pre) k with
      | none => exact absurd h3 (hpp k e (by simp [e1]))
      | some o =>
        rw [hpre k o h3] at e1; cases e1
        rw [hσin k e] at e2
        rw [h2in k e, t.map k _ _ h3 e2, h1in k (by simp [h3])]
    · exact h2out k e
    · cases h3 : look (up pre) k with
      | none => exact absurd h3 (hpp k e (by simp [e1]))
      | some o =>
        rw [hpre k o h3] at e1; cases e1
        rw [hσin k e] at e2
        rw [h2in k e, t.row k _ _ _ _ h3 e2 hl, h1in k (by simp [h3])]
    · rw [hσout k e, e1] at e2; cases e2; exact Nat.le_refl _
    · cases h3 : look (up pre) k with
      | none => exact absurd h3 (hpp k e (by simp [e1]))
      | some o =>
        rw [hpre k o h3] at e1; cases e1
        rw [hσin k e] at e2
        exact t.grow k _ _ _ _ h3 e2
    · rw [hσout k e] at e2; exact .inr ⟨_, e2⟩
    · rw [hσin k e] at e2
      rcases t.kindB k _ e2 with h3 | ⟨cs, h3⟩
      · by_cases e3 : k = k0
        · subst e3; exact .inl hσ0
        exact absurd ((hd k).2 ⟨h3, e3⟩) e
      exact .inr ⟨cs, hpre k _ h3⟩
    · rw [hσout k e] at e2; exact .inr ⟨_, e2⟩
    · rw [hσin k e] at e2
      rcases t.kindM k _ e2 with h3 | ⟨cs, h3⟩
      · by_cases e3 : k = k0
        · subst e3; exact .inl hσ0
        exact absurd ((hd k).2 ⟨h3, e3⟩) e
      exact .inr ⟨cs, hpre k _ h3⟩
    · rw [hσout k e] at e2; exact .inr ⟨_, e2⟩
    rw [hσin k e] at e2
    rcases t.kindR k _ _ e2 with h3 | ⟨cs, h3⟩
    · by_cases e3 : k = k0
      · subst e3; exact .inl hσ0
      exact absurd ((hd k).2 ⟨h3, e3⟩) e
    exact .inr ⟨cs, hpre k _ h3⟩
  have hnone : ∀ k, (look hp k = none ∧ look (up post ++ hp) k ≠ none) → k = k0 := fun k hk => by
    by_cases e : look (up post) k = none
    · rw [hσout k e] at hk; exact absurd hk.1 hk.2
    refine Classical.byContradiction fun e3 => ?_
    have e4 : look (up pre) k ≠ none := fun h3 => e ((hd k).2 ⟨h3, e3⟩)
    cases h3 : look (up pre) k with
    | none => exact e4 h3
    | some o => rw [hpre k o h3] at hk; cases hk.1
  have hnn : ∀ x : IV, nm k0 x = false → ¬ Names (fun k => look hp k = none ∧ look (up post ++ hp) k ≠ none) x := fun x hx hn => by
    rw [nm_names (hn.imp hnone)] at hx; cases hx
  refine ⟨ρ', v, rfl, h.step T hR ⟨fun k k' b cc cc' hk hk' => ?_, fun k b cc hk hb => ?_, fun b hb => Nat.lt_of_lt_of_le (h.rel.old b hb) t.size, fun k b cc hk => ?_, fun k o hk hρ => ?_⟩ (fun k e1 e2 => hnone k ⟨e1, e2⟩ ▸ hc0) fun _ x hx => hnn x (nmFr_get hfr0 hx), hv.conv hown2 (hconv2 r hr)⟩
  · by_cases e : look (up post) k = none <;> by_cases e' : look (up post) k' = none
    · rw [h2out k e] at hk; rw [h2out k' e'] at hk'; exact h.rel.inj _ _ _ _ _ hk hk'
    · rw [h2out k e] at hk; rw [h2in k' e'] at hk'
      exact absurd (.inr ⟨k, cc, hk, ((hd k).1 e).1⟩) (hrel2.apart _ _ _ hk')
    · rw [h2in k e] at hk; rw [h2out k' e'] at hk'
      exact absurd (.inr ⟨k', cc', hk', ((hd k').1 e').1⟩) (hrel2.apart _ _ _ hk)
    rw [h2in k e] at hk; rw [h2in k' e'] at hk'; exact hrel2.inj _ _ _ _ _ hk hk'
  · by_cases e : look (up post) k = none
    · rw [h2out k e] at hk; exact h.rel.apart _ _ _ hk hb
    rw [h2in k e] at hk; exact hrel2.apart _ _ _ hk (.inl hb)
  · by_cases e : look (up post) k = none
    · rw [h2out k e] at hk
      obtain ⟨o1, ho1, ho2⟩ := h.rel.obj k b cc hk
      refine ⟨o1, (hσout k e).trans ho1, ho2.keep T (t.blk b (h.rel.lt hk) fun k' cc' hk' => ?_) fun x ⟨cs, h3, h4⟩ => hnn x (by subst h3; exact nms_mem (nmHp_look hhp0 ho1) h4)⟩
      obtain ⟨hne, hk2⟩ := h1 _ _ hk'
      obtain rfl := h.rel.inj _ _ _ _ _ hk hk2
      exact absurd ((hd _).1 e).1 hne
    rw [h2in k e] at hk
    obtain ⟨o1, ho1, ho2⟩ := hrel2.obj k b cc hk
    refine ⟨o1, (hσin k e).trans ho1, ho2.conv hown2 fun x ⟨cs, h3, h4⟩ => hconv2 x ?_⟩
    subst h3
    exact onlys_mem (onlyHp_mem hpost (look_up_mem ho1)) h4
  by_cases e : look (up post) k = none
  · rw [hσout k e] at hk; rw [h2out k e] at hρ; exact h.rel.real k o hk hρ
  rw [hσin k e] at hk; rw [h2in k e] at hρ; exact hrel2.real k o hk hρ
/-- A call that hands back a new object. -/
theorem ok_calln {k0 : Nat} {f : FuncId} {os : Array Operand} {tys : Array TypeId} {xs args : List IV} {pre post : List (Nat × HO)} {R : Nat → Prop} {r : IV} {hp : Hp} (hsc : SC P f args pre R r post) (hf : enters P f)
    (ho : o.op = .call { callee := .value (.func f), args := os, argTypes := tys }) (hx : evs fr os.toList = some xs) (hs : Subs (look hp) xs args) (hpre : ∀ k o, look (up pre) k = some o → look hp k = some o) (hdom : post.map (·.1) = k0 :: pre.map (·.1)) (hσ0 : look hp k0 = none) (hc0 : c.σ k0 = none) (hfr0 : nmFr k0 fr = false) (hhp0 : nmHp k0 hp = false)
    (hR : ∀ k, c.R k → look (up pre) k = none ∨ R k) (hr : only (post.map (·.1)) r = true) (hpost : onlyHp (post.map (·.1)) post = true) : Ok P c o fr (look hp) r (look (up post ++ hp)) := by
  intro ρ w a K Q h hK
  obtain ⟨fn, hfn, hname, hbody⟩ := hf
  have hargs := hs _ _ _ _ (evs_rep h hx)
  have hrun : (execOp a.eval o).run P w = .ok (.enter f (os.toList.map a.eval).toArray) w := by
    have hcall : (callFunc f (os.toList.map a.eval).toArray).run P w = .ok (.enter f (os.toList.map a.eval).toArray) w := by
      unfold callFunc
      simp only [Sem.run_bind]
      show (Result.andThen (.ok P w) _) = _
      simp only [Result.andThen_ok, hfn, hname, hbody]
      rfl
    simp only [execOp, ho, resolve, Act.eval, Deferred.ofValue, Sem.run_bind, Sem.run_pure, Result.andThen_ok, invoke]
    rw [← hcall]
    congr 2
    apply Array.ext'
    simp
  unfold Oper.wp
  rw [hrun, Oper.upon_enter]
  refine (hsc.step1 h hargs hpre hdom hσ0 hc0 hfr0 hhp0 hR hr hpost).mono ?_
  rintro e w' ⟨ρ', v, rfl, h1, h2⟩
  exact hK ρ' w' v h1 h2
/-- append(nil, make([]T, n)...): a new row of zeros. -/
theorem ok_append_zeros {t tn : TypeId} {x y : Operand} {k n by_ : Nat} {s : RT} {z : Value} {kn : IntKind} (ho : o.op = .call { callee := .builtin .append, args := #[x, y], argTypes := #[t, tn] }) (hx : fr.ev x = some (.pv (.val (.slice none 0 0)))) (hy : fr.ev y = some (iInt n))
    (ht : P.underlying t = some (.slice s.e)) (htn : P.underlying tn = some (.int kn)) (hz : ((P.info? s.e).bind (·.zero)) = some z) (hi : (P.info? s.e).map (fun i => (i.size, i.bytes)) = some (s.n, by_)) (hzs : z.cells.size = s.n) (hs : 0 < s.n) (h0 : 0 < n) (hm : n ≤ maxLen) (hb : n * by_ ≤ 140737488355328)
    (hσ : look hp k = none) (hc : c.σ k = none) (hfr : nmFr k fr = false) (hhp : nmHp k hp = false) :
    Ok P c o fr (look hp) (.sl k n) (look ((k, some (.row s (List.replicate n (z.cells.toList.map .val)))) :: hp)) := by
  intro ρ w a K Q h hK
  cases hq : P.info? s.e with
  | none => simp [hq] at hi
  | some i =>
    have hsz : i.size = s.n := by simp [hq] at hi; exact hi.1
    have hby : i.bytes = by_ := by simp [hq] at hi; exact hi.2
    have hiz : i.zero = some z := by simpa [hq] using hz
    simp only [maxLen] at hm
    have hr := Lib.run_append_nil_zeros (P := P) w t tn o.type s.e i z .i64 kn ht htn hq hiz n h0 (by omega) (by omega) (by rw [hby]; omega)
    have hge := grownCap_ge w n 0 s.e
    have hcm := grownCap_le_maxLen w n 0 s.e (by simp only [maxLen]; omega)
    refine Lib.wp_append_run w x y t tn ho _ _ (ev_val h hx) (ev_val h hy) _ _ hr ?_
    refine hK (locUpd ρ k (some (w.heap.size, grownCap w n 0 s.e))) _ _ (h.drew.alloc hσ hc hfr hhp (grownCap w n 0 s.e) _ _ fun _ _ => ?_) (.sl _ _ _ fun s' els' h' => ?_)
    · have hrow : ∀ q, q < n * s.n → (Builtin.zeroCells z.cells n ++ Builtin.zeroCells z.cells (grownCap w n 0 s.e - n))[q]? = some (z.cells[q % s.n]!) := fun q hq => by
        rw [Array.getElem?_append_left (by rw [size_zeroCells, hzs]; exact hq)]
        simp [Builtin.zeroCells, hzs, hq]
      refine .row s _ _ (fun _ j => z.cells[j]!) (heap_new _ _) ?_ (by simpa using hge) hcm (fun el hel => ?_) (fun i el hi j x hj => ?_) fun i el hi j x hj => ?_
      · simp only [Array.size_append, size_zeroCells, hzs, ← Nat.add_mul]
        congr 1; omega
      · rw [List.eq_of_mem_replicate hel]; simp [hzs]
      · have hel := List.eq_of_mem_replicate (List.mem_of_getElem? hi)
        have hin : i < n := by have := (List.getElem?_eq_some_iff.1 hi).1; simpa using this
        subst hel
        have hjs : j < s.n := by have := (List.getElem?_eq_some_iff.1 hj).1; simp [hzs] at this; exact this
        have hlt : i * s.n + j < n * s.n := by
          have : (i + 1) * s.n ≤ n * s.n := Nat.mul_le_mul_right _ (by omega)
          rw [Nat.add_mul] at this; omega
        rw [hrow _ hlt, Nat.add_comm, Nat.add_mul_mod_self_right, Nat.mod_eq_of_lt hjs]
      have hel := List.eq_of_mem_replicate (List.mem_of_getElem? hi)
      subst hel
      simp only [List.getElem?_map, Option.map_eq_some_iff, Array.getElem?_toList] at hj
      obtain ⟨v, hv, rfl⟩ := hj
      have : z.cells[j]! = v := by simp [getElem!_def, hv]
      rw [this]; exact .val v
    rw [look_hd] at h'; cases h'
    exact ⟨by simp, fun _ => .inl ⟨w.heap.size, _, locUpd_same, rfl⟩⟩
/-- A row of this call's own is forgotten, but for where it lies. -/
theorem All.toEmpty {ρ : Loc} {w : World} {a : Act} {k : Nat} {s : RT} {els : List (List PV)} {fr' : Fr} (h : All c ρ (look hp) w fr a) (hk : look hp k = some (.row s els)) (hc : c.σ k = none) (hs : Sub (look hp) fr fr') (hfr : nmFr k fr' = false) (hhp : nmHp k hp = false) :
    All c ρ (look ((k, some (.row s [])) :: hp)) w fr' a := by
  have h := h.sub hs
  have hlk : ∀ j, j ≠ k → look ((k, some (.row s [])) :: hp) j = look hp j := fun j hj => look_ne (Ne.symm hj)
  have hlk' : look ((k, some (.row s [])) :: hp) k = some (.row s []) := look_hd
  have hconv : ∀ x v, nm k x = false → RepI c.F ρ (look hp) w x v → RepI c.F ρ (look ((k, some (.row s [])) :: hp)) w x v := fun x v hx hr =>
    hr.conv (fun _ hb => hb) fun hn => by
      have := nm_names (hn.imp fun j hj => Classical.byContradiction fun e => hj fun o ho => ⟨by rw [hlk j e] at ho; exact ho, rfl⟩)
      rw [this] at hx; cases hx
  refine ⟨⟨h.rel.inj, h.rel.apart, h.rel.old, fun j b cc hj => ?_, fun j o h1 h2 => ?_⟩, fun t x hx => ?_, ?_, h.df, h.sz⟩
  · obtain ⟨o1, h1, h2⟩ := h.rel.obj j b cc hj
    by_cases e : j = k
    · subst e
      rw [hk] at h1; cases h1
      refine ⟨_, hlk', ?_⟩
      cases h2 with
      | row _ _ r u h hs hl hm hw hv hr => exact .row s [] r u h hs (Nat.zero_le _) hm (fun _ h => by simp at h) (fun i el hi => by simp at hi) fun i el hi => by simp at hi
    refine ⟨o1, (hlk j e).trans h1, ?_⟩
    cases h2 with
    | box cs e' r u h hl hv hr => exact .box cs e' r u h hl hv fun i x hi => hconv _ _ (nms_mem (nmHp_look hhp h1) (List.mem_of_getElem? hi)) (hr i x hi)
    | row s' els' r u h hs hl hm hw hv hr => exact .row s' els' r u h hs hl hm hw hv hr
    | map es r t u h hl hv hr => exact .map es r t u h hl hv hr
  · by_cases e : j = k
    · subst e; rw [hlk'] at h1; cases h1; exact ⟨s, rfl⟩
    rw [hlk j e] at h1; exact h.rel.real j o h1 h2
  · obtain ⟨v, hv, hr⟩ := h.fr t x hx
    exact ⟨v, hv, hconv _ _ (nmFr_get hfr hx) hr⟩
  have t := h.tr
  refine ⟨t.os, t.tape, t.output, t.size, t.blk, t.own, fun j cs cs' e1 e2 => ?_, fun j cs cs' e1 e2 => ?_, fun j s1 s2 els els' e1 e2 hl => ?_, fun j s1 s2 els els' e1 e2 => ?_, fun j cs' e2 => ?_, fun j cs' e2 => ?_, fun j s1 els' e2 => ?_⟩
  all_goals by_cases e : j = k
  · subst e; rw [hc] at e1; cases e1
  · rw [hlk j e] at e2; exact t.box j _ _ e1 e2
  · subst e; rw [hc] at e1; cases e1
  · rw [hlk j e] at e2; exact t.map j _ _ e1 e2
  · subst e; rw [hc] at e1; cases e1
  · rw [hlk j e] at e2; exact t.row j _ _ _ _ e1 e2 hl
  · subst e; rw [hc] at e1; cases e1
  · rw [hlk j e] at e2; exact t.grow j _ _ _ _ e1 e2
  · subst e; exact .inl hc
  · rw [hlk j e] at e2; exact t.kindB j _ e2
  · subst e; exact .inl hc
  · rw [hlk j e] at e2; exact t.kindM j _ e2
  · subst e; exact .inl hc
  rw [hlk j e] at e2; exact t.kindR j _ _ e2
/-- s[:0], of a row of this call's own: it begins anew. -/
theorem WL.sliceZero {ops : Array Oper} {l : List Oper} {d k n : Nat} {t : TypeId} {x y : Operand} {s : RT} {els : List (List PV)} {fr' : Fr} (hg : o.guard = none) (hd : o.dst = some d) (hn : Nat.blt d c.n = true) (ho : o.op = .slice t x none (some y) none) (hx : fr.ev x = some (.sl k n)) (hy : fr.ev y = some (iInt 0))
    (hk : look hp k = some (.row s els)) (hln : els.length = n) (hpos : 0 < n) (hc : c.σ k = none) (hu : P.underlying t = some (.slice s.e)) (hsz : (P.info? s.e).map (·.size) = some s.n) (hs : Sub (look hp) fr fr') (hfr : nmFr k fr' = false) (hhp : nmHp k hp = false)
    (h : WL P c ops Q l ((d, .sl k 0) :: fr') (look ((k, some (.row s [])) :: hp))) : WL P c ops Q (o :: l) fr (look hp) := by
  intro ρ w a ha
  refine wpList_plain hg fun K hK => ?_
  rcases ha.row hx hk hln with ⟨b, cc, r, u, hv, hρ, h3, h4, hcc, hcm, hwe, hcells, hu'⟩ | ⟨_, _, hnil⟩
  · have hrun : (execOp a.eval o).run P w = .ok (.value (.slice (some ⟨b, 0, none⟩) 0 cc)) w := by
      have hso := run_sizeOf hsz w
      simp [execOp, ho, hv, ev_val ha hy, Instr.sliceAt, Instr.slice, Sem.run_bind, run_underlying hu, Instr.sliceBounds, Instr.sliceBound, asIntOf, hso]
      intro _; rfl
    unfold Oper.wp
    rw [hrun, Oper.upon_value]
    refine hK _ _ (h ρ w _ ?_)
    have h5 := ha.toEmpty hk hc hs hfr hhp
    have := h5.put (d := o.dst) (x := .sl k 0) (v := .slice (some ⟨b, 0, none⟩) 0 cc) (.sl _ _ _ fun s1 els1 h1 => by rw [look_hd] at h1; cases h1; exact ⟨Nat.zero_le _, fun _ => .inl ⟨b, cc, hρ, rfl⟩⟩) (by rw [hd]; intro t ht; cases ht; simpa using hn)
    rwa [hd] at this ⊢
  subst hnil; simp at hln; omega
theorem ok_cap_nil {t e : TypeId} {x : Operand} (ho : o.op = .call { callee := .builtin .cap, args := #[x], argTypes := #[t] }) (hx : fr.ev x = some (.pv (.val (.slice none 0 0)))) (hu : P.underlying t = some (.slice e)) : OkV P c R1 o fr σ (iInt 0) := by
  intro ρ w a h
  refine ⟨.int .i64 0, fun w2 _ => ?_, mkVal _⟩
  simp [execOp, ho, ev_val h hx, resolve, Sem.run_bind, invoke, builtin, Builtin.cap_, run_underlying hu, goInt]
theorem ok_slice_nil {t e : TypeId} {x y : Operand} {n : Nat} (ho : o.op = .slice t x none (some y) none) (hx : fr.ev x = some (.pv (.val (.slice none 0 0)))) (hy : fr.ev y = some (iInt 0)) (hu : P.underlying t = some (.slice e)) (hs : (P.info? e).map (·.size) = some n) : OkV P c R1 o fr σ (.pv (.val (.slice none 0 0))) := by
  intro ρ w a h
  refine ⟨.slice none 0 0, fun w2 _ => ?_, mkVal _⟩
  have hso := run_sizeOf hs w2
  simp [execOp, ho, ev_val h hx, ev_val h hy, Instr.sliceAt, Instr.slice, Sem.run_bind, run_underlying hu, Instr.sliceBounds, Instr.sliceBound, asIntOf, hso]
theorem Sub.cons2 {fr' : Fr} {d : Nat} {x y : IV} (hx : ∀ F ρ w v, RepI F ρ σ w x v → RepI F ρ σ w y v) (h : Sub σ fr fr') : Sub σ ((d, x) :: fr) ((d, y) :: fr') := by
  intro t z hz
  simp only [Fr.get] at hz ⊢
  cases hb : Nat.beq d t with
  | true => rw [hb] at hz; cases hz; exact ⟨_, rfl, hx⟩
  | false => rw [hb] at hz; exact h t z hz
theorem Sub.rfl' : Sub σ fr fr := fun _ y hy => ⟨y, hy, fun _ _ _ _ h => h⟩
/-- A row that a box holds is given up: it is never written again. -/
theorem All.freezeCell {ρ : Loc} {w : World} {a : Act} {k k2 j n : Nat} {s : RT} {els : List (List PV)} {cs : List IV} (h : All c ρ (look hp) w fr a) (hk : look hp k = some (.row s els)) (hn : els.length = n) (hk2 : look hp k2 = some (.box cs)) (hj : cs[j]? = some (.sl k n)) (hne : k ≠ k2) :
    All c (locUpd ρ k none) (look ((k2, some (.box (cs.set j (.pv (.seq els))))) :: (k, none) :: hp)) w fr a := by
  have h' := h.drop (k := k)
  have hown : ∀ b, owned c.F (locUpd ρ k none) b → owned c.F ρ b := fun b hb => by
    rcases hb with hb | ⟨i, cc, hi⟩
    · exact .inl hb
    by_cases e : i = k
    · subst e; rw [locUpd_same] at hi; cases hi
    rw [locUpd_ne (Ne.symm e)] at hi; exact .inr ⟨i, cc, hi⟩
  have hlk : ∀ i, i ≠ k2 → look ((k2, some (.box (cs.set j (.pv (.seq els))))) :: (k, none) :: hp) i = look ((k, none) :: hp) i := fun i hi => look_ne (Ne.symm hi)
  have hlk2 : look ((k2, some (.box (cs.set j (.pv (.seq els))))) :: (k, none) :: hp) k2 = some (.box (cs.set j (.pv (.seq els)))) := look_hd
  have hk2' : look ((k, none) :: hp) k2 = some (.box cs) := look_tl hne hk2
  have hnew : ∀ v, RepI c.F ρ (look hp) w (.sl k n) v → RepP (owned c.F (locUpd ρ k none)) w (.seq els) v := by
    intro v hv
    cases hv with
    | sl _ _ _ hv =>
      obtain ⟨_, h2⟩ := hv s els hk
      rcases h2 hn with ⟨b, cc, hρ, rfl⟩ | ⟨_, hz, rfl⟩
      · obtain ⟨o1, h3, h4⟩ := h.rel.obj k b cc hρ
        rw [hk] at h3; cases h3
        cases h4 with
        | row _ _ r u h3 hs hl hm hwe hcells hu =>
          rw [← hn]
          refine .seq els _ cc b 0 u (fun _ => rfl) (fun _ => ⟨fun ho => ?_, h.rel.lt hρ⟩) (by omega) hm (fun i el hi q x hq => ?_) fun i el hi q x hq => (hu i el hi q x hq).own hown
          · rcases ho with ho | ⟨i, cc', hi⟩
            · exact h.rel.apart _ _ _ hρ ho
            by_cases e : i = k
            · subst e; rw [locUpd_same] at hi; cases hi
            rw [locUpd_ne (Ne.symm e)] at hi; exact e (h.rel.inj _ _ _ _ _ hi hρ)
          rw [cell_at h3, Nat.zero_add, hwe el (List.mem_of_getElem? hi)]
          exact hcells i el hi q x hq
      have hnil : els = [] := List.eq_nil_of_length_eq_zero (by omega)
      subst hnil
      exact .seq [] none 0 0 0 (fun _ _ => undef) (by simp) (by simp) (by simp) (by simp [maxLen]) (by simp) (by simp)
  have hconv : ∀ x v, RepI c.F (locUpd ρ k none) (look ((k, none) :: hp)) w x v → RepI c.F (locUpd ρ k none) (look ((k2, some (.box (cs.set j (.pv (.seq els))))) :: (k, none) :: hp)) w x v := by
    intro x v hx
    induction hx with
    | pv p v hp => exact .pv p v hp
    | ptr i off v hi =>
      refine .ptr i off v fun cs' h2 => ?_
      by_cases e : i = k2
      · subst e; exact hi _ hk2'
      rw [hlk i e] at h2; exact hi _ h2
    | sl i len v hi =>
      refine .sl i len v fun s' els' h2 => ?_
      by_cases e : i = k2
      · subst e; rw [hlk2] at h2; cases h2
      rw [hlk i e] at h2; exact hi _ _ h2
    | rpt i len off v hi =>
      refine .rpt i len off v fun s' els' h2 => ?_
      by_cases e : i = k2
      · subst e; rw [hlk2] at h2; cases h2
      rw [hlk i e] at h2; exact hi _ _ h2
    | mp i v hi =>
      refine .mp i v fun es h2 => ?_
      by_cases e : i = k2
      · subst e; rw [hlk2] at h2; cases h2
      rw [hlk i e] at h2; exact hi _ h2
    | agg cs vs u hl hv _ ih => exact .agg cs vs u hl hv ih
    | tup cs vs u hl hv _ ih => exact .tup cs vs u hl hv ih
    | fn f xs ys vs ws u t hl hv _ hl' hv' _ ih ih' => exact .fn f xs ys vs ws u t hl hv ih hl' hv' ih'
  refine ⟨⟨h'.rel.inj, h'.rel.apart, h'.rel.old, fun i b cc hi => ?_, fun i o h1 h2 => ?_⟩, fun t x hx => ?_, ?_, h'.df, h'.sz⟩
  · obtain ⟨o1, h1, h2⟩ := h'.rel.obj i b cc hi
    by_cases e : i = k2
    · subst e
      rw [hk2'] at h1; cases h1
      refine ⟨_, hlk2, ?_⟩
      have hρi : ρ i = some (b, cc) := by rwa [locUpd_ne hne] at hi
      obtain ⟨o3, h3, h4⟩ := h.rel.obj i b cc hρi
      rw [hk2] at h3; cases h3
      cases h2 with
      | box _ e' r u h5 hl hv hr =>
        cases h4 with
        | box _ e2 r2 u2 h6 hl2 hv2 hr2 =>
          rw [h5] at h6; cases h6
          refine .box _ e' r u h5 (by simpa using hl) (fun q x hq => ?_) fun q x hq => ?_
          · by_cases eq : q = j
            · subst eq
              exact hv q _ hj
            rw [List.getElem?_set_ne (Ne.symm eq)] at hq; exact hv q x hq
          by_cases eq : q = j
          · subst eq
            have hlt : q < cs.length := (List.getElem?_eq_some_iff.1 hj).1
            rw [List.getElem?_set_self hlt] at hq; cases hq
            have e3 : u q = u2 q := by
              have a1 := hv q _ hj; have a2 := hv2 q _ hj
              rw [a1] at a2; exact Option.some.inj a2
            rw [e3]
            exact .pv _ _ (hnew _ (hr2 q _ hj))
          rw [List.getElem?_set_ne (Ne.symm eq)] at hq; exact hconv _ _ (hr q x hq)
    refine ⟨o1, (hlk i e).trans h1, ?_⟩
    cases h2 with
    | box cs' e' r u h hl hv hr => exact .box cs' e' r u h hl hv fun q x hq => hconv _ _ (hr q x hq)
    | row s' els' r u h hs hl hm hw hv hr => exact .row s' els' r u h hs hl hm hw hv hr
    | map es r t u h hl hv hr => exact .map es r t u h hl hv hr
  · by_cases e : i = k2
    · subst e
      rw [locUpd_ne hne] at h2
      obtain ⟨s', h3⟩ := h.rel.real i _ hk2 h2
      cases h3
    rw [hlk i e] at h1; exact h'.rel.real i o h1 h2
  · obtain ⟨v, hv, hr⟩ := h'.fr t x hx
    exact ⟨v, hv, hconv _ _ hr⟩
  have t := h'.tr
  refine ⟨t.os, t.tape, t.output, t.size, t.blk, t.own, fun i a1 a2 e1 e2 => ?_, fun i a1 a2 e1 e2 => ?_, fun i s1 s2 a1 a2 e1 e2 hl => ?_, fun i s1 s2 a1 a2 e1 e2 => ?_, fun i a2 e2 => ?_, fun i a2 e2 => ?_, fun i s1 a2 e2 => ?_⟩
  all_goals by_cases e : i = k2
  · subst e; exact t.box i _ _ e1 hk2'
  · rw [hlk i e] at e2; exact t.box i _ _ e1 e2
  · subst e; rw [hlk2] at e2; cases e2
  · rw [hlk i e] at e2; exact t.map i _ _ e1 e2
  · subst e; rw [hlk2] at e2; cases e2
  · rw [hlk i e] at e2; exact t.row i _ _ _ _ e1 e2 hl
  · subst e; rw [hlk2] at e2; cases e2
  · rw [hlk i e] at e2; exact t.grow i _ _ _ _ e1 e2
  · subst e; exact t.kindB i _ hk2'
  · rw [hlk i e] at e2; exact t.kindB i _ e2
  · subst e; rw [hlk2] at e2; cases e2
  · rw [hlk i e] at e2; exact t.kindM i _ e2
  · subst e; rw [hlk2] at e2; cases e2
  rw [hlk i e] at e2; exact t.kindR i _ _ e2
theorem Tr.freezeCell {x : Code} {k k2 j n : Nat} {s : RT} {els : List (List PV)} {cs : List IV} (hk : look hp k = some (.row s els)) (hn : els.length = n) (hk2 : look hp k2 = some (.box cs)) (hj : cs[j]? = some (.sl k n)) (hne : k ≠ k2)
    (h : Tr P c x fr (look ((k2, some (.box (cs.set j (.pv (.seq els))))) :: (k, none) :: hp)) Q) : Tr P c x fr (look hp) Q := fun _ w a ha => h _ w a (ha.freezeCell hk hn hk2 hj hne)
/-- What is left alone matters of what was there alone. -/
theorem SC.sameR {f : FuncId} {args : List IV} {pre post : List (Nat × HO)} {R R' : Nat → Prop} {r : IV} (h : SC P f args pre R r post) (hR : ∀ k, look (up pre) k ≠ none → R' k → R k) : SC P f args pre R' r post := by
  intro F ρ w vs hrel hargs
  refine (h F ρ w vs hrel hargs).mono ?_
  rintro e w' ⟨ρ', v, he, hv, hrel', t⟩
  refine ⟨ρ', v, he, hv, hrel', { t with blk := fun b hb hall => t.blk b hb fun k cc hk => hR k ?_ (hall k cc hk) }⟩
  obtain ⟨o, ho, _⟩ := hrel.obj k b cc hk
  rw [ho]; simp
/-- nil, in a box: an own row that has nothing. -/
theorem Tr.growCell {x : Code} {k k2 j : Nat} {cs : List IV} (s : RT) (hk2 : look hp k2 = some (.box cs)) (hj : cs[j]? = some (.pv (.val (.slice none 0 0)))) (hσ : look hp k = none) (hc : c.σ k = none) (hfr : nmFr k fr = false) (hhp : nmHp k hp = false)
    (h : Tr P c x fr (look ((k2, some (.box (cs.set j (.sl k 0)))) :: (k, some (.row s [])) :: hp)) Q) : Tr P c x fr (look hp) Q := by
  intro ρ w a ha
  obtain ⟨hk, h'⟩ := ha.ghost hσ hc hfr hhp s
  refine h ρ w a ?_
  have hne : k ≠ k2 := fun e => by subst e; rw [hσ] at hk2; cases hk2
  have hk2' : look ((k, some (.row s [])) :: hp) k2 = some (.box cs) := look_tl hne hk2
  have hlk : ∀ i, i ≠ k2 → look ((k2, some (.box (cs.set j (.sl k 0)))) :: (k, some (.row s [])) :: hp) i = look ((k, some (.row s [])) :: hp) i := fun i hi => look_ne (Ne.symm hi)
  have hlk2 : look ((k2, some (.box (cs.set j (.sl k 0)))) :: (k, some (.row s [])) :: hp) k2 = some (.box (cs.set j (.sl k 0))) := look_hd
  have hconv : ∀ x v, RepI c.F ρ (look ((k, some (.row s [])) :: hp)) w x v → RepI c.F ρ (look ((k2, some (.box (cs.set j (.sl k 0)))) :: (k, some (.row s [])) :: hp)) w x v := by
    intro x v hx
    induction hx with
    | pv p v hp => exact .pv p v hp
    | ptr i off v hi =>
      refine .ptr i off v fun cs' h2 => ?_
      by_cases e : i = k2
      · subst e; exact hi _ hk2'
      rw [hlk i e] at h2; exact hi _ h2
    | sl i len v hi =>
      refine .sl i len v fun s' els' h2 => ?_
      by_cases e : i = k2
      · subst e; rw [hlk2] at h2; cases h2
      rw [hlk i e] at h2; exact hi _ _ h2
    | rpt i len off v hi =>
      refine .rpt i len off v fun s' els' h2 => ?_
      by_cases e : i = k2
      · subst e; rw [hlk2] at h2; cases h2
      rw [hlk i e] at h2; exact hi _ _ h2
    | mp i v hi =>
      refine .mp i v fun es h2 => ?_
      by_cases e : i = k2
      · subst e; rw [hlk2] at h2; cases h2
      rw [hlk i e] at h2; exact hi _ h2
    | agg cs vs u hl hv _ ih => exact .agg cs vs u hl hv ih
    | tup cs vs u hl hv _ ih => exact .tup cs vs u hl hv ih
    | fn f xs ys vs ws u t hl hv _ hl' hv' _ ih ih' => exact .fn f xs ys vs ws u t hl hv ih hl' hv' ih'
  refine ⟨⟨h'.rel.inj, h'.rel.apart, h'.rel.old, fun i b cc hi => ?_, fun i o h1 h2 => ?_⟩, fun t x hx => ?_, ?_, h'.df, h'.sz⟩
  · obtain ⟨o1, h1, h2⟩ := h'.rel.obj i b cc hi
    by_cases e : i = k2
    · subst e
      rw [hk2'] at h1; cases h1
      refine ⟨_, hlk2, ?_⟩
      cases h2 with
      | box _ e' r u h5 hl hv hr =>
        refine .box _ e' r u h5 (by simpa using hl) (fun q x hq => ?_) fun q x hq => ?_
        · by_cases eq : q = j
          · subst eq; exact hv q _ hj
          rw [List.getElem?_set_ne (Ne.symm eq)] at hq; exact hv q x hq
        by_cases eq : q = j
        · subst eq
          have hlt : q < cs.length := (List.getElem?_eq_some_iff.1 hj).1
          rw [List.getElem?_set_self hlt] at hq; cases hq
          have hnil := (hr q _ hj).val
          rw [hnil]
          refine .sl _ _ _ fun s1 els1 h1 => ?_
          rw [hlk _ hne, look_hd] at h1
          cases h1
          exact ⟨Nat.zero_le _, fun _ => .inr ⟨hk, rfl, rfl⟩⟩
        rw [List.getElem?_set_ne (Ne.symm eq)] at hq; exact hconv _ _ (hr q x hq)
    refine ⟨o1, (hlk i e).trans h1, ?_⟩
    cases h2 with
    | box cs' e' r u h hl hv hr => exact .box cs' e' r u h hl hv fun q x hq => hconv _ _ (hr q x hq)
    | row s' els' r u h hs hl hm hw hv hr => exact .row s' els' r u h hs hl hm hw hv hr
    | map es r t u h hl hv hr => exact .map es r t u h hl hv hr
  · by_cases e : i = k2
    · subst e
      obtain ⟨s', h3⟩ := h'.rel.real i _ hk2' h2
      cases h3
    rw [hlk i e] at h1; exact h'.rel.real i o h1 h2
  · obtain ⟨v, hv, hr⟩ := h'.fr t x hx
    exact ⟨v, hv, hconv _ _ hr⟩
  have t := h'.tr
  refine ⟨t.os, t.tape, t.output, t.size, t.blk, t.own, fun i a1 a2 e1 e2 => ?_, fun i a1 a2 e1 e2 => ?_, fun i s1 s2 a1 a2 e1 e2 hl => ?_, fun i s1 s2 a1 a2 e1 e2 => ?_, fun i a2 e2 => ?_, fun i a2 e2 => ?_, fun i s1 a2 e2 => ?_⟩
  all_goals by_cases e : i = k2
  · subst e; exact t.box i _ _ e1 hk2'
  · rw [hlk i e] at e2; exact t.box i _ _ e1 e2
  · subst e; rw [hlk2] at e2; cases e2
  · rw [hlk i e] at e2; exact t.map i _ _ e1 e2
  · subst e; rw [hlk2] at e2; cases e2
  · rw [hlk i e] at e2; exact t.row i _ _ _ _ e1 e2 hl
  · subst e; rw [hlk2] at e2; cases e2
  · rw [hlk i e] at e2; exact t.grow i _ _ _ _ e1 e2
  · subst e; exact t.kindB i _ hk2'
  · rw [hlk i e] at e2; exact t.kindB i _ e2
  · subst e; rw [hlk2] at e2; cases e2
  · rw [hlk i e] at e2; exact t.kindM i _ e2
  · subst e; rw [hlk2] at e2; cases e2
  rw [hlk i e] at e2; exact t.kindR i _ _ e2
theorem tup2_sub {F : Nat → Prop} {ρ : Loc} {w : World} {x x' y : IV} {v : Value} (hx : ∀ v, RepI F ρ σ w x v → RepI F ρ σ w x' v) (h : RepI F ρ σ w (.tup [x, y]) v) : RepI F ρ σ w (.tup [x', y]) v := by
  cases h with
  | tup _ vs u hl hv hr =>
    refine .tup _ vs u hl (fun j z hj => ?_) fun j z hj => ?_
    · match j, hj with
      | 0, _ => exact hv 0 x rfl
      | 1, hj => exact hv 1 y rfl
      | j + 2, hj => simp at hj
    match j, hj with
    | 0, hj => cases hj; exact hx _ (hr 0 x rfl)
    | 1, hj => cases hj; exact hr 1 y rfl
    | j + 2, hj => simp at hj
end
section
variable {P : Program} {c : Cx} {fr : Fr} {hp : Hp} {Q : Exit → Fr → Heap' → Prop}
def ISub (x y : IV) : Prop := ∀ F ρ σ w v, RepI F ρ σ w x v → RepI F ρ σ w y v
theorem ISub.refl (x : IV) : ISub x x := fun _ _ _ _ _ h => h
theorem ISub.pv {p q : PV} (h : PSub p q) : ISub (.pv p) (.pv q) := fun _ _ _ _ _ hv => sub_pv h hv
def ISubs : List IV → List IV → Prop
  | [], [] => True
  | x :: xs, y :: ys => ISub x y ∧ ISubs xs ys
  | _, _ => False
theorem ISubs.length : ∀ {xs ys : List IV}, ISubs xs ys → xs.length = ys.length
  | [], [], _ => rfl
  | _ :: _, _ :: _, h => congrArg (· + 1) (ISubs.length h.2)
theorem ISubs.at : ∀ {xs ys : List IV}, ISubs xs ys → ∀ {j : Nat} {y : IV}, ys[j]? = some y → ∃ x, xs[j]? = some x ∧ ISub x y
  | [], [], _, _, _, hj => by simp at hj
  | x :: xs, y :: ys, h, 0, y', hj => by simp at hj; subst hj; exact ⟨x, rfl, h.1⟩
  | x :: xs, y :: ys, h, j + 1, y', hj => by simpa using ISubs.at h.2 (by simpa using hj)
theorem All.subBox {ρ : Loc} {w : World} {a : Act} {k : Nat} {cs cs' : List IV} (h : All c ρ (look hp) w fr a) (hk : look hp k = some (.box cs)) (hs : ISubs cs cs') (hR : ¬ c.R k) : All c ρ (look ((k, some (.box cs')) :: hp)) w fr a := by
  cases hρ : ρ k with
  | none => obtain ⟨s, hs⟩ := h.rel.real k _ hk hρ; cases hs
  | some bc =>
    obtain ⟨b, cc⟩ := bc
    obtain ⟨o, ho, hro⟩ := h.rel.obj k b cc hρ
    rw [hk] at ho; cases ho
    refine h.write hρ hk trivial hR rfl rfl rfl rfl (fun _ _ => rfl) fun hI _ => ?_
    cases hro with
    | box _ e a' u h1 h2 h3 h4 =>
      refine .box _ e a' u h1 (h2.trans hs.length) (fun j x hj => ?_) fun j x hj => ?_
      · obtain ⟨x0, h5, _⟩ := hs.at hj
        exact h3 j x0 h5
      obtain ⟨x0, h5, h6⟩ := hs.at hj
      exact h6 _ _ _ _ _ (hI _ _ (h4 j x0 h5))
theorem Tr.subBox {x : Code} {k : Nat} {cs : List IV} (cs' : List IV) (hk : look hp k = some (.box cs)) (hs : ISubs cs cs') (hR : ¬ c.R k) (h : Tr P c x fr (look ((k, some (.box cs')) :: hp)) Q) : Tr P c x fr (look hp) Q :=
  fun _ w a ha => h _ w a (ha.subBox hk hs hR)
/-- Two ways become one; what returns goes on. -/
theorem Tr.cutR {x : Code} {σ σ' : Heap'} {fr' : Fr} (h : Tr P c x fr σ (fun e fr1 σ1 => (e = .normal ∧ Sub σ1 fr1 fr' ∧ σ1 = σ') ∨ (e ≠ .normal ∧ Q e fr1 σ1))) (h2 : Q .normal fr' σ') : Tr P c x fr σ Q :=
  fun ρ w a ha => wp_mono (h ρ w a ha) fun e a w ⟨ρ1, σ1, fr1, ha1, hq⟩ => by
    rcases hq with ⟨he, hs, hσ⟩ | ⟨_, hq⟩
    · subst he; subst hσ
      exact ⟨ρ1, σ1, fr', ha1.sub hs, h2⟩
    exact ⟨ρ1, σ1, fr1, ha1, hq⟩
/-- The larger of two numbers. -/
theorem ok_max {R1 : Nat → Prop} {o : Oper} {σ : Heap'} {t : TypeId} {x y : Operand} {k : IntKind} {m n : Int} (ho : o.op = .call { callee := .builtin .max, args := #[x, y], argTypes := #[t, t] }) (hx : fr.ev x = some (.pv (.val (.int k m)))) (hy : fr.ev y = some (.pv (.val (.int k n)))) :
    OkV P c R1 o fr σ (.pv (.val (.int k (if m < n then n else m)))) := by
  intro ρ w a h
  refine ⟨.int k (if m < n then n else m), fun w2 _ => ?_, mkVal _⟩
  simp [execOp, ho, ev_val h hx, ev_val h hy, resolve, invoke, builtin, Builtin.max_, Builtin.max2]
end
set_option maxRecDepth 8000 in
set_option maxHeartbeats 2000000 in
theorem sc_shBare (x : Nd) : SC Tryz.prog 96 [.pv (ndv x)] [] (fun _ => False) (iBool (r8bare x)) [] := by
  refine SC.of Tryz.func96 rfl (lb rfl) fun F ρ w => ?_
  refine Tr.seq <| Tr.region rfl <| WL.cons rfl rfl rfl ((ok_boxOwnP (k := 101) rfl rfl rfl rfl rfl rfl)) <| cV rfl (oA rfl) <| WL.nil <| Tr.seq <| Tr.region rfl <| WL.cons rfl rfl rfl (ok_makeMap (k := 104) rfl rfl rfl rfl rfl) <| WL.cons0 rfl rfl (ok_insert rfl rfl rfl rfl rfl ((fun h => h)) Tryz.underlying132 Tryz.underlying3 rfl (by decide)) <| WL.cons0 rfl rfl (ok_insert rfl rfl rfl rfl rfl ((fun h => h)) Tryz.underlying132 Tryz.underlying3 rfl (by decide)) <| cV rfl (oM rfl) <| cV rfl (oFp rfl rfl tF42_0) ?_
  refine cV rfl (oLb Tryz.underlying3 rfl rfl rfl trivial) <| cV rfl (ok_lookup rfl rfl rfl rfl Tryz.underlying132 Tryz.underlying3 rfl (by decide) tZ3 trivial) ?_
  have hkn : ((mfind (.int .i64 x.kind) (mput (.int .i64 11) (vInt 1) (mput (.int .i64 10) (vInt 2) []))).getD (.val (.int .i64 0))) = vInt (r8kn x) := by
    by_cases h10 : x.kind = 10
    · simp [h10, mput, keyB, mfind, r8kn]
    by_cases h11 : x.kind = 11
    · simp [h11, mput, keyB, mfind, r8kn]
    simp [h10, h11, mput, keyB, mfind, r8kn]
  refine WL.sub (Sub.of (fr' := [(8, iInt (r8kn x)), (1, .ptr 101 0)]) ⟨congrArg (fun p => some (IV.pv p)) hkn, rfl, trivial⟩) <| cV rfl (oA rfl) <| WL.nil <| Tr.seq <| Tr.seq <| Tr.drop (k := 104) <| Tr.region rfl <| cV rfl (oFp rfl rfl tF42_0) <| cV rfl (oLb Tryz.underlying3 rfl rfl rfl trivial) <| WL.nil ?_
  refine Tr.cut (fr' := [(3, iInt (r8kn x)), (1, .ptr 101 0)]) (σ' := look [(101, some (.box [.pv (vInt x.kind), .pv (vInt (if r8op x then 0 else x.op)), .pv (vInt (if r8num x then 0 else x.n)), .pv (vStr (if r8name x then ⟨#[]⟩ else x.name)), .pv (ints x.args), .pv (ints x.outs), .pv (if x.kind == 11 then .val (.slice none 0 0) else ints x.params), .pv (kids x.kids)]))]) ?_ ?_
  · refine Tr.block <| Tr.seq <| Tr.seq <| Tr.region rfl <| cV rfl (oB rfl rfl rfl) <| cV rfl (oA rfl) <| WL.nil ?_
    refine Tr.cond rfl (fun hc11 => ?_) (fun hc11 => ?_)
    · refine Tr.skip ?_
      refine Tr.cond rfl (fun hc11 => ?_) (fun hc11 => ?_)
      · refine Tr.region rfl <| cV rfl (oFp rfl rfl tF42_1) <| WL.cons0 rfl rfl ((ok_store_box rfl rfl rfl rfl ((fun h => h)) tS3 (rfl) (lb rfl))) <| WL.nil ?_
        refine ⟨rfl, Sub.of ⟨rfl, rfl, trivial⟩, funext fun j => ?_⟩
        by_cases h101 : 101 = j
        · subst h101; exact congrArg (fun z => some (HO.box z)) (by simp_all [r8op, r8num, r8name])
        by_cases h104 : 104 = j
        · subst h104; rfl
        simp [look, up, beq_ne h101, beq_ne h104]
      refine Tr.seq <| Tr.seq <| Tr.region rfl <| cV rfl (oB rfl rfl rfl) <| cV rfl (oA rfl) <| WL.nil ?_
      refine Tr.cond rfl (fun hc15 => ?_) (fun hc15 => ?_)
      · refine Tr.skip ?_
        refine Tr.cond rfl (fun hc15 => ?_) (fun hc15 => ?_)
        · refine Tr.region rfl <| cV rfl (oFp rfl rfl tF42_2) <| WL.cons0 rfl rfl ((ok_store_box rfl rfl rfl rfl ((fun h => h)) tS3 (rfl) (lb rfl))) <| WL.nil ?_
          refine ⟨rfl, Sub.of ⟨rfl, rfl, trivial⟩, funext fun j => ?_⟩
          by_cases h101 : 101 = j
          · subst h101; exact congrArg (fun z => some (HO.box z)) (by simp_all [r8op, r8num, r8name])
          by_cases h104 : 104 = j
          · subst h104; rfl
          simp [look, up, beq_ne h101, beq_ne h104]
        refine Tr.seq <| Tr.seq <| Tr.region rfl <| cV rfl (oB rfl rfl rfl) <| cV rfl (oA rfl) <| WL.nil ?_
        refine Tr.cond rfl (fun hc19 => ?_) (fun hc19 => ?_)
        · refine Tr.skip ?_
          refine Tr.cond rfl (fun hc19 => ?_) (fun hc19 => ?_)
          · refine Tr.region rfl <| cV rfl (oFp rfl rfl tF42_3) <| WL.cons0 rfl rfl ((ok_store_box rfl rfl rfl rfl ((fun h => h)) tS9 (rfl) (lb rfl))) <| WL.nil ?_
            refine ⟨rfl, Sub.of ⟨rfl, rfl, trivial⟩, funext fun j => ?_⟩
            by_cases h101 : 101 = j
            · subst h101; exact congrArg (fun z => some (HO.box z)) (by simp_all [r8op, r8num, r8name])
            by_cases h104 : 104 = j
            · subst h104; rfl
            simp [look, up, beq_ne h101, beq_ne h104]
          refine Tr.seq <| Tr.region rfl <| cV rfl (oB rfl rfl rfl) <| cV rfl (oA rfl) <| WL.nil ?_
          refine Tr.cond rfl (fun hc24 => ?_) (fun hc24 => ?_)
          · refine Tr.region rfl <| cV rfl (oFp rfl rfl tF42_6) <| WL.cons0 rfl rfl ((ok_store_box rfl rfl rfl rfl ((fun h => h)) tS35 (rfl) (lb rfl))) <| WL.nil ?_
            refine ⟨rfl, Sub.of ⟨rfl, rfl, trivial⟩, funext fun j => ?_⟩
            by_cases h101 : 101 = j
            · subst h101; exact congrArg (fun z => some (HO.box z)) (by simp_all [r8op, r8num, r8name])
            by_cases h104 : 104 = j
            · subst h104; rfl
            simp [look, up, beq_ne h101, beq_ne h104]
          refine Tr.skip ?_
          refine ⟨rfl, Sub.of ⟨rfl, rfl, trivial⟩, funext fun j => ?_⟩
          by_cases h101 : 101 = j
          · subst h101; exact congrArg (fun z => some (HO.box z)) (by simp_all [r8op, r8num, r8name])
          by_cases h104 : 104 = j
          · subst h104; rfl
          simp [look, up, beq_ne h101, beq_ne h104]
        refine Tr.seq <| Tr.region rfl <| cV rfl (oB rfl rfl rfl) <| cV rfl (oA rfl) <| WL.nil ?_
        refine Tr.cond rfl (fun hc19 => ?_) (fun hc19 => ?_)
        · refine Tr.skip ?_
          refine Tr.cond rfl (fun hc19 => ?_) (fun hc19 => ?_)
          · refine Tr.region rfl <| cV rfl (oFp rfl rfl tF42_3) <| WL.cons0 rfl rfl ((ok_store_box rfl rfl rfl rfl ((fun h => h)) tS9 (rfl) (lb rfl))) <| WL.nil ?_
            refine ⟨rfl, Sub.of ⟨rfl, rfl, trivial⟩, funext fun j => ?_⟩
            by_cases h101 : 101 = j
            · subst h101; exact congrArg (fun z => some (HO.box z)) (by simp_all [r8op, r8num, r8name])
            by_cases h104 : 104 = j
            · subst h104; rfl
            simp [look, up, beq_ne h101, beq_ne h104]
          refine Tr.seq <| Tr.region rfl <| cV rfl (oB rfl rfl rfl) <| cV rfl (oA rfl) <| WL.nil ?_
          refine Tr.cond rfl (fun hc24 => ?_) (fun hc24 => ?_)
          · refine Tr.region rfl <| cV rfl (oFp rfl rfl tF42_6) <| WL.cons0 rfl rfl ((ok_store_box rfl rfl rfl rfl ((fun h => h)) tS35 (rfl) (lb rfl))) <| WL.nil ?_
            refine ⟨rfl, Sub.of ⟨rfl, rfl, trivial⟩, funext fun j => ?_⟩
            by_cases h101 : 101 = j
            · subst h101; exact congrArg (fun z => some (HO.box z)) (by simp_all [r8op, r8num, r8name])
            by_cases h104 : 104 = j
            · subst h104; rfl
            simp [look, up, beq_ne h101, beq_ne h104]
          refine Tr.skip ?_
          refine ⟨rfl, Sub.of ⟨rfl, rfl, trivial⟩, funext fun j => ?_⟩
          by_cases h101 : 101 = j
          · subst h101; exact congrArg (fun z => some (HO.box z)) (by simp_all [r8op, r8num, r8name])
          by_cases h104 : 104 = j
          · subst h104; rfl
          simp [look, up, beq_ne h101, beq_ne h104]
        refine Tr.region rfl <| cV rfl (oB rfl rfl rfl) <| cV rfl (oA rfl) <| WL.nil ?_
        refine Tr.cond rfl (fun hc19 => ?_) (fun hc19 => ?_)
        · refine Tr.region rfl <| cV rfl (oFp rfl rfl tF42_3) <| WL.cons0 rfl rfl ((ok_store_box rfl rfl rfl rfl ((fun h => h)) tS9 (rfl) (lb rfl))) <| WL.nil ?_
          refine ⟨rfl, Sub.of ⟨rfl, rfl, trivial⟩, funext fun j => ?_⟩
          by_cases h101 : 101 = j
          · subst h101; exact congrArg (fun z => some (HO.box z)) (by simp_all [r8op, r8num, r8name])
          by_cases h104 : 104 = j
          · subst h104; rfl
          simp [look, up, beq_ne h101, beq_ne h104]
        refine Tr.seq <| Tr.region rfl <| cV rfl (oB rfl rfl rfl) <| cV rfl (oA rfl) <| WL.nil ?_
        refine Tr.cond rfl (fun hc24 => ?_) (fun hc24 => ?_)
        · refine Tr.region rfl <| cV rfl (oFp rfl rfl tF42_6) <| WL.cons0 rfl rfl ((ok_store_box rfl rfl rfl rfl ((fun h => h)) tS35 (rfl) (lb rfl))) <| WL.nil ?_
          refine ⟨rfl, Sub.of ⟨rfl, rfl, trivial⟩, funext fun j => ?_⟩
          by_cases h101 : 101 = j
          · subst h101; exact congrArg (fun z => some (HO.box z)) (by simp_all [r8op, r8num, r8name])
          by_cases h104 : 104 = j
          · subst h104; rfl
          simp [look, up, beq_ne h101, beq_ne h104]
        refine Tr.skip ?_
        refine ⟨rfl, Sub.of ⟨rfl, rfl, trivial⟩, funext fun j => ?_⟩
        by_cases h101 : 101 = j
        · subst h101; exact congrArg (fun z => some (HO.box z)) (by simp_all [r8op, r8num, r8name])
        by_cases h104 : 104 = j
        · subst h104; rfl
        simp [look, up, beq_ne h101, beq_ne h104]
      refine Tr.region rfl <| cV rfl (oB rfl rfl rfl) <| cV rfl (oA rfl) <| WL.nil ?_
      refine Tr.cond rfl (fun hc15 => ?_) (fun hc15 => ?_)
      · refine Tr.region rfl <| cV rfl (oFp rfl rfl tF42_2) <| WL.cons0 rfl rfl ((ok_store_box rfl rfl rfl rfl ((fun h => h)) tS3 (rfl) (lb rfl))) <| WL.nil ?_
        refine ⟨rfl, Sub.of ⟨rfl, rfl, trivial⟩, funext fun j => ?_⟩
        by_cases h101 : 101 = j
        · subst h101; exact congrArg (fun z => some (HO.box z)) (by simp_all [r8op, r8num, r8name])
        by_cases h104 : 104 = j
        · subst h104; rfl
        simp [look, up, beq_ne h101, beq_ne h104]
      refine Tr.seq <| Tr.seq <| Tr.region rfl <| cV rfl (oB rfl rfl rfl) <| cV rfl (oA rfl) <| WL.nil ?_
      refine Tr.cond rfl (fun hc19 => ?_) (fun hc19 => ?_)
      · refine Tr.skip ?_
        refine Tr.cond rfl (fun hc19 => ?_) (fun hc19 => ?_)
        · refine Tr.region rfl <| cV rfl (oFp rfl rfl tF42_3) <| WL.cons0 rfl rfl ((ok_store_box rfl rfl rfl rfl ((fun h => h)) tS9 (rfl) (lb rfl))) <| WL.nil ?_
          refine ⟨rfl, Sub.of ⟨rfl, rfl, trivial⟩, funext fun j => ?_⟩
          by_cases h101 : 101 = j
          · subst h101; exact congrArg (fun z => some (HO.box z)) (by simp_all [r8op, r8num, r8name])
          by_cases h104 : 104 = j
          · subst h104; rfl
          simp [look, up, beq_ne h101, beq_ne h104]
        refine Tr.seq <| Tr.region rfl <| cV rfl (oB rfl rfl rfl) <| cV rfl (oA rfl) <| WL.nil ?_
        refine Tr.cond rfl (fun hc24 => ?_) (fun hc24 => ?_)
        · refine Tr.region rfl <| cV rfl (oFp rfl rfl tF42_6) <| WL.cons0 rfl rfl ((ok_store_box rfl rfl rfl rfl ((fun h => h)) tS35 (rfl) (lb rfl))) <| WL.nil ?_
          refine ⟨rfl, Sub.of ⟨rfl, rfl, trivial⟩, funext fun j => ?_⟩
          by_cases h101 : 101 = j
          · subst h101; exact congrArg (fun z => some (HO.box z)) (by simp_all [r8op, r8num, r8name])
          by_cases h104 : 104 = j
          · subst h104; rfl
          simp [look, up, beq_ne h101, beq_ne h104]
        refine Tr.skip ?_
        refine ⟨rfl, Sub.of ⟨rfl, rfl, trivial⟩, funext fun j => ?_⟩
        by_cases h101 : 101 = j
        · subst h101; exact congrArg (fun z => some (HO.box z)) (by simp_all [r8op, r8num, r8name])
        by_cases h104 : 104 = j
        · subst h104; rfl
        simp [look, up, beq_ne h101, beq_ne h104]
      refine Tr.seq <| Tr.region rfl <| cV rfl (oB rfl rfl rfl) <| cV rfl (oA rfl) <| WL.nil ?_
      refine Tr.cond rfl (fun hc19 => ?_) (fun hc19 => ?_)
      · refine Tr.skip ?_
        refine Tr.cond rfl (fun hc19 => ?_) (fun hc19 => ?_)
        · refine Tr.region rfl <| cV rfl (oFp rfl rfl tF42_3) <| WL.cons0 rfl rfl ((ok_store_box rfl rfl rfl rfl ((fun h => h)) tS9 (rfl) (lb rfl))) <| WL.nil ?_
          refine ⟨rfl, Sub.of ⟨rfl, rfl, trivial⟩, funext fun j => ?_⟩
          by_cases h101 : 101 = j
          · subst h101; exact congrArg (fun z => some (HO.box z)) (by simp_all [r8op, r8num, r8name])
          by_cases h104 : 104 = j
          · subst h104; rfl
          simp [look, up, beq_ne h101, beq_ne h104]
        refine Tr.seq <| Tr.region rfl <| cV rfl (oB rfl rfl rfl) <| cV rfl (oA rfl) <| WL.nil ?_
        refine Tr.cond rfl (fun hc24 => ?_) (fun hc24 => ?_)
        · refine Tr.region rfl <| cV rfl (oFp rfl rfl tF42_6) <| WL.cons0 rfl rfl ((ok_store_box rfl rfl rfl rfl ((fun h => h)) tS35 (rfl) (lb rfl))) <| WL.nil ?_
          refine ⟨rfl, Sub.of ⟨rfl, rfl, trivial⟩, funext fun j => ?_⟩
          by_cases h101 : 101 = j
          · subst h101; exact congrArg (fun z => some (HO.box z)) (by simp_all [r8op, r8num, r8name])
          by_cases h104 : 104 = j
          · subst h104; rfl
          simp [look, up, beq_ne h101, beq_ne h104]
        refine Tr.skip ?_
        refine ⟨rfl, Sub.of ⟨rfl, rfl, trivial⟩, funext fun j => ?_⟩
        by_cases h101 : 101 = j
        · subst h101; exact congrArg (fun z => some (HO.box z)) (by simp_all [r8op, r8num, r8name])
        by_cases h104 : 104 = j
        · subst h104; rfl
        simp [look, up, beq_ne h101, beq_ne h104]
      refine Tr.region rfl <| cV rfl (oB rfl rfl rfl) <| cV rfl (oA rfl) <| WL.nil ?_
      refine Tr.cond rfl (fun hc19 => ?_) (fun hc19 => ?_)
      · refine Tr.region rfl <| cV rfl (oFp rfl rfl tF42_3) <| WL.cons0 rfl rfl ((ok_store_box rfl rfl rfl rfl ((fun h => h)) tS9 (rfl) (lb rfl))) <| WL.nil ?_
        refine ⟨rfl, Sub.of ⟨rfl, rfl, trivial⟩, funext fun j => ?_⟩
        by_cases h101 : 101 = j
        · subst h101; exact congrArg (fun z => some (HO.box z)) (by simp_all [r8op, r8num, r8name])
        by_cases h104 : 104 = j
        · subst h104; rfl
        simp [look, up, beq_ne h101, beq_ne h104]
      refine Tr.seq <| Tr.region rfl <| cV rfl (oB rfl rfl rfl) <| cV rfl (oA rfl) <| WL.nil ?_
      refine Tr.cond rfl (fun hc24 => ?_) (fun hc24 => ?_)
      · refine Tr.region rfl <| cV rfl (oFp rfl rfl tF42_6) <| WL.cons0 rfl rfl ((ok_store_box rfl rfl rfl rfl ((fun h => h)) tS35 (rfl) (lb rfl))) <| WL.nil ?_
        refine ⟨rfl, Sub.of ⟨rfl, rfl, trivial⟩, funext fun j => ?_⟩
        by_cases h101 : 101 = j
        · subst h101; exact congrArg (fun z => some (HO.box z)) (by simp_all [r8op, r8num, r8name])
        by_cases h104 : 104 = j
        · subst h104; rfl
        simp [look, up, beq_ne h101, beq_ne h104]
      refine Tr.skip ?_
      refine ⟨rfl, Sub.of ⟨rfl, rfl, trivial⟩, funext fun j => ?_⟩
      by_cases h101 : 101 = j
      · subst h101; exact congrArg (fun z => some (HO.box z)) (by simp_all [r8op, r8num, r8name])
      by_cases h104 : 104 = j
      · subst h104; rfl
      simp [look, up, beq_ne h101, beq_ne h104]
    refine Tr.region rfl <| cV rfl (oB rfl rfl rfl) <| cV rfl (oA rfl) <| WL.nil ?_
    refine Tr.cond rfl (fun hc11 => ?_) (fun hc11 => ?_)
    · refine Tr.region rfl <| cV rfl (oFp rfl rfl tF42_1) <| WL.cons0 rfl rfl ((ok_store_box rfl rfl rfl rfl ((fun h => h)) tS3 (rfl) (lb rfl))) <| WL.nil ?_
      refine ⟨rfl, Sub.of ⟨rfl, rfl, trivial⟩, funext fun j => ?_⟩
      by_cases h101 : 101 = j
      · subst h101; exact congrArg (fun z => some (HO.box z)) (by simp_all [r8op, r8num, r8name])
      by_cases h104 : 104 = j
      · subst h104; rfl
      simp [look, up, beq_ne h101, beq_ne h104]
    refine Tr.seq <| Tr.seq <| Tr.region rfl <| cV rfl (oB rfl rfl rfl) <| cV rfl (oA rfl) <| WL.nil ?_
    refine Tr.cond rfl (fun hc15 => ?_) (fun hc15 => ?_)
    · refine Tr.skip ?_
      refine Tr.cond rfl (fun hc15 => ?_) (fun hc15 => ?_)
      · refine Tr.region rfl <| cV rfl (oFp rfl rfl tF42_2) <| WL.cons0 rfl rfl ((ok_store_box rfl rfl rfl rfl ((fun h => h)) tS3 (rfl) (lb rfl))) <| WL.nil ?_
        refine ⟨rfl, Sub.of ⟨rfl, rfl, trivial⟩, funext fun j => ?_⟩
        by_cases h101 : 101 = j
        · subst h101; exact congrArg (fun z => some (HO.box z)) (by simp_all [r8op, r8num, r8name])
        by_cases h104 : 104 = j
        · subst h104; rfl
        simp [look, up, beq_ne h101, beq_ne h104]
      refine Tr.seq <| Tr.seq <| Tr.region rfl <| cV rfl (oB rfl rfl rfl) <| cV rfl (oA rfl) <| WL.nil ?_
      refine Tr.cond rfl (fun hc19 => ?_) (fun hc19 => ?_)
      · refine Tr.skip ?_
        refine Tr.cond rfl (fun hc19 => ?_) (fun hc19 => ?_)
        · refine Tr.region rfl <| cV rfl (oFp rfl rfl tF42_3) <| WL.cons0 rfl rfl ((ok_store_box rfl rfl rfl rfl ((fun h => h)) tS9 (rfl) (lb rfl))) <| WL.nil ?_
          refine ⟨rfl, Sub.of ⟨rfl, rfl, trivial⟩, funext fun j => ?_⟩
          by_cases h101 : 101 = j
          · subst h101; exact congrArg (fun z => some (HO.box z)) (by simp_all [r8op, r8num, r8name])
          by_cases h104 : 104 = j
          · subst h104; rfl
          simp [look, up, beq_ne h101, beq_ne h104]
        refine Tr.seq <| Tr.region rfl <| cV rfl (oB rfl rfl rfl) <| cV rfl (oA rfl) <| WL.nil ?_
        refine Tr.cond rfl (fun hc24 => ?_) (fun hc24 => ?_)
        · refine Tr.region rfl <| cV rfl (oFp rfl rfl tF42_6) <| WL.cons0 rfl rfl ((ok_store_box rfl rfl rfl rfl ((fun h => h)) tS35 (rfl) (lb rfl))) <| WL.nil ?_
          refine ⟨rfl, Sub.of ⟨rfl, rfl, trivial⟩, funext fun j => ?_⟩
          by_cases h101 : 101 = j
          · subst h101; exact congrArg (fun z => some (HO.box z)) (by simp_all [r8op, r8num, r8name])
          by_cases h104 : 104 = j
          · subst h104; rfl
          simp [look, up, beq_ne h101, beq_ne h104]
        refine Tr.skip ?_
        refine ⟨rfl, Sub.of ⟨rfl, rfl, trivial⟩, funext fun j => ?_⟩
        by_cases h101 : 101 = j
        · subst h101; exact congrArg (fun z => some (HO.box z)) (by simp_all [r8op, r8num, r8name])
        by_cases h104 : 104 = j
        · subst h104; rfl
        simp [look, up, beq_ne h101, beq_ne h104]
      refine Tr.seq <| Tr.region rfl <| cV rfl (oB rfl rfl rfl) <| cV rfl (oA rfl) <| WL.nil ?_
      refine Tr.cond rfl (fun hc19 => ?_) (fun hc19 => ?_)
      · refine Tr.skip ?_
        refine Tr.cond rfl (fun hc19 => ?_) (fun hc19 => ?_)
        · refine Tr.region rfl <| cV rfl (oFp rfl rfl tF42_3) <| WL.cons0 rfl rfl ((ok_store_box rfl rfl rfl rfl ((fun h => h)) tS9 (rfl) (lb rfl))) <| WL.nil ?_
          refine ⟨rfl, Sub.of ⟨rfl, rfl, trivial⟩, funext fun j => ?_⟩
          by_cases h101 : 101 = j
          · subst h101; exact congrArg (fun z => some (HO.box z)) (by simp_all [r8op, r8num, r8name])
          by_cases h104 : 104 = j
          · subst h104; rfl
          simp [look, up, beq_ne h101, beq_ne h104]
        refine Tr.seq <| Tr.region rfl <| cV rfl (oB rfl rfl rfl) <| cV rfl (oA rfl) <| WL.nil ?_
        refine Tr.cond rfl (fun hc24 => ?_) (fun hc24 => ?_)
        · refine Tr.region rfl <| cV rfl (oFp rfl rfl tF42_6) <| WL.cons0 rfl rfl ((ok_store_box rfl rfl rfl rfl ((fun h => h)) tS35 (rfl) (lb rfl))) <| WL.nil ?_
          refine ⟨rfl, Sub.of ⟨rfl, rfl, trivial⟩, funext fun j => ?_⟩
          by_cases h101 : 101 = j
          · subst h101; exact congrArg (fun z => some (HO.box z)) (by simp_all [r8op, r8num, r8name])
          by_cases h104 : 104 = j
          · subst h104; rfl
          simp [look, up, beq_ne h101, beq_ne h104]
        refine Tr.skip ?_
        refine ⟨rfl, Sub.of ⟨rfl, rfl, trivial⟩, funext fun j => ?_⟩
        by_cases h101 : 101 = j
        · subst h101; exact congrArg (fun z => some (HO.box z)) (by simp_all [r8op, r8num, r8name])
        by_cases h104 : 104 = j
        · subst h104; rfl
        simp [look, up, beq_ne h101, beq_ne h104]
      refine Tr.region rfl <| cV rfl (oB rfl rfl rfl) <| cV rfl (oA rfl) <| WL.nil ?_
      refine Tr.cond rfl (fun hc19 => ?_) (fun hc19 => ?_)
      · refine Tr.region rfl <| cV rfl (oFp rfl rfl tF42_3) <| WL.cons0 rfl rfl ((ok_store_box rfl rfl rfl rfl ((fun h => h)) tS9 (rfl) (lb rfl))) <| WL.nil ?_
        refine ⟨rfl, Sub.of ⟨rfl, rfl, trivial⟩, funext fun j => ?_⟩
        by_cases h101 : 101 = j
        · subst h101; exact congrArg (fun z => some (HO.box z)) (by simp_all [r8op, r8num, r8name])
        by_cases h104 : 104 = j
        · subst h104; rfl
        simp [look, up, beq_ne h101, beq_ne h104]
      refine Tr.seq <| Tr.region rfl <| cV rfl (oB rfl rfl rfl) <| cV rfl (oA rfl) <| WL.nil ?_
      refine Tr.cond rfl (fun hc24 => ?_) (fun hc24 => ?_)
      · refine Tr.region rfl <| cV rfl (oFp rfl rfl tF42_6) <| WL.cons0 rfl rfl ((ok_store_box rfl rfl rfl rfl ((fun h => h)) tS35 (rfl) (lb rfl))) <| WL.nil ?_
        refine ⟨rfl, Sub.of ⟨rfl, rfl, trivial⟩, funext fun j => ?_⟩
        by_cases h101 : 101 = j
        · subst h101; exact congrArg (fun z => some (HO.box z)) (by simp_all [r8op, r8num, r8name])
        by_cases h104 : 104 = j
        · subst h104; rfl
        simp [look, up, beq_ne h101, beq_ne h104]
      refine Tr.skip ?_
      refine ⟨rfl, Sub.of ⟨rfl, rfl, trivial⟩, funext fun j => ?_⟩
      by_cases h101 : 101 = j
      · subst h101; exact congrArg (fun z => some (HO.box z)) (by simp_all [r8op, r8num, r8name])
      by_cases h104 : 104 = j
      · subst h104; rfl
      simp [look, up, beq_ne h101, beq_ne h104]
    refine Tr.region rfl <| cV rfl (oB rfl rfl rfl) <| cV rfl (oA rfl) <| WL.nil ?_
    refine Tr.cond rfl (fun hc15 => ?_) (fun hc15 => ?_)
    · refine Tr.region rfl <| cV rfl (oFp rfl rfl tF42_2) <| WL.cons0 rfl rfl ((ok_store_box rfl rfl rfl rfl ((fun h => h)) tS3 (rfl) (lb rfl))) <| WL.nil ?_
      refine ⟨rfl, Sub.of ⟨rfl, rfl, trivial⟩, funext fun j => ?_⟩
      by_cases h101 : 101 = j
      · subst h101; exact congrArg (fun z => some (HO.box z)) (by simp_all [r8op, r8num, r8name])
      by_cases h104 : 104 = j
      · subst h104; rfl
      simp [look, up, beq_ne h101, beq_ne h104]
    refine Tr.seq <| Tr.seq <| Tr.region rfl <| cV rfl (oB rfl rfl rfl) <| cV rfl (oA rfl) <| WL.nil ?_
    refine Tr.cond rfl (fun hc19 => ?_) (fun hc19 => ?_)
    · refine Tr.skip ?_
      refine Tr.cond rfl (fun hc19 => ?_) (fun hc19 => ?_)
      · refine Tr.region rfl <| cV rfl (oFp rfl rfl tF42_3) <| WL.cons0 rfl rfl ((ok_store_box rfl rfl rfl rfl ((fun h => h)) tS9 (rfl) (lb rfl))) <| WL.nil ?_
        refine ⟨rfl, Sub.of ⟨rfl, rfl, trivial⟩, funext fun j => ?_⟩
        by_cases h101 : 101 = j
        · subst h101; exact congrArg (fun z => some (HO.box z)) (by simp_all [r8op, r8num, r8name])
        by_cases h104 : 104 = j
        · subst h104; rfl
        simp [look, up, beq_ne h101, beq_ne h104]
      refine Tr.seq <| Tr.region rfl <| cV rfl (oB rfl rfl rfl) <| cV rfl (oA rfl) <| WL.nil ?_
      refine Tr.cond rfl (fun hc24 => ?_) (fun hc24 => ?_)
      · refine Tr.region rfl <| cV rfl (oFp rfl rfl tF42_6) <| WL.cons0 rfl rfl ((ok_store_box rfl rfl rfl rfl ((fun h => h)) tS35 (rfl) (lb rfl))) <| WL.nil ?_
        refine ⟨rfl, Sub.of ⟨rfl, rfl, trivial⟩, funext fun j => ?_⟩
        by_cases h101 : 101 = j
        · subst h101; exact congrArg (fun z => some (HO.box z)) (by simp_all [r8op, r8num, r8name])
        by_cases h104 : 104 = j
        · subst h104; rfl
        simp [look, up, beq_ne h101, beq_ne h104]
      refine Tr.skip ?_
      refine ⟨rfl, Sub.of ⟨rfl, rfl, trivial⟩, funext fun j => ?_⟩
      by_cases h101 : 101 = j
      · subst h101; exact congrArg (fun z => some (HO.box z)) (by simp_all [r8op, r8num, r8name])
      by_cases h104 : 104 = j
      · subst h104; rfl
      simp [look, up, beq_ne h101, beq_ne h104]
    refine Tr.seq <| Tr.region rfl <| cV rfl (oB rfl rfl rfl) <| cV rfl (oA rfl) <| WL.nil ?_
    refine Tr.cond rfl (fun hc19 => ?_) (fun hc19 => ?_)
    · refine Tr.skip ?_
      refine Tr.cond rfl (fun hc19 => ?_) (fun hc19 => ?_)
      · refine Tr.region rfl <| cV rfl (oFp rfl rfl tF42_3) <| WL.cons0 rfl rfl ((ok_store_box rfl rfl rfl rfl ((fun h => h)) tS9 (rfl) (lb rfl))) <| WL.nil ?_
        refine ⟨rfl, Sub.of ⟨rfl, rfl, trivial⟩, funext fun j => ?_⟩
        by_cases h101 : 101 = j
        · subst h101; exact congrArg (fun z => some (HO.box z)) (by simp_all [r8op, r8num, r8name])
        by_cases h104 : 104 = j
        · subst h104; rfl
        simp [look, up, beq_ne h101, beq_ne h104]
      refine Tr.seq <| Tr.region rfl <| cV rfl (oB rfl rfl rfl) <| cV rfl (oA rfl) <| WL.nil ?_
      refine Tr.cond rfl (fun hc24 => ?_) (fun hc24 => ?_)
      · refine Tr.region rfl <| cV rfl (oFp rfl rfl tF42_6) <| WL.cons0 rfl rfl ((ok_store_box rfl rfl rfl rfl ((fun h => h)) tS35 (rfl) (lb rfl))) <| WL.nil ?_
        refine ⟨rfl, Sub.of ⟨rfl, rfl, trivial⟩, funext fun j => ?_⟩
        by_cases h101 : 101 = j
        · subst h101; exact congrArg (fun z => some (HO.box z)) (by simp_all [r8op, r8num, r8name])
        by_cases h104 : 104 = j
        · subst h104; rfl
        simp [look, up, beq_ne h101, beq_ne h104]
      refine Tr.skip ?_
      refine ⟨rfl, Sub.of ⟨rfl, rfl, trivial⟩, funext fun j => ?_⟩
      by_cases h101 : 101 = j
      · subst h101; exact congrArg (fun z => some (HO.box z)) (by simp_all [r8op, r8num, r8name])
      by_cases h104 : 104 = j
      · subst h104; rfl
      simp [look, up, beq_ne h101, beq_ne h104]
    refine Tr.region rfl <| cV rfl (oB rfl rfl rfl) <| cV rfl (oA rfl) <| WL.nil ?_
    refine Tr.cond rfl (fun hc19 => ?_) (fun hc19 => ?_)
    · refine Tr.region rfl <| cV rfl (oFp rfl rfl tF42_3) <| WL.cons0 rfl rfl ((ok_store_box rfl rfl rfl rfl ((fun h => h)) tS9 (rfl) (lb rfl))) <| WL.nil ?_
      refine ⟨rfl, Sub.of ⟨rfl, rfl, trivial⟩, funext fun j => ?_⟩
      by_cases h101 : 101 = j
      · subst h101; exact congrArg (fun z => some (HO.box z)) (by simp_all [r8op, r8num, r8name])
      by_cases h104 : 104 = j
      · subst h104; rfl
      simp [look, up, beq_ne h101, beq_ne h104]
    refine Tr.seq <| Tr.region rfl <| cV rfl (oB rfl rfl rfl) <| cV rfl (oA rfl) <| WL.nil ?_
    refine Tr.cond rfl (fun hc24 => ?_) (fun hc24 => ?_)
    · refine Tr.region rfl <| cV rfl (oFp rfl rfl tF42_6) <| WL.cons0 rfl rfl ((ok_store_box rfl rfl rfl rfl ((fun h => h)) tS35 (rfl) (lb rfl))) <| WL.nil ?_
      refine ⟨rfl, Sub.of ⟨rfl, rfl, trivial⟩, funext fun j => ?_⟩
      by_cases h101 : 101 = j
      · subst h101; exact congrArg (fun z => some (HO.box z)) (by simp_all [r8op, r8num, r8name])
      by_cases h104 : 104 = j
      · subst h104; rfl
      simp [look, up, beq_ne h101, beq_ne h104]
    refine Tr.skip ?_
    refine ⟨rfl, Sub.of ⟨rfl, rfl, trivial⟩, funext fun j => ?_⟩
    by_cases h101 : 101 = j
    · subst h101; exact congrArg (fun z => some (HO.box z)) (by simp_all [r8op, r8num, r8name])
    by_cases h104 : 104 = j
    · subst h104; rfl
    simp [look, up, beq_ne h101, beq_ne h104]
  refine Tr.subBox (k := 101) [.pv (vInt x.kind), .pv (vInt (if r8op x then 0 else x.op)), .pv (vInt (if r8num x then 0 else x.n)), .pv (vStr (if r8name x then ⟨#[]⟩ else x.name)), .pv (ints x.args), .pv (ints x.outs), .pv (ints (if x.kind == 11 then [] else x.params)), .pv (kids x.kids)] rfl ⟨ISub.refl _, ISub.refl _, ISub.refl _, ISub.refl _, ISub.refl _, ISub.refl _, ISub.pv (by cases x.kind == 11 <;> first | exact PSub.nil | exact PSub.refl _), ISub.refl _, trivial⟩ (fun h => h) ?_
  have e1 : ((if r8op x then 0 else x.op) == 0) = (r8op x || x.op == 0) := by cases r8op x <;> rfl
  have e2 : ((if r8num x then 0 else x.n) == 0) = (r8num x || x.n == 0) := by cases r8num x <;> rfl
  have e3 : ((if r8name x then (⟨#[]⟩ : ByteArray) else x.name).toList == (⟨#[]⟩ : ByteArray).toList) = (r8name x || x.name.toList == []) := by
    have e0 : (⟨#[]⟩ : ByteArray).toList = [] := ba_toList _
    rw [e0]
    cases r8name x
    · rfl
    rw [if_pos rfl, e0]; rfl
  have e4 : (((if x.kind == 11 then [] else x.params).length : Int) == 0) = (x.kind == 11 || (x.params.length : Int) == 0) := by cases x.kind == 11 <;> rfl
  refine Tr.seq <| Tr.region rfl <| cV rfl (oFp rfl rfl tF42_1) <| cV rfl (oLb Tryz.underlying3 rfl rfl rfl trivial) <| cV rfl (oB rfl rfl rfl) <| cV rfl (oM rfl) ?_
  refine WL.split (t := 30) rfl (fun hb30 => ?_) (fun hb30 => ?_)
  · refine yV rfl rfl (oFp rfl rfl tF42_2) <| yV rfl rfl (oLb Tryz.underlying3 rfl rfl rfl trivial) <| yV rfl rfl (oB rfl rfl rfl) <| cV rfl (oT rfl rfl) <| cV rfl (oM rfl) ?_
    refine WL.split (t := 35) rfl (fun hb35 => ?_) (fun hb35 => ?_)
    · refine yV rfl rfl (oFp rfl rfl tF42_3) <| yV rfl rfl (oLb Tryz.underlying9 rfl rfl rfl trivial) <| yV rfl rfl (ok_bin_str rfl rfl rfl rfl) <| cV rfl (oT rfl rfl) <| cV rfl (oM rfl) ?_
      refine WL.split (t := 40) rfl (fun hb40 => ?_) (fun hb40 => ?_)
      · refine yV rfl rfl (oFp rfl rfl tF42_6) <| yV rfl rfl (oLb Tryz.underlying35 rfl rfl rfl trivial) <| yV rfl rfl (oSm Tryz.underlying35 rfl) <| yV rfl rfl (oB rfl rfl rfl) <| cV rfl (oT rfl rfl) <| cV rfl (oM rfl) ?_
        refine WL.split (t := 46) rfl (fun hb46 => ?_) (fun hb46 => ?_)
        · refine yV rfl rfl (oFp rfl rfl tF42_7) <| yV rfl rfl (oLb Tryz.underlying40 rfl rfl rfl trivial) <| yV rfl rfl (oSm Tryz.underlying40 rfl) <| yV rfl rfl (oM rfl) <| yV rfl rfl (oB rfl rfl rfl) <| cV rfl (oT rfl rfl) <| cV rfl (oA rfl) <| WL.nil <| Tr.ret ?_
          refine ret_ok rfl ?_ no_post
          refine congrArg (fun b => iBool b) ?_
          unfold r8bare
          rw [← e1, ← e2, ← e3, ← e4]
          clear e1 e2 e3 e4 hkn
          simp only [*, Bool.true_and, Bool.false_and, Bool.and_true, Bool.and_false]
        refine nV rfl rfl <| nV rfl rfl <| nV rfl rfl <| nV rfl rfl <| nV rfl rfl <| cV rfl (oF rfl rfl) <| cV rfl (oA rfl) <| WL.nil <| Tr.ret ?_
        refine ret_ok rfl ?_ no_post
        refine congrArg (fun b => iBool b) ?_
        unfold r8bare
        rw [← e1, ← e2, ← e3, ← e4]
        clear e1 e2 e3 e4 hkn
        simp only [*, Bool.true_and, Bool.false_and, Bool.and_true, Bool.and_false]
      refine nV rfl rfl <| nV rfl rfl <| nV rfl rfl <| nV rfl rfl <| cV rfl (oF rfl rfl) <| cV rfl (oM rfl) <| nV rfl rfl <| nV rfl rfl <| nV rfl rfl <| nV rfl rfl <| nV rfl rfl <| cV rfl (oF rfl rfl) ?_
      refine cV rfl (oA rfl) <| WL.nil <| Tr.ret ?_
      refine ret_ok rfl ?_ no_post
      refine congrArg (fun b => iBool b) ?_
      unfold r8bare
      rw [← e1, ← e2, ← e3, ← e4]
      clear e1 e2 e3 e4 hkn
      simp only [*, Bool.true_and, Bool.false_and, Bool.and_true, Bool.and_false]
    refine nV rfl rfl <| nV rfl rfl <| nV rfl rfl <| cV rfl (oF rfl rfl) <| cV rfl (oM rfl) <| nV rfl rfl <| nV rfl rfl <| nV rfl rfl <| nV rfl rfl <| cV rfl (oF rfl rfl) <| cV rfl (oM rfl) <| nV rfl rfl ?_
    refine nV rfl rfl <| nV rfl rfl <| nV rfl rfl <| nV rfl rfl <| cV rfl (oF rfl rfl) <| cV rfl (oA rfl) <| WL.nil <| Tr.ret ?_
    refine ret_ok rfl ?_ no_post
    refine congrArg (fun b => iBool b) ?_
    unfold r8bare
    rw [← e1, ← e2, ← e3, ← e4]
    clear e1 e2 e3 e4 hkn
    simp only [*, Bool.true_and, Bool.false_and, Bool.and_true, Bool.and_false]
  refine nV rfl rfl <| nV rfl rfl <| nV rfl rfl <| cV rfl (oF rfl rfl) <| cV rfl (oM rfl) <| nV rfl rfl <| nV rfl rfl <| nV rfl rfl <| cV rfl (oF rfl rfl) <| cV rfl (oM rfl) <| nV rfl rfl <| nV rfl rfl ?_
  refine nV rfl rfl <| nV rfl rfl <| cV rfl (oF rfl rfl) <| cV rfl (oM rfl) <| nV rfl rfl <| nV rfl rfl <| nV rfl rfl <| nV rfl rfl <| nV rfl rfl <| cV rfl (oF rfl rfl) <| cV rfl (oA rfl) <| WL.nil ?_
  refine Tr.ret ?_
  refine ret_ok rfl ?_ no_post
  refine congrArg (fun b => iBool b) ?_
  unfold r8bare
  rw [← e1, ← e2, ← e3, ← e4]
  clear e1 e2 e3 e4 hkn
  simp only [*, Bool.true_and, Bool.false_and, Bool.and_true, Bool.and_false]
def andP {S : Type} (b : Bool) (s : S) (r : Bool × S) : Bool × S := if b then r else (false, s)
def andQ {S : Type} (r : Bool × S) (k : S → Bool × S) : Bool × S := if r.1 then k r.2 else (false, r.2)
theorem shUses_len {tys st a b : List Int} (h : shUses tys st a b = true) : a.length = b.length := by
  unfold shUses eqf at h
  split at h
  · omega
  · cases h
theorem shUses_two {tys st l : List Int} {t : Int} (h : shUses tys st l [t, t] = true) : ∃ a b, l = [a, b] ∧ a = (a.toNat : Int) ∧ a.toNat < tys.length ∧ b = (b.toNat : Int) ∧ b.toNat < tys.length := by
  have hl := shUses_len h
  match l, hl with
  | [a, b], _ =>
    unfold shUses eqf at h
    simp only [List.length_cons, List.length_nil, if_true, eqGo] at h
    split at h
    · rename_i h1
      split at h
      · rename_i h2
        simp only [shUse, shVal, Bool.and_eq_true, decide_eq_true_eq] at h1 h2
        exact ⟨a, b, rfl, by omega, by omega, by omega, by omega⟩
      · cases h
    · cases h
def shSum (f : Fl) (st : List Int) (x : Nd) : Bool × List Int :=
  if x.kind == 3 then andP (r1IsOne x.op && shUses f.types st x.args [(shOperand x.op).1]) st (shSets f.types st x.outs [(shOperand x.op).2])
  else andP (decide (wLevel x.op > 0) && decide (x.op ≤ 17) && shUses f.types st x.args [(shOperand x.op).1, (shOperand x.op).1] && f.types.getD (x.args.getD 0 0).toNat 0 == f.types.getD (x.args.getD 1 0).toNat 0) st (shSets f.types st x.outs [(shOperand x.op).2])
def shEnd (f : Fl) (st : List Int) (x : Nd) (w : Wh) : Bool :=
  if x.kind == 12 then (x.outs.length : Int) == 0 && w.If && shUses f.types st x.args w.Yield
  else if x.kind == 13 then (x.outs.length : Int) == 0 && w.Loop && shUses f.types st x.args w.Next
  else if x.kind == 14 then (x.outs.length : Int) == 0 && w.Loop && shUses f.types st x.args w.Left
  else (x.outs.length : Int) == 0 && shUses f.types st x.args [f.ty]
def shCall (u : Un) (f : Fl) (st : List Int) (x : Nd) : Bool × List Int :=
  if r8Place x.name u.flows 0 < 0 then (false, st) else
    match u.flows[(r8Place x.name u.flows 0).toNat]? with
    | some g => andP (shUses f.types st x.args (g.types.take g.params.toNat)) st (shSets f.types st x.outs [g.ty])
    | none => (false, st)
def shSimple (u : Un) (f : Fl) (st : List Int) (x : Nd) : Bool × List Int :=
  if x.kind == 1 then andP (shUses f.types st x.args []) st (shSets f.types st x.outs [1])
  else if x.kind == 2 then andP ((x.n == 0 || x.n == 1) && shUses f.types st x.args []) st (shSets f.types st x.outs [2])
  else if x.kind == 3 || x.kind == 4 then shSum f st x
  else if x.kind == 5 then andP (decide (r8Array x.name u.arrays 0 ≥ 0) && shUses f.types st x.args [1]) st (shSets f.types st x.outs [1])
  else if x.kind == 6 then andP (decide (r8Array x.name u.arrays 0 ≥ 0) && shUses f.types st x.args [1, 1]) st (shSets f.types st x.outs [])
  else if x.kind == 8 then andP (shUses f.types st x.args []) st (shSets f.types st x.outs [1])
  else if x.kind == 9 then andP (shUses f.types st x.args [1]) st (shSets f.types st x.outs [])
  else if x.kind == 7 then shCall u f st x
  else (false, st)
theorem andP_length {b : Bool} {st : List Int} {r : Bool × List Int} (h : r.2.length = st.length) : (andP b st r).2.length = st.length := by
  unfold andP; split
  · exact h
  · rfl
theorem shSum_length (f : Fl) (st : List Int) (x : Nd) : (shSum f st x).2.length = st.length := by
  unfold shSum; split <;> exact andP_length (shSets_length ..)
theorem shCall_length (u : Un) (f : Fl) (st : List Int) (x : Nd) : (shCall u f st x).2.length = st.length := by
  unfold shCall
  split
  · rfl
  · split
    · exact andP_length (shSets_length ..)
    · rfl
theorem shSimple_length (u : Un) (f : Fl) (st : List Int) (x : Nd) : (shSimple u f st x).2.length = st.length := by
  unfold shSimple
  repeat' split
  all_goals first
    | exact andP_length (shSets_length ..)
    | exact shSum_length ..
    | exact shCall_length ..
    | rfl
set_option maxRecDepth 8000 in
set_option maxHeartbeats 2000000 in
theorem sc_shTypes (u : Un) (f : Fl) (st : List Int) (hs : st.length = f.types.length) (l : List Int) (hb : l.length ≤ 1073741824) : SC Tryz.prog 109 [.ptr 3 0, .pv (ints l)] (ckS u f 3 st) (fun k => k < 100) (.pv (ints (r8of f.types l))) (ckS u f 3 st) := by
  refine SC.of Tryz.func109 rfl (lb rfl) fun F ρ w => ?_
  refine Tr.lenOf (t := 1) rfl (fun hl => ?_)
  simp only [List.length_map] at hl
  rw [r8of_eq]
  refine Tr.seq <| Tr.region rfl <| cV rfl (oA rfl) <| WL.nil <| Tr.seq <| Tr.seq <| Tr.grow (t := 4) (k := 104) ⟨3, 1⟩ rfl rfl rfl rfl rfl <| Tr.region rfl <| cV rfl (oM rfl) <| cV rfl (oSm Tryz.underlying35 rfl) <| cV rfl (oM rfl) <| WL.nil ?_
  refine Tr.block <| Tr.sub (Sub.of (fr' := [(9, iInt 0), (8, iInt l.length), (7, .pv (ints l)), (4, .sl 104 0), (0, .ptr 3 0)]) ⟨rfl, rfl, rfl, rfl, rfl, trivial⟩) ?_
  refine Tr.loop (fun fr σ m => ∃ (k : Nat) (acc : List Int), (k ≤ l.length) ∧ (acc.length = k) ∧ (r8ofGo f.types [] l = r8ofGo f.types acc (l.drop k)) ∧ fr = [(9, iInt k), (8, iInt l.length), (7, .pv (ints l)), (4, .sl 104 k), (0, .ptr 3 0)] ∧ σ = look ((104, some (.row ⟨3, 1⟩ (acc.map eInt))) :: up (ckS u f 3 st)) ∧ m = l.length - k) (n := l.length - 0) ?_ ?_
  · exact ⟨0, [], Nat.zero_le _, rfl, rfl, rfl, rfl, rfl⟩
  rintro fr σ m ⟨k, acc, hI0, hI1, hI2, rfl, rfl, rfl⟩
  refine Tr.seq <| Tr.region rfl <| cV rfl (oB rfl rfl rfl) <| WL.nil <| Tr.seq ?_
  refine Tr.cond rfl (fun hc10 => ?_) (fun hc10 => ?_)
  · have hlt : k < l.length := by simpa using hc10
    have hd := List.drop_eq_getElem_cons hlt
    have hm := List.getElem_mem hlt
    have hi := map_get (f := eInt) (List.getElem?_eq_getElem hlt)
    generalize l[k] = x at hd hm hi
    refine Tr.skip <| Tr.seq <| Tr.block <| Tr.seq <| Tr.region rfl <| cV rfl (ok_index_seq rfl rfl rfl Tryz.underlying35 hi tS3 rfl (by rfl)) <| cV rfl (oLe Tryz.underlying3 rfl rfl) <| cV rfl (oA rfl) <| WL.nil <| Tr.seq <| Tr.seq <| Tr.region rfl ?_
    refine cV rfl (oM rfl) <| cV rfl (oM rfl) <| WL.cons rfl rfl rfl (ok_callr (sc_shVal u f st x 0) ent118 rfl rfl (Subs.refl _ _) (po2 rfl rfl) (by rfl) (fun k (h : _) => .inr trivial) rfl (by rfl)) <| cV rfl (oN rfl) <| WL.nil ?_
    refine Tr.cond rfl (fun hc16 => ?_) (fun hc16 => ?_)
    · refine Tr.seq <| Tr.region rfl <| cV rfl (oA rfl) <| WL.nil <| Tr.ret ?_
      have hin : r8inr f.types x = false := by
        cases hr : r8inr f.types x with
        | false => rfl
        | true => simp [r8inr] at hr; simp [shVal] at hc16; omega
      rw [hI2, hd]
      simp only [r8ofGo, hin]
      exact ⟨⟨_, rfl, fun _ _ _ _ h => sub_nil h⟩, (po2 rfl rfl)⟩
    have hin : r8inr f.types x = true := by simp [shVal] at hc16; simp [r8inr]; omega
    have hv0 : x.toNat < f.types.length := by simp [r8inr] at hin; omega
    have hvx : x = ((x.toNat : Nat) : Int) := by simp [r8inr] at hin; omega
    have hty : (f.types.map eInt)[x.toNat]? = some [vInt (f.types.getD x.toNat 0)] := by rw [List.getElem?_map]; simp [eInt, List.getD, hv0]
    refine Tr.skip <| Tr.region rfl <| cV rfl (oM rfl) <| cV rfl (oM rfl) <| cV rfl (ok_nilCheck rfl rfl rfl) <| cV rfl (oFp rfl rfl tF97_1) <| cV rfl (oFp rfl rfl tF51_3) <| cV rfl (oLb Tryz.underlying35 rfl rfl rfl trivial) <| cV rfl (oM rfl) <| cV rfl (ok_index_seq rfl rfl rfl Tryz.underlying35 hty tS3 rfl (by omega)) <| cV rfl (oLe Tryz.underlying3 rfl rfl) <| WL.cons rfl rfl rfl (ok_buildSlice rfl rfl Tryz.underlying35 tZ3 tS3 rfl rfl rfl rfl (firmB_ok rfl) rfl) ?_
    refine WL.cons rfl rfl rfl (ok_append rfl rfl rfl rfl (by (simp; omega)) (by simp) Tryz.underlying35 tB3 (by decide) (by (simp [chunks]; done)) (by (simp [chunks, PV.one]; rfl)) (by simp [maxLen, chunks]; omega) (by simp [chunks]; omega)) ?_
    refine cV rfl (oA rfl) <| WL.nil <| Tr.region rfl <| cV rfl (oB rfl rfl (i64_add rfl (by omega))) <| cV rfl (oM rfl) <| WL.nil ?_
    refine ⟨_, _, ?_, Sub.of (fr' := [(9, iInt (k + 1)), (8, iInt l.length), (7, .pv (ints l)), (4, .sl 104 (k + 1)), (0, .ptr 3 0)]) ⟨rfl, rfl, rfl, rfl, rfl, trivial⟩, (k + 1), (acc ++ [f.types.getD x.toNat 0]), ?_, ?_, ?_, rfl, look_row_snoc2, rfl⟩
    · omega
    · omega
    · simp [hI1]
    rw [hI2, hd]
    simp [r8ofGo, hin]
  refine Tr.exit <| Tr.seq ?_
  refine Tr.freeze (t := 4) (k := 104) rfl rfl (by simpa using hI1) ?_
  refine Tr.region rfl <| cV rfl (oM rfl) <| cV rfl (oA rfl) <| WL.nil <| Tr.ret ?_
  refine ret_ok rfl ?_ (po2 rfl rfl)
  have hge : l.length ≤ k := by simpa using hc10
  rw [hI2, List.drop_eq_nil_of_le hge]
  rfl
set_option maxRecDepth 8000 in
set_option maxHeartbeats 2000000 in
theorem sc_shSum (u : Un) (f : Fl) (st : List Int) (hs : st.length = f.types.length) (x : Nd) : SC Tryz.prog 113 [.ptr 3 0, .pv (ndv x)] (ckS u f 3 st) (fun k => k = 3) (iBool (shSum f st x).1) (ckS u f 3 (shSum f st x).2) := by
  refine SC.of Tryz.func113 rfl (lb rfl) fun F ρ w => ?_
  refine Tr.seq <| Tr.region rfl <| WL.cons rfl rfl rfl ((ok_box rfl rfl)) <| cV rfl (oA rfl) <| WL.nil <| Tr.seq <| Tr.region rfl <| cV rfl (oFe rfl tF42_1) <| cV rfl (oLe Tryz.underlying3 rfl rfl) <| WL.cons rfl rfl rfl (ok_callq (sc_shOperand _) ent122 rfl rfl (Subs.refl _ _) rfl) <| cV rfl (oM rfl) <| cV rfl (ok_extract rfl rfl rfl) ?_
  refine cV rfl (ok_extract rfl rfl rfl) <| cV rfl (oA rfl) <| cV rfl (oA rfl) <| WL.nil <| Tr.seq <| Tr.seq <| Tr.region rfl <| cV rfl (oFe rfl tF42_0) <| cV rfl (oLe Tryz.underlying3 rfl rfl) <| cV rfl (oB rfl rfl rfl) <| WL.nil ?_
  refine Tr.cond rfl (fun hc16 => ?_) (fun hc16 => ?_)
  · refine Tr.seq <| Tr.region rfl <| cV rfl (oFe rfl tF42_1) <| cV rfl (oLe Tryz.underlying3 rfl rfl) <| cV rfl (oB rfl rfl rfl) <| cV rfl (oM rfl) ?_
    refine WL.split (t := 20) rfl (fun hb20 => ?_) (fun hb20 => ?_)
    · refine yV rfl rfl (oFe rfl tF42_1) <| yV rfl rfl (oLe Tryz.underlying3 rfl rfl) <| yV rfl rfl (oB rfl rfl rfl) <| cV rfl (oT rfl rfl) <| cV rfl (oM rfl) ?_
      refine WL.split (t := 25) rfl (fun hb25 => ?_) (fun hb25 => ?_)
      · refine yV rfl rfl (oM rfl) <| yV rfl rfl (oFe rfl tF42_4) <| yV rfl rfl (oLe Tryz.underlying35 rfl rfl) <| yV rfl rfl (oM rfl) <| WL.yes rfl rfl rfl rfl rfl rfl (ok_buildSlice rfl rfl Tryz.underlying35 tZ3 tS3 rfl rfl rfl rfl (firmB_ok rfl) rfl) <| WL.yes rfl rfl rfl rfl rfl rfl (ok_callr (sc_shUses u f st hs x.args [(shOperand x.op).1]) ent110 rfl rfl (Subs.refl _ _) (po2 rfl rfl) (by rfl) (fun k (h : _) => .inr trivial) rfl (by rfl)) <| cV rfl (oT rfl rfl) <| cV rfl (oM rfl) ?_
        refine WL.split (t := 33) rfl (fun hb33 => ?_) (fun hb33 => ?_)
        · refine yV rfl rfl (oM rfl) <| yV rfl rfl (oFe rfl tF42_5) <| yV rfl rfl (oLe Tryz.underlying35 rfl rfl) <| yV rfl rfl (oM rfl) <| WL.yes rfl rfl rfl rfl rfl rfl (ok_buildSlice rfl rfl Tryz.underlying35 tZ3 tS3 rfl rfl rfl rfl (firmB_ok rfl) rfl) <| WL.yes rfl rfl rfl rfl rfl rfl (ok_callr (sc_shSets u f st hs x.outs [(shOperand x.op).2]) ent112 rfl rfl (Subs.refl _ _) (po2 rfl rfl) (by rfl) (fun k (h : _) => .inr h) rfl (by rfl)) <| cV rfl (oT rfl rfl) <| cV rfl (oA rfl) <| WL.nil <| Tr.ret ?_
          (have h2 : (shSum f st x).2 = (shSets f.types st x.outs [(shOperand x.op).2]).2 := (by simp_all [shSum, r1IsOne, andP]; done)
           rw [h2]
           refine ret_ok rfl ?_ (po2 rfl rfl)
           clear h2
           skip
           simp_all [shSum, r1IsOne, andP]
           done)
        refine nV rfl rfl <| nV rfl rfl <| nV rfl rfl <| nV rfl rfl <| nV rfl rfl <| nV rfl rfl <| cV rfl (oF rfl rfl) <| cV rfl (oA rfl) <| WL.nil <| Tr.ret ?_
        (have h2 : (shSum f st x).2 = st := (by simp_all [shSum, r1IsOne, andP]; done)
         rw [h2]
         refine ret_ok rfl ?_ (po2 rfl rfl)
         clear h2
         skip
         simp_all [shSum, r1IsOne, andP]
         done)
      refine nV rfl rfl <| nV rfl rfl <| nV rfl rfl <| nV rfl rfl <| nV rfl rfl <| nV rfl rfl <| cV rfl (oF rfl rfl) <| cV rfl (oM rfl) <| nV rfl rfl <| nV rfl rfl <| nV rfl rfl <| nV rfl rfl ?_
      refine nV rfl rfl <| nV rfl rfl <| cV rfl (oF rfl rfl) <| cV rfl (oA rfl) <| WL.nil <| Tr.ret ?_
      (have h2 : shSum f st x = (false, st) := (by (first | (simp_all [shSum, r1IsOne, andP]; done) | (simp_all [shSum, r1IsOne, andP] <;> omega)))
       rw [h2]
       exact ret_ok rfl rfl (po2 rfl rfl))
    refine nV rfl rfl <| nV rfl rfl <| nV rfl rfl <| cV rfl (oF rfl rfl) <| cV rfl (oM rfl) <| nV rfl rfl <| nV rfl rfl <| nV rfl rfl <| nV rfl rfl <| nV rfl rfl <| nV rfl rfl <| cV rfl (oF rfl rfl) ?_
    refine cV rfl (oM rfl) <| nV rfl rfl <| nV rfl rfl <| nV rfl rfl <| nV rfl rfl <| nV rfl rfl <| nV rfl rfl <| cV rfl (oF rfl rfl) <| cV rfl (oA rfl) <| WL.nil <| Tr.ret ?_
    (have h2 : shSum f st x = (false, st) := (by (first | (simp_all [shSum, r1IsOne, andP]; done) | (simp_all [shSum, r1IsOne, andP] <;> omega)))
     rw [h2]
     exact ret_ok rfl rfl (po2 rfl rfl))
  refine Tr.skip <| Tr.seq <| Tr.region rfl <| cV rfl (oFe rfl tF42_1) <| cV rfl (oLe Tryz.underlying3 rfl rfl) <| WL.cons rfl rfl rfl (ok_callq (sc_wLevel _) ent123 rfl rfl (Subs.refl _ _) rfl) <| cV rfl (oB rfl rfl rfl) <| cV rfl (oM rfl) ?_
  refine WL.split (t := 45) rfl (fun hb45 => ?_) (fun hb45 => ?_)
  · refine yV rfl rfl (oFe rfl tF42_1) <| yV rfl rfl (oLe Tryz.underlying3 rfl rfl) <| yV rfl rfl (oB rfl rfl rfl) <| cV rfl (oT rfl rfl) <| cV rfl (oM rfl) ?_
    refine WL.split (t := 50) rfl (fun hb50 => ?_) (fun hb50 => ?_)
    · refine yV rfl rfl (oM rfl) <| yV rfl rfl (oFe rfl tF42_4) <| yV rfl rfl (oLe Tryz.underlying35 rfl rfl) <| yV rfl rfl (oM rfl) <| yV rfl rfl (oM rfl) <| WL.yes rfl rfl rfl rfl rfl rfl (ok_buildSlice rfl rfl Tryz.underlying35 tZ3 tS3 rfl rfl rfl rfl (firmB_ok rfl) rfl) <| WL.yes rfl rfl rfl rfl rfl rfl (ok_callr (sc_shUses u f st hs x.args [(shOperand x.op).1, (shOperand x.op).1]) ent110 rfl rfl (Subs.refl _ _) (po2 rfl rfl) (by rfl) (fun k (h : _) => .inr trivial) rfl (by rfl)) <| cV rfl (oT rfl rfl) <| cV rfl (oA rfl) <| WL.nil <| Tr.seq <| Tr.drawn mixed (fun k => k ∈ ([3] : List Nat)) ?_
      refine WA.run (fuel := 4) [0, 1, 2, 3, 4, 5, 6, 7, 8, 9, 10, 11, 12, 13, 14, 15, 16, 17, 18, 19, 20, 21, 22, 23, 24, 25, 26, 27, 28, 29, 30] (by kernel_rfl) ((fun _ _ _ h => h)) (by kernel_rfl) <| rV rfl rfl (oM rfl) <| rV rfl rfl (oM rfl) ?_
      refine WR.split (t := 60) rfl (fun hb60 => ?_) (fun hb60 => ?_)
      · obtain ⟨a, b, hab, ha0, hal, hb0, hbl⟩ := shUses_two (by simpa using hb60)
        have hi0 : (x.args.map eInt)[0]? = some [vInt a] := by rw [hab]; rfl
        have hi1 : (x.args.map eInt)[1]? = some [vInt b] := by rw [hab]; rfl
        have hta : (f.types.map eInt)[a.toNat]? = some [vInt (f.types.getD a.toNat 0)] := by rw [List.getElem?_map]; simp [eInt, List.getD, hal]
        have htb : (f.types.map eInt)[b.toNat]? = some [vInt (f.types.getD b.toNat 0)] := by rw [List.getElem?_map]; simp [eInt, List.getD, hbl]
        refine ryV rfl rfl rfl (oM rfl) <| ryV rfl rfl rfl (ok_nilCheck rfl rfl rfl) <| ryV rfl rfl rfl (oFp rfl rfl tF97_1) <| ryV rfl rfl rfl (oFp rfl rfl tF51_3) <| ryV rfl rfl rfl (oLb Tryz.underlying35 rfl rfl rfl (by decide)) <| ryV rfl rfl rfl (oFe rfl tF42_4) <| ryV rfl rfl rfl (oLe Tryz.underlying35 rfl rfl) <| ryV rfl rfl rfl (ok_index_seq rfl rfl rfl Tryz.underlying35 hi0 tS3 rfl (by rfl)) <| ryV rfl rfl rfl (oLe Tryz.underlying3 rfl rfl) <| ryV rfl rfl rfl (ok_index_seq rfl rfl rfl Tryz.underlying35 hta tS3 rfl (by omega)) <| ryV rfl rfl rfl (oLe Tryz.underlying3 rfl rfl) <| ryV rfl rfl rfl (oM rfl) ?_
        refine ryV rfl rfl rfl (ok_nilCheck rfl rfl rfl) <| ryV rfl rfl rfl (oFp rfl rfl tF97_1) <| ryV rfl rfl rfl (oFp rfl rfl tF51_3) <| ryV rfl rfl rfl (oLb Tryz.underlying35 rfl rfl rfl (by decide)) <| ryV rfl rfl rfl (oFe rfl tF42_4) <| ryV rfl rfl rfl (oLe Tryz.underlying35 rfl rfl) <| ryV rfl rfl rfl (ok_index_seq rfl rfl rfl Tryz.underlying35 hi1 tS3 rfl (by rfl)) <| ryV rfl rfl rfl (oLe Tryz.underlying3 rfl rfl) <| ryV rfl rfl rfl (ok_index_seq rfl rfl rfl Tryz.underlying35 htb tS3 rfl (by omega)) <| ryV rfl rfl rfl (oLe Tryz.underlying3 rfl rfl) <| ryV rfl rfl rfl (oB rfl rfl rfl) <| rV rfl rfl (oT rfl rfl) ?_
        refine rV rfl rfl (oM rfl) ?_
        refine WR.split (t := 85) rfl (fun hb85 => ?_) (fun hb85 => ?_)
        · refine ryV rfl rfl rfl (oM rfl) <| ryV rfl rfl rfl (oFe rfl tF42_5) <| ryV rfl rfl rfl (oLe Tryz.underlying35 rfl rfl) <| ryV rfl rfl rfl (oM rfl) <| WR.nil <| WA.one (i := 31) (by kernel_rfl) <| WI.opYes rfl rfl rfl rfl rfl rfl (by intro t h; cases h <;> rfl) (fun k (h : _) => by (simp at h ⊢; omega)) (fun _ h1 h2 => absurd h1 h2) (fun ρ w => ok_buildSlice rfl rfl Tryz.underlying35 tZ3 tS3 rfl rfl rfl rfl (firmB_ok rfl) rfl) <| WA.one (i := 32) (by kernel_rfl) <| WI.opYes rfl rfl rfl rfl rfl rfl (by intro t h; cases h <;> rfl) (fun k (h : _) => by (simp at h ⊢; omega)) (new_app rfl) (fun ρ w => ok_callr (sc_shSets u f st hs x.outs [(shOperand x.op).2]) ent112 rfl rfl (Subs.refl _ _) (po2 rfl rfl) (by rfl) (fun k (h : _) => by (simp only [List.mem_cons, List.not_mem_nil, or_false] at h; rcases h with rfl <;> first | exact .inl rfl | exact .inr rfl | exact .inr (by decide))) rfl (by rfl)) <| WA.run (fuel := 0) [33, 34] (by kernel_rfl) ((fun _ _ _ h => h)) (by kernel_rfl) <| rV rfl rfl (oT rfl rfl) <| rV rfl rfl (oA rfl) ?_
          refine WR.nil <| WA.done (by kernel_rfl) <| Tr.ret ?_
          (have h2 : (shSum f st x).2 = (shSets f.types st x.outs [(shOperand x.op).2]).2 := (by (try (clear ha0 hb0)); simp_all [shSum, andP]; done)
           rw [h2]
           refine ret_ok rfl ?_ (po2 rfl rfl)
           clear h2
           try (clear ha0 hb0)
           simp_all [shSum, andP]
           done)
        refine rnV rfl rfl rfl <| rnV rfl rfl rfl <| rnV rfl rfl rfl <| rnV rfl rfl rfl <| WR.nil <| WA.takeNo (i := 31) (b := false) rfl (by kernel_rfl) (by kernel_rfl) (by kernel_rfl) ((fun _ _ _ h => h)) rfl rfl rfl rfl rfl rfl <| WA.takeNo (i := 32) (b := false) rfl (by kernel_rfl) (by kernel_rfl) (by kernel_rfl) ((fun _ _ _ h => h)) rfl rfl rfl rfl rfl rfl <| WA.run (fuel := 0) [33, 34] (by kernel_rfl) ((fun _ _ _ h => h)) (by kernel_rfl) <| rV rfl rfl (oF rfl rfl) <| rV rfl rfl (oA rfl) <| WR.nil <| WA.done (by kernel_rfl) ?_
        refine Tr.ret ?_
        (have h2 : (shSum f st x).2 = st := (by (try (clear ha0 hb0)); simp_all [shSum, andP]; done)
         rw [h2]
         refine ret_ok rfl ?_ (po2 rfl rfl)
         clear h2
         try (clear ha0 hb0)
         simp_all [shSum, andP]
         done)
      refine rnV rfl rfl rfl <| rnV rfl rfl rfl <| rnV rfl rfl rfl <| rnV rfl rfl rfl <| rnV rfl rfl rfl <| rnV rfl rfl rfl <| rnV rfl rfl rfl <| rnV rfl rfl rfl <| rnV rfl rfl rfl <| rnV rfl rfl rfl <| rnV rfl rfl rfl <| rnV rfl rfl rfl ?_
      refine rnV rfl rfl rfl <| rnV rfl rfl rfl <| rnV rfl rfl rfl <| rnV rfl rfl rfl <| rnV rfl rfl rfl <| rnV rfl rfl rfl <| rnV rfl rfl rfl <| rnV rfl rfl rfl <| rnV rfl rfl rfl <| rnV rfl rfl rfl <| rnV rfl rfl rfl <| rV rfl rfl (oF rfl rfl) ?_
      refine rV rfl rfl (oM rfl) <| rnV rfl rfl rfl <| rnV rfl rfl rfl <| rnV rfl rfl rfl <| rnV rfl rfl rfl <| WR.nil <| WA.takeNo (i := 31) (b := false) rfl (by kernel_rfl) (by kernel_rfl) (by kernel_rfl) ((fun _ _ _ h => h)) rfl rfl rfl rfl rfl rfl <| WA.takeNo (i := 32) (b := false) rfl (by kernel_rfl) (by kernel_rfl) (by kernel_rfl) ((fun _ _ _ h => h)) rfl rfl rfl rfl rfl rfl <| WA.run (fuel := 0) [33, 34] (by kernel_rfl) ((fun _ _ _ h => h)) (by kernel_rfl) <| rV rfl rfl (oF rfl rfl) <| rV rfl rfl (oA rfl) <| WR.nil ?_
      refine WA.done (by kernel_rfl) <| Tr.ret ?_
      (have h2 : (shSum f st x).2 = st := (by (try (clear ha0 hb0)); simp_all [shSum, andP]; done)
       rw [h2]
       refine ret_ok rfl ?_ (po2 rfl rfl)
       clear h2
       try (clear ha0 hb0)
       simp_all [shSum, andP]
       done)
    refine nV rfl rfl <| nV rfl rfl <| nV rfl rfl <| nV rfl rfl <| nV rfl rfl <| nV rfl rfl <| nV rfl rfl <| cV rfl (oF rfl rfl) <| cV rfl (oA rfl) <| WL.nil <| Tr.seq <| Tr.drawn mixed (fun k => k ∈ ([3] : List Nat)) ?_
    refine WA.run (fuel := 4) [0, 1, 2, 3, 4, 5, 6, 7, 8, 9, 10, 11, 12, 13, 14, 15, 16, 17, 18, 19, 20, 21, 22, 23, 24, 25, 26, 27, 28, 29, 30] (by kernel_rfl) ((fun _ _ _ h => h)) (by kernel_rfl) <| rV rfl rfl (oM rfl) <| rV rfl rfl (oM rfl) <| rnV rfl rfl rfl <| rnV rfl rfl rfl <| rnV rfl rfl rfl <| rnV rfl rfl rfl <| rnV rfl rfl rfl <| rnV rfl rfl rfl <| rnV rfl rfl rfl <| rnV rfl rfl rfl <| rnV rfl rfl rfl ?_
    refine rnV rfl rfl rfl <| rnV rfl rfl rfl <| rnV rfl rfl rfl <| rnV rfl rfl rfl <| rnV rfl rfl rfl <| rnV rfl rfl rfl <| rnV rfl rfl rfl <| rnV rfl rfl rfl <| rnV rfl rfl rfl <| rnV rfl rfl rfl <| rnV rfl rfl rfl <| rnV rfl rfl rfl ?_
    refine rnV rfl rfl rfl <| rnV rfl rfl rfl <| rV rfl rfl (oF rfl rfl) <| rV rfl rfl (oM rfl) <| rnV rfl rfl rfl <| rnV rfl rfl rfl <| rnV rfl rfl rfl <| rnV rfl rfl rfl <| WR.nil <| WA.takeNo (i := 31) (b := false) rfl (by kernel_rfl) (by kernel_rfl) (by kernel_rfl) ((fun _ _ _ h => h)) rfl rfl rfl rfl rfl rfl <| WA.takeNo (i := 32) (b := false) rfl (by kernel_rfl) (by kernel_rfl) (by kernel_rfl) ((fun _ _ _ h => h)) rfl rfl rfl rfl rfl rfl <| WA.run (fuel := 0) [33, 34] (by kernel_rfl) ((fun _ _ _ h => h)) (by kernel_rfl) ?_
    refine rV rfl rfl (oF rfl rfl) <| rV rfl rfl (oA rfl) <| WR.nil <| WA.done (by kernel_rfl) <| Tr.ret ?_
    (have h2 : shSum f st x = (false, st) := (by (try (clear ha0 hb0)); (first | (simp_all [shSum, andP]; done) | (simp_all [shSum, andP] <;> omega)))
     rw [h2]
     exact ret_ok rfl rfl (po2 rfl rfl))
  refine nV rfl rfl <| nV rfl rfl <| nV rfl rfl <| cV rfl (oF rfl rfl) <| cV rfl (oM rfl) <| nV rfl rfl <| nV rfl rfl <| nV rfl rfl <| nV rfl rfl <| nV rfl rfl <| nV rfl rfl <| nV rfl rfl ?_
  refine cV rfl (oF rfl rfl) <| cV rfl (oA rfl) <| WL.nil <| Tr.seq <| Tr.drawn mixed (fun k => k ∈ ([3] : List Nat)) <| WA.run (fuel := 4) [0, 1, 2, 3, 4, 5, 6, 7, 8, 9, 10, 11, 12, 13, 14, 15, 16, 17, 18, 19, 20, 21, 22, 23, 24, 25, 26, 27, 28, 29, 30] (by kernel_rfl) ((fun _ _ _ h => h)) (by kernel_rfl) <| rV rfl rfl (oM rfl) <| rV rfl rfl (oM rfl) <| rnV rfl rfl rfl <| rnV rfl rfl rfl <| rnV rfl rfl rfl <| rnV rfl rfl rfl ?_
  refine rnV rfl rfl rfl <| rnV rfl rfl rfl <| rnV rfl rfl rfl <| rnV rfl rfl rfl <| rnV rfl rfl rfl <| rnV rfl rfl rfl <| rnV rfl rfl rfl <| rnV rfl rfl rfl <| rnV rfl rfl rfl <| rnV rfl rfl rfl <| rnV rfl rfl rfl <| rnV rfl rfl rfl ?_
  refine rnV rfl rfl rfl <| rnV rfl rfl rfl <| rnV rfl rfl rfl <| rnV rfl rfl rfl <| rnV rfl rfl rfl <| rnV rfl rfl rfl <| rnV rfl rfl rfl <| rV rfl rfl (oF rfl rfl) <| rV rfl rfl (oM rfl) <| rnV rfl rfl rfl <| rnV rfl rfl rfl <| rnV rfl rfl rfl ?_
  refine rnV rfl rfl rfl <| WR.nil <| WA.takeNo (i := 31) (b := false) rfl (by kernel_rfl) (by kernel_rfl) (by kernel_rfl) ((fun _ _ _ h => h)) rfl rfl rfl rfl rfl rfl <| WA.takeNo (i := 32) (b := false) rfl (by kernel_rfl) (by kernel_rfl) (by kernel_rfl) ((fun _ _ _ h => h)) rfl rfl rfl rfl rfl rfl <| WA.run (fuel := 0) [33, 34] (by kernel_rfl) ((fun _ _ _ h => h)) (by kernel_rfl) <| rV rfl rfl (oF rfl rfl) <| rV rfl rfl (oA rfl) <| WR.nil <| WA.done (by kernel_rfl) <| Tr.ret ?_
  (have h2 : shSum f st x = (false, st) := (by (try (clear ha0 hb0)); (first | (simp_all [shSum, andP]; done) | (simp_all [shSum, andP] <;> omega)))
   rw [h2]
   exact ret_ok rfl rfl (po2 rfl rfl))
set_option maxRecDepth 8000 in
set_option maxHeartbeats 2000000 in
theorem sc_shEnd (u : Un) (f : Fl) (st : List Int) (hs : st.length = f.types.length) (x : Nd) (wh : Wh) : SC Tryz.prog 100 [.ptr 3 0, .pv (ndv x), .pv (whv wh)] (ckS u f 3 st) (fun k => k = 3) (iBool (shEnd f st x wh)) (ckS u f 3 st) := by
  refine SC.of Tryz.func100 rfl (lb rfl) fun F ρ w => ?_
  refine Tr.seq <| Tr.region rfl <| WL.cons rfl rfl rfl ((ok_box rfl rfl)) <| WL.cons rfl rfl rfl ((ok_box rfl rfl)) <| cV rfl (oA rfl) <| WL.nil <| Tr.seq <| Tr.region rfl <| cV rfl (oFe rfl tF42_5) <| cV rfl (oLe Tryz.underlying35 rfl rfl) <| cV rfl (oSm Tryz.underlying35 rfl) <| cV rfl (oB rfl rfl rfl) ?_
  refine cV rfl (oA rfl) <| WL.nil <| Tr.seq <| Tr.seq <| Tr.region rfl <| cV rfl (oFe rfl tF42_0) <| cV rfl (oLe Tryz.underlying3 rfl rfl) <| WL.nil <| Tr.block <| Tr.seq <| Tr.region rfl <| cV rfl (oB rfl rfl rfl) ?_
  refine cV rfl (oA rfl) <| WL.nil ?_
  refine Tr.cond rfl (fun hc14 => ?_) (fun hc14 => ?_)
  · refine Tr.seq <| Tr.region rfl <| cV rfl (oM rfl) <| cV rfl (oM rfl) ?_
    refine WL.split (t := 17) rfl (fun hb17 => ?_) (fun hb17 => ?_)
    · refine yV rfl rfl (oFe rfl tF100_0) <| yV rfl rfl (oLe Tryz.underlying4 rfl rfl) <| cV rfl (oT rfl rfl) <| cV rfl (oM rfl) ?_
      refine WL.split (t := 21) rfl (fun hb21 => ?_) (fun hb21 => ?_)
      · refine yV rfl rfl (oM rfl) <| yV rfl rfl (oFe rfl tF42_4) <| yV rfl rfl (oLe Tryz.underlying35 rfl rfl) <| yV rfl rfl (oFe rfl tF100_2) <| yV rfl rfl (oLe Tryz.underlying35 rfl rfl) <| WL.yes rfl rfl rfl rfl rfl rfl (ok_callr (sc_shUses u f st hs x.args wh.Yield) ent110 rfl rfl (Subs.refl _ _) (po2 rfl rfl) (by rfl) (fun k (h : _) => .inr trivial) rfl (by rfl)) <| cV rfl (oT rfl rfl) <| cV rfl (oA rfl) <| WL.nil <| Tr.ret ?_
        refine ret_ok rfl ?_ (post_ok (And.intro rfl (And.intro rfl (trivial))))
        refine congrArg (fun b => iBool b) ?_
        simp_all [shEnd]
      refine nV rfl rfl <| nV rfl rfl <| nV rfl rfl <| nV rfl rfl <| nV rfl rfl <| nV rfl rfl <| cV rfl (oF rfl rfl) <| cV rfl (oA rfl) <| WL.nil <| Tr.ret ?_
      refine ret_ok rfl ?_ (post_ok (And.intro rfl (And.intro rfl (trivial))))
      refine congrArg (fun b => iBool b) ?_
      simp_all [shEnd]
    refine nV rfl rfl <| nV rfl rfl <| cV rfl (oF rfl rfl) <| cV rfl (oM rfl) <| nV rfl rfl <| nV rfl rfl <| nV rfl rfl <| nV rfl rfl <| nV rfl rfl <| nV rfl rfl <| cV rfl (oF rfl rfl) <| cV rfl (oA rfl) ?_
    refine WL.nil <| Tr.ret ?_
    refine ret_ok rfl ?_ (post_ok (And.intro rfl (And.intro rfl (trivial))))
    refine congrArg (fun b => iBool b) ?_
    simp_all [shEnd]
  refine Tr.seq <| Tr.region rfl <| cV rfl (oB rfl rfl rfl) <| cV rfl (oA rfl) <| WL.nil ?_
  refine Tr.cond rfl (fun hc29 => ?_) (fun hc29 => ?_)
  · refine Tr.seq <| Tr.region rfl <| cV rfl (oM rfl) <| cV rfl (oM rfl) ?_
    refine WL.split (t := 32) rfl (fun hb32 => ?_) (fun hb32 => ?_)
    · refine yV rfl rfl (oFe rfl tF100_1) <| yV rfl rfl (oLe Tryz.underlying4 rfl rfl) <| cV rfl (oT rfl rfl) <| cV rfl (oM rfl) ?_
      refine WL.split (t := 36) rfl (fun hb36 => ?_) (fun hb36 => ?_)
      · refine yV rfl rfl (oM rfl) <| yV rfl rfl (oFe rfl tF42_4) <| yV rfl rfl (oLe Tryz.underlying35 rfl rfl) <| yV rfl rfl (oFe rfl tF100_3) <| yV rfl rfl (oLe Tryz.underlying35 rfl rfl) <| WL.yes rfl rfl rfl rfl rfl rfl (ok_callr (sc_shUses u f st hs x.args wh.Next) ent110 rfl rfl (Subs.refl _ _) (po2 rfl rfl) (by rfl) (fun k (h : _) => .inr trivial) rfl (by rfl)) <| cV rfl (oT rfl rfl) <| cV rfl (oA rfl) <| WL.nil <| Tr.ret ?_
        refine ret_ok rfl ?_ (post_ok (And.intro rfl (And.intro rfl (trivial))))
        refine congrArg (fun b => iBool b) ?_
        simp_all [shEnd]
      refine nV rfl rfl <| nV rfl rfl <| nV rfl rfl <| nV rfl rfl <| nV rfl rfl <| nV rfl rfl <| cV rfl (oF rfl rfl) <| cV rfl (oA rfl) <| WL.nil <| Tr.ret ?_
      refine ret_ok rfl ?_ (post_ok (And.intro rfl (And.intro rfl (trivial))))
      refine congrArg (fun b => iBool b) ?_
      simp_all [shEnd]
    refine nV rfl rfl <| nV rfl rfl <| cV rfl (oF rfl rfl) <| cV rfl (oM rfl) <| nV rfl rfl <| nV rfl rfl <| nV rfl rfl <| nV rfl rfl <| nV rfl rfl <| nV rfl rfl <| cV rfl (oF rfl rfl) <| cV rfl (oA rfl) ?_
    refine WL.nil <| Tr.ret ?_
    refine ret_ok rfl ?_ (post_ok (And.intro rfl (And.intro rfl (trivial))))
    refine congrArg (fun b => iBool b) ?_
    simp_all [shEnd]
  refine Tr.seq <| Tr.region rfl <| cV rfl (oB rfl rfl rfl) <| cV rfl (oA rfl) <| WL.nil ?_
  refine Tr.cond rfl (fun hc44 => ?_) (fun hc44 => ?_)
  · refine Tr.seq <| Tr.region rfl <| cV rfl (oM rfl) <| cV rfl (oM rfl) ?_
    refine WL.split (t := 47) rfl (fun hb47 => ?_) (fun hb47 => ?_)
    · refine yV rfl rfl (oFe rfl tF100_1) <| yV rfl rfl (oLe Tryz.underlying4 rfl rfl) <| cV rfl (oT rfl rfl) <| cV rfl (oM rfl) ?_
      refine WL.split (t := 51) rfl (fun hb51 => ?_) (fun hb51 => ?_)
      · refine yV rfl rfl (oM rfl) <| yV rfl rfl (oFe rfl tF42_4) <| yV rfl rfl (oLe Tryz.underlying35 rfl rfl) <| yV rfl rfl (oFe rfl tF100_4) <| yV rfl rfl (oLe Tryz.underlying35 rfl rfl) <| WL.yes rfl rfl rfl rfl rfl rfl (ok_callr (sc_shUses u f st hs x.args wh.Left) ent110 rfl rfl (Subs.refl _ _) (po2 rfl rfl) (by rfl) (fun k (h : _) => .inr trivial) rfl (by rfl)) <| cV rfl (oT rfl rfl) <| cV rfl (oA rfl) <| WL.nil <| Tr.ret ?_
        refine ret_ok rfl ?_ (post_ok (And.intro rfl (And.intro rfl (trivial))))
        refine congrArg (fun b => iBool b) ?_
        simp_all [shEnd]
      refine nV rfl rfl <| nV rfl rfl <| nV rfl rfl <| nV rfl rfl <| nV rfl rfl <| nV rfl rfl <| cV rfl (oF rfl rfl) <| cV rfl (oA rfl) <| WL.nil <| Tr.ret ?_
      refine ret_ok rfl ?_ (post_ok (And.intro rfl (And.intro rfl (trivial))))
      refine congrArg (fun b => iBool b) ?_
      simp_all [shEnd]
    refine nV rfl rfl <| nV rfl rfl <| cV rfl (oF rfl rfl) <| cV rfl (oM rfl) <| nV rfl rfl <| nV rfl rfl <| nV rfl rfl <| nV rfl rfl <| nV rfl rfl <| nV rfl rfl <| cV rfl (oF rfl rfl) <| cV rfl (oA rfl) ?_
    refine WL.nil <| Tr.ret ?_
    refine ret_ok rfl ?_ (post_ok (And.intro rfl (And.intro rfl (trivial))))
    refine congrArg (fun b => iBool b) ?_
    simp_all [shEnd]
  refine Tr.skip <| Tr.seq <| Tr.drawn mixed (fun k => k ∈ ([3, 4] : List Nat)) <| WA.run (fuel := 4) [0, 1, 2, 3, 4, 5, 6, 7, 8, 9] (by kernel_rfl) ((fun _ _ _ h => h)) (by kernel_rfl) <| rV rfl rfl (oM rfl) <| rV rfl rfl (oM rfl) ?_
  refine WR.split (t := 60) rfl (fun hb60 => ?_) (fun hb60 => ?_)
  · refine ryV rfl rfl rfl (oM rfl) <| ryV rfl rfl rfl (oFe rfl tF42_4) <| ryV rfl rfl rfl (oLe Tryz.underlying35 rfl rfl) <| ryV rfl rfl rfl (oM rfl) <| ryV rfl rfl rfl (ok_nilCheck rfl rfl rfl) <| ryV rfl rfl rfl (oFp rfl rfl tF97_1) <| ryV rfl rfl rfl (oFp rfl rfl tF51_1) <| ryV rfl rfl rfl (oLb Tryz.underlying3 rfl rfl rfl (by decide)) <| WR.nil <| WA.one (i := 10) (by kernel_rfl) <| WI.opYes rfl rfl rfl rfl rfl rfl (by intro t h; cases h <;> rfl) (fun k (h : _) => by (simp at h ⊢; omega)) (fun _ h1 h2 => absurd h1 h2) (fun ρ w => ok_buildSlice rfl rfl Tryz.underlying35 tZ3 tS3 rfl rfl rfl rfl (firmB_ok rfl) rfl) <| WA.one (i := 11) (by kernel_rfl) ?_
    refine WI.opYes rfl rfl rfl rfl rfl rfl (by intro t h; cases h <;> rfl) (fun k (h : _) => by (simp at h ⊢; omega)) (new_app rfl) (fun ρ w => ok_callr (sc_shUses u f st hs x.args [f.ty]) ent110 rfl rfl (Subs.refl _ _) (po2 rfl rfl) (by rfl) (fun k (h : _) => .inr trivial) rfl (by rfl)) <| WA.run (fuel := 0) [12, 13] (by kernel_rfl) ((fun _ _ _ h => h)) (by kernel_rfl) <| rV rfl rfl (oT rfl rfl) <| rV rfl rfl (oA rfl) <| WR.nil <| WA.done (by kernel_rfl) <| Tr.ret ?_
    refine ret_ok rfl ?_ (post_ok (And.intro rfl (And.intro rfl (trivial))))
    refine congrArg (fun b => iBool b) ?_
    simp_all [shEnd]
  refine rnV rfl rfl rfl <| rnV rfl rfl rfl <| rnV rfl rfl rfl <| rnV rfl rfl rfl <| rnV rfl rfl rfl <| rnV rfl rfl rfl <| rnV rfl rfl rfl <| rnV rfl rfl rfl <| WR.nil <| WA.takeNo (i := 10) (b := false) rfl (by kernel_rfl) (by kernel_rfl) (by kernel_rfl) ((fun _ _ _ h => h)) rfl rfl rfl rfl rfl rfl <| WA.takeNo (i := 11) (b := false) rfl (by kernel_rfl) (by kernel_rfl) (by kernel_rfl) ((fun _ _ _ h => h)) rfl rfl rfl rfl rfl rfl <| WA.run (fuel := 0) [12, 13] (by kernel_rfl) ((fun _ _ _ h => h)) (by kernel_rfl) ?_
  refine rV rfl rfl (oF rfl rfl) <| rV rfl rfl (oA rfl) <| WR.nil <| WA.done (by kernel_rfl) <| Tr.ret ?_
  refine ret_ok rfl ?_ (post_ok (And.intro rfl (And.intro rfl (trivial))))
  refine congrArg (fun b => iBool b) ?_
  simp_all [shEnd]
def shTail (f : Fl) (x : Nd) (st : List Int) : Bool × List Int := andP ((x.outs.length : Int) == 0 || !r8Closed x) st (shSets f.types st x.outs (List.replicate x.outs.length 0))
def shHideAll (st : List Int) (l : List Nd) : List Int := l.foldl (fun s x => shHide s x.outs) st
def shFin (l : List Nd) (s : List Int) : Bool × List Int := (decide ((l.length : Int) > 0), shHideAll s l)
mutual
def shNode (u : Un) (f : Fl) (deep : Int) (w : Wh) (st : List Int) : Nd → Bool × List Int
  | .mk kind op n name args outs params kids =>
    if !r8bare (.mk kind op n name args outs params kids) then (false, st)
    else if kind == 10 then
      match kids with
      | a :: b :: _ =>
        if shUses f.types st args [2] then
          andQ (andQ (shGo u f (deep + 1) ⟨true, w.Loop, r8of f.types outs, w.Next, w.Left⟩ st a) (shFin a)) fun s1 =>
          andQ (andQ (shGo u f (deep + 1) ⟨true, w.Loop, r8of f.types outs, w.Next, w.Left⟩ s1 b) (shFin b)) fun s2 =>
          shTail f (.mk kind op n name args outs params kids) s2
        else (false, st)
      | _ => (false, st)
    else if kind == 11 then
      if shUses f.types st args (r8of f.types params) then
        andQ (shSets f.types st params (List.replicate params.length 0)) fun s1 =>
        match kids with
        | a :: _ =>
          andQ (andQ (shGo u f (deep + 1) ⟨false, true, [], r8of f.types params, r8of f.types outs⟩ s1 a) (shFin a)) fun s2 =>
          shTail f (.mk kind op n name args outs params kids) (shHide s2 params)
        | _ => (false, s1)
      else (false, st)
    else if r8Ender kind then (shEnd f st (.mk kind op n name args outs params kids) w, st)
    else shSimple u f st (.mk kind op n name args outs params kids)
def shGo (u : Un) (f : Fl) (deep : Int) (w : Wh) (st : List Int) : List Nd → Bool × List Int
  | [] => (true, st)
  | x :: r =>
    if deep > 100 then (false, st)
    else andQ (shNode u f deep w st x) fun s1 =>
      if r8Closed x != r.isEmpty then (false, s1)
      else shGo u f deep w s1 r
end
def shList (u : Un) (f : Fl) (deep : Int) (w : Wh) (st : List Int) (l : List Nd) : Bool × List Int := andQ (shGo u f deep w st l) (shFin l)
theorem andQ_length {r : Bool × List Int} {k : List Int → Bool × List Int} {n : Nat} (h1 : r.2.length = n) (h2 : ∀ s, s.length = n → (k s).2.length = n) : (andQ r k).2.length = n := by
  unfold andQ; split
  · exact h2 _ h1
  exact h1
theorem shHideAll_length : ∀ (l : List Nd) (st : List Int), (shHideAll st l).length = st.length
  | [], _ => rfl
  | x :: r, st => by
    have := shHideAll_length r (shHide st x.outs)
    rw [shHide_length] at this
    simpa [shHideAll] using this
theorem shTail_length {f : Fl} {x : Nd} {st : List Int} {n : Nat} (h : st.length = n) : (shTail f x st).2.length = n := (andP_length (shSets_length ..)).trans h
theorem shFin_length {l : List Nd} {s : List Int} {n : Nat} (h : s.length = n) : (shFin l s).2.length = n := (shHideAll_length l s).trans h
mutual
theorem shNode_length (u : Un) (f : Fl) : ∀ (x : Nd) (deep : Int) (w : Wh) (st : List Int), (shNode u f deep w st x).2.length = st.length
  | .mk kind op n name args outs params kids, deep, w, st => by
    unfold shNode
    split
    · rfl
    split
    · match kids with
      | [] => rfl
      | [_] => rfl
      | a :: b :: _ =>
        simp only
        split
        · exact andQ_length (andQ_length (shGo_length u f a ..) fun s hs => shFin_length hs) fun s hs => andQ_length (andQ_length ((shGo_length u f b ..).trans hs) fun s hs => shFin_length hs) fun s hs => shTail_length hs
        rfl
    split
    · split
      · refine andQ_length (shSets_length ..) fun s hs => ?_
        match kids with
        | [] => exact hs
        | a :: _ => exact andQ_length (andQ_length ((shGo_length u f a ..).trans hs) fun s hs => shFin_length hs) fun s hs => shTail_length ((shHide_length ..).trans hs)
      rfl
    split
    · rfl
    exact shSimple_length ..
theorem shGo_length (u : Un) (f : Fl) : ∀ (l : List Nd) (deep : Int) (w : Wh) (st : List Int), (shGo u f deep w st l).2.length = st.length
  | [], _, _, _ => by simp [shGo]
  | x :: r, deep, w, st => by
    unfold shGo
    split
    · rfl
    refine andQ_length (shNode_length u f x ..) fun s hs => ?_
    split
    · exact hs
    exact (shGo_length u f r ..).trans hs
end
theorem shList_length (u : Un) (f : Fl) (deep : Int) (w : Wh) (st : List Int) (l : List Nd) : (shList u f deep w st l).2.length = st.length := andQ_length (shGo_length ..) fun _ h => shFin_length h
theorem shNode_bare (u : Un) (f : Fl) (deep : Int) (w : Wh) (st : List Int) {x : Nd} (h : r8bare x = false) : shNode u f deep w st x = (false, st) := by
  cases x; unfold shNode; simp [h]
theorem shNode_if (u : Un) (f : Fl) (deep : Int) (w : Wh) (st : List Int) {x : Nd} {a b : List Nd} (h : r8bare x = true) (hk : x.kind = 10) (hx : x.kids = [a, b]) :
    shNode u f deep w st x = if shUses f.types st x.args [2] then andQ (shList u f (deep + 1) ⟨true, w.Loop, r8of f.types x.outs, w.Next, w.Left⟩ st a) (fun s1 => andQ (shList u f (deep + 1) ⟨true, w.Loop, r8of f.types x.outs, w.Next, w.Left⟩ s1 b) fun s2 => shTail f x s2) else (false, st) := by
  cases x
  simp only [Nd.kind, Nd.kids] at hk hx
  subst hk hx
  unfold shNode
  simp only [h, Bool.not_true, Bool.false_eq_true, if_false, Nd.args, Nd.outs]
  rfl
theorem shNode_loop (u : Un) (f : Fl) (deep : Int) (w : Wh) (st : List Int) {x : Nd} {a : List Nd} (h : r8bare x = true) (hk : x.kind = 11) (hx : x.kids = [a]) :
    shNode u f deep w st x = if shUses f.types st x.args (r8of f.types x.params) then andQ (shSets f.types st x.params (List.replicate x.params.length 0)) (fun s1 => andQ (shList u f (deep + 1) ⟨false, true, [], r8of f.types x.params, r8of f.types x.outs⟩ s1 a) fun s2 => shTail f x (shHide s2 x.params)) else (false, st) := by
  cases x
  simp only [Nd.kind, Nd.kids] at hk hx
  subst hk hx
  unfold shNode
  simp only [h, Bool.not_true, Bool.false_eq_true, if_false, Nd.args, Nd.outs, Nd.params]
  rfl
theorem shNode_end (u : Un) (f : Fl) (deep : Int) (w : Wh) (st : List Int) {x : Nd} (h : r8bare x = true) (h1 : (x.kind == 10) = false) (h2 : (x.kind == 11) = false) (h3 : r8Ender x.kind = true) : shNode u f deep w st x = (shEnd f st x w, st) := by
  cases x
  simp only [Nd.kind] at h1 h2 h3
  unfold shNode
  simp [h, h1, h2, h3]
theorem shNode_simple (u : Un) (f : Fl) (deep : Int) (w : Wh) (st : List Int) {x : Nd} (h : r8bare x = true) (h1 : (x.kind == 10) = false) (h2 : (x.kind == 11) = false) (h3 : r8Ender x.kind = false) : shNode u f deep w st x = shSimple u f st x := by
  cases x
  simp only [Nd.kind] at h1 h2 h3
  unfold shNode
  simp [h, h1, h2, h3]
theorem andP_true {S : Type} {b : Bool} {s : S} {r : Bool × S} (h : (andP b s r).1 = true) : b = true ∧ r.1 = true := by
  unfold andP at h; split at h
  · rename_i hb; exact ⟨hb, h⟩
  cases h
theorem andQ_true {S : Type} {r : Bool × S} {k : S → Bool × S} (h : (andQ r k).1 = true) : r.1 = true ∧ (k r.2).1 = true := by
  unfold andQ at h; split at h
  · rename_i hb; exact ⟨hb, h⟩
  cases h
theorem shTail_outs {f : Fl} {x : Nd} {st : List Int} (h : (shTail f x st).1 = true) : ∀ v ∈ x.outs, 0 ≤ v ∧ v < f.types.length := shSets_in (andP_true h).2
theorem shSimple_outs {u : Un} {f : Fl} {st : List Int} {x : Nd} (h : (shSimple u f st x).1 = true) : ∀ v ∈ x.outs, 0 ≤ v ∧ v < f.types.length := by
  unfold shSimple shSum shCall at h
  repeat' split at h
  all_goals first
    | exact shSets_in (andP_true h).2
    | cases h
theorem shEnd_outs {f : Fl} {st : List Int} {x : Nd} {w : Wh} (h : shEnd f st x w = true) : x.outs = [] := by
  unfold shEnd at h
  have key : ∀ b : Bool, ((x.outs.length : Int) == 0 && b) = true → x.outs = [] := fun b hb => by
    simp only [Bool.and_eq_true, beq_iff_eq] at hb
    exact List.eq_nil_of_length_eq_zero (by omega)
  repeat' split at h
  all_goals first
    | exact key _ h
    | (rw [Bool.and_assoc] at h; exact key _ h)
theorem shNode_outs {u : Un} {f : Fl} {deep : Int} {w : Wh} {st : List Int} {x : Nd} (h : (shNode u f deep w st x).1 = true) : ∀ v ∈ x.outs, 0 ≤ v ∧ v < f.types.length := by
  cases hb : r8bare x with
  | false => rw [shNode_bare _ _ _ _ _ hb] at h; cases h
  | true =>
    by_cases h10 : x.kind = 10
    · obtain ⟨a, b, hk⟩ := r8bare_if hb h10
      rw [shNode_if _ _ _ _ _ hb h10 hk] at h
      split at h
      · exact shTail_outs (andQ_true (andQ_true h).2).2
      cases h
    by_cases h11 : x.kind = 11
    · obtain ⟨a, hk⟩ := r8bare_loop hb h11
      rw [shNode_loop _ _ _ _ _ hb h11 hk] at h
      split at h
      · exact shTail_outs (andQ_true (andQ_true h).2).2
      cases h
    have e10 : (x.kind == 10) = false := by simpa using h10
    have e11 : (x.kind == 11) = false := by simpa using h11
    cases he : r8Ender x.kind with
    | true => rw [shNode_end _ _ _ _ _ hb e10 e11 he] at h; intro v hv; rw [shEnd_outs h] at hv; simp at hv
    | false => rw [shNode_simple _ _ _ _ _ hb e10 e11 he] at h; exact shSimple_outs h
theorem shGo_outs {u : Un} {f : Fl} {deep : Int} {w : Wh} : ∀ {l : List Nd} {st : List Int}, (shGo u f deep w st l).1 = true → ∀ x ∈ l, ∀ v ∈ x.outs, 0 ≤ v ∧ v < f.types.length
  | [], _, _, x, hx => by simp at hx
  | y :: r, st, h, x, hx => by
    unfold shGo at h
    split at h
    · cases h
    obtain ⟨h1, h2⟩ := andQ_true h
    split at h2
    · cases h2
    rcases List.mem_cons.1 hx with rfl | hx
    · exact shNode_outs h1
    exact shGo_outs h2 x hx
theorem ndW_mem : ∀ {l : List Nd} {x : Nd}, x ∈ l → ndW x ≤ lsW l
  | y :: r, x, h => by
    rcases List.mem_cons.1 h with rfl | h
    · simp only [lsW]; omega
    have := ndW_mem h; simp only [lsW]; omega
theorem kdW_mem : ∀ {ks : List (List Nd)} {q : List Nd}, q ∈ ks → lsW q ≤ kdW ks
  | y :: r, x, h => by
    rcases List.mem_cons.1 h with rfl | h
    · simp only [kdW]; omega
    have := kdW_mem h; simp only [kdW]; omega
set_option maxRecDepth 8000 in
set_option maxHeartbeats 2000000 in
theorem sc_shSimple (u : Un) (f : Fl) (st : List Int) (hs : st.length = f.types.length) (hg : ∀ g ∈ u.flows, 0 ≤ g.params ∧ g.params ≤ g.types.length) (x : Nd) : SC Tryz.prog 101 [.ptr 3 0, .pv (ndv x)] (ckS u f 3 st) (fun k => k = 3) (iBool (shSimple u f st x).1) (ckS u f 3 (shSimple u f st x).2) := by
  refine SC.of Tryz.func101 rfl (lb rfl) fun F ρ w => ?_
  refine Tr.seq <| Tr.region rfl <| WL.cons rfl rfl rfl ((ok_box rfl rfl)) <| cV rfl (oA rfl) <| WL.nil <| Tr.seq <| Tr.seq <| Tr.region rfl <| cV rfl (oFe rfl tF42_0) <| cV rfl (oLe Tryz.underlying3 rfl rfl) <| WL.nil <| Tr.block ?_
  refine Tr.seq <| Tr.region rfl <| cV rfl (oB rfl rfl rfl) <| cV rfl (oA rfl) <| WL.nil ?_
  refine Tr.cond rfl (fun hc9 => ?_) (fun hc9 => ?_)
  · refine Tr.seq <| Tr.region rfl <| cV rfl (oM rfl) <| cV rfl (oFe rfl tF42_4) <| cV rfl (oLe Tryz.underlying35 rfl rfl) <| WL.cons rfl rfl rfl (ok_callr (sc_shUses u f st hs x.args []) ent110 rfl rfl (Subs.same rfl (Subs.same rfl (Subs.cons (fun _ _ _ _ h => sub_nil h) Subs.nil))) (po2 rfl rfl) (by rfl) (fun k (h : _) => .inr trivial) rfl (by rfl)) <| cV rfl (oM rfl) ?_
    refine WL.split (t := 15) rfl (fun hb15 => ?_) (fun hb15 => ?_)
    · refine yV rfl rfl (oM rfl) <| yV rfl rfl (oFe rfl tF42_5) <| yV rfl rfl (oLe Tryz.underlying35 rfl rfl) <| WL.yes rfl rfl rfl rfl rfl rfl (ok_buildSlice rfl rfl Tryz.underlying35 tZ3 tS3 rfl rfl rfl rfl (firmB_ok rfl) rfl) <| WL.yes rfl rfl rfl rfl rfl rfl (ok_callr (sc_shSets u f st hs x.outs [1]) ent112 rfl rfl (Subs.refl _ _) (po2 rfl rfl) (by rfl) (fun k (h : _) => .inr h) rfl (by rfl)) <| cV rfl (oT rfl rfl) <| cV rfl (oA rfl) <| WL.nil <| Tr.ret ?_
      (have h2 : (shSimple u f st x).2 = (shSets f.types st x.outs [1]).2 := (by simp_all [shSimple, andP]; done)
       rw [h2]
       refine ret_ok rfl ?_ (po2 rfl rfl)
       clear h2
       skip
       simp_all [shSimple, andP]
       done)
    refine nV rfl rfl <| nV rfl rfl <| nV rfl rfl <| nV rfl rfl <| nV rfl rfl <| cV rfl (oF rfl rfl) <| cV rfl (oA rfl) <| WL.nil <| Tr.ret ?_
    (have h2 : (shSimple u f st x).2 = st := (by simp_all [shSimple, andP]; done)
     rw [h2]
     refine ret_ok rfl ?_ (po2 rfl rfl)
     clear h2
     skip
     simp_all [shSimple, andP]
     done)
  refine Tr.seq <| Tr.region rfl <| cV rfl (oB rfl rfl rfl) <| cV rfl (oA rfl) <| WL.nil ?_
  refine Tr.cond rfl (fun hc22 => ?_) (fun hc22 => ?_)
  · refine Tr.seq <| Tr.region rfl <| cV rfl (oFe rfl tF42_2) <| cV rfl (oLe Tryz.underlying3 rfl rfl) <| cV rfl (oB rfl rfl rfl) <| cV rfl (oM rfl) ?_
    refine WL.split (t := 27) rfl (fun hb27 => ?_) (fun hb27 => ?_)
    · refine nV rfl rfl <| nV rfl rfl <| nV rfl rfl <| cV rfl (oT rfl rfl) <| cV rfl (oM rfl) <| yV rfl rfl (oM rfl) <| yV rfl rfl (oFe rfl tF42_4) <| yV rfl rfl (oLe Tryz.underlying35 rfl rfl) <| WL.yes rfl rfl rfl rfl rfl rfl (ok_callr (sc_shUses u f st hs x.args []) ent110 rfl rfl (Subs.same rfl (Subs.same rfl (Subs.cons (fun _ _ _ _ h => sub_nil h) Subs.nil))) (po2 rfl rfl) (by rfl) (fun k (h : _) => .inr trivial) rfl (by rfl)) <| cV rfl (oT rfl rfl) <| cV rfl (oM rfl) ?_
      refine WL.split (t := 38) rfl (fun hb38 => ?_) (fun hb38 => ?_)
      · refine yV rfl rfl (oM rfl) <| yV rfl rfl (oFe rfl tF42_5) <| yV rfl rfl (oLe Tryz.underlying35 rfl rfl) <| WL.yes rfl rfl rfl rfl rfl rfl (ok_buildSlice rfl rfl Tryz.underlying35 tZ3 tS3 rfl rfl rfl rfl (firmB_ok rfl) rfl) <| WL.yes rfl rfl rfl rfl rfl rfl (ok_callr (sc_shSets u f st hs x.outs [2]) ent112 rfl rfl (Subs.refl _ _) (po2 rfl rfl) (by rfl) (fun k (h : _) => .inr h) rfl (by rfl)) <| cV rfl (oT rfl rfl) <| cV rfl (oA rfl) <| WL.nil <| Tr.ret ?_
        (have h2 : (shSimple u f st x).2 = (shSets f.types st x.outs [2]).2 := (by simp_all [shSimple, andP]; done)
         rw [h2]
         refine ret_ok rfl ?_ (po2 rfl rfl)
         clear h2
         skip
         simp_all [shSimple, andP]
         done)
      refine nV rfl rfl <| nV rfl rfl <| nV rfl rfl <| nV rfl rfl <| nV rfl rfl <| cV rfl (oF rfl rfl) <| cV rfl (oA rfl) <| WL.nil <| Tr.ret ?_
      (have h2 : (shSimple u f st x).2 = st := (by simp_all [shSimple, andP]; done)
       rw [h2]
       refine ret_ok rfl ?_ (po2 rfl rfl)
       clear h2
       skip
       simp_all [shSimple, andP]
       done)
    refine yV rfl rfl (oFe rfl tF42_2) <| yV rfl rfl (oLe Tryz.underlying3 rfl rfl) <| yV rfl rfl (oB rfl rfl rfl) <| cV rfl (oF rfl rfl) <| cV rfl (oM rfl) ?_
    refine WL.split (t := 32) rfl (fun hb32 => ?_) (fun hb32 => ?_)
    · refine yV rfl rfl (oM rfl) <| yV rfl rfl (oFe rfl tF42_4) <| yV rfl rfl (oLe Tryz.underlying35 rfl rfl) <| WL.yes rfl rfl rfl rfl rfl rfl (ok_callr (sc_shUses u f st hs x.args []) ent110 rfl rfl (Subs.same rfl (Subs.same rfl (Subs.cons (fun _ _ _ _ h => sub_nil h) Subs.nil))) (po2 rfl rfl) (by rfl) (fun k (h : _) => .inr trivial) rfl (by rfl)) <| cV rfl (oT rfl rfl) <| cV rfl (oM rfl) ?_
      refine WL.split (t := 38) rfl (fun hb38 => ?_) (fun hb38 => ?_)
      · refine yV rfl rfl (oM rfl) <| yV rfl rfl (oFe rfl tF42_5) <| yV rfl rfl (oLe Tryz.underlying35 rfl rfl) <| WL.yes rfl rfl rfl rfl rfl rfl (ok_buildSlice rfl rfl Tryz.underlying35 tZ3 tS3 rfl rfl rfl rfl (firmB_ok rfl) rfl) <| WL.yes rfl rfl rfl rfl rfl rfl (ok_callr (sc_shSets u f st hs x.outs [2]) ent112 rfl rfl (Subs.refl _ _) (po2 rfl rfl) (by rfl) (fun k (h : _) => .inr h) rfl (by rfl)) <| cV rfl (oT rfl rfl) <| cV rfl (oA rfl) <| WL.nil <| Tr.ret ?_
        (have h2 : (shSimple u f st x).2 = (shSets f.types st x.outs [2]).2 := (by simp_all [shSimple, andP]; done)
         rw [h2]
         refine ret_ok rfl ?_ (po2 rfl rfl)
         clear h2
         skip
         simp_all [shSimple, andP]
         done)
      refine nV rfl rfl <| nV rfl rfl <| nV rfl rfl <| nV rfl rfl <| nV rfl rfl <| cV rfl (oF rfl rfl) <| cV rfl (oA rfl) <| WL.nil <| Tr.ret ?_
      (have h2 : (shSimple u f st x).2 = st := (by simp_all [shSimple, andP]; done)
       rw [h2]
       refine ret_ok rfl ?_ (po2 rfl rfl)
       clear h2
       skip
       simp_all [shSimple, andP]
       done)
    refine nV rfl rfl <| nV rfl rfl <| nV rfl rfl <| nV rfl rfl <| cV rfl (oF rfl rfl) <| cV rfl (oM rfl) <| nV rfl rfl <| nV rfl rfl <| nV rfl rfl <| nV rfl rfl <| nV rfl rfl <| cV rfl (oF rfl rfl) ?_
    refine cV rfl (oA rfl) <| WL.nil <| Tr.ret ?_
    (have h2 : (shSimple u f st x).2 = st := (by simp_all [shSimple, andP]; done)
     rw [h2]
     refine ret_ok rfl ?_ (po2 rfl rfl)
     clear h2
     skip
     simp_all [shSimple, andP]
     done)
  refine Tr.seq <| Tr.seq <| Tr.region rfl <| cV rfl (oB rfl rfl rfl) <| cV rfl (oA rfl) <| WL.nil ?_
  refine Tr.cond rfl (fun hc45 => ?_) (fun hc45 => ?_)
  · refine Tr.skip ?_
    refine Tr.cond rfl (fun hc45 => ?_) (fun hc45 => ?_)
    · refine Tr.seq <| Tr.region rfl <| cV rfl (oM rfl) <| cV rfl (ok_load_ept_agg rfl rfl Tryz.underlying42 rfl tS42 (Nat.le_of_ble_eq_true rfl)) <| WL.cons rfl rfl rfl (ok_callr (sc_shSum u f st hs x) ent113 rfl rfl (Subs.refl _ _) (po2 rfl rfl) (by rfl) (fun k (h : _) => .inr h) rfl (by rfl)) <| cV rfl (oA rfl) <| WL.nil <| Tr.ret ?_
      have h2 : shSimple u f st x = shSum f st x := by simp_all [shSimple]
      rw [h2]
      exact ret_ok rfl rfl (po2 rfl rfl)
    refine Tr.seq <| Tr.region rfl <| cV rfl (oB rfl rfl rfl) <| cV rfl (oA rfl) <| WL.nil ?_
    refine Tr.cond rfl (fun hc51 => ?_) (fun hc51 => ?_)
    · refine Tr.seq <| Tr.drawn mixed (fun k => k ∈ ([3] : List Nat)) <| WA.run (fuel := 16) [0, 1, 2, 3, 4, 5] (by kernel_rfl) ((fun _ _ _ h => h)) (by kernel_rfl) <| rV rfl rfl (oM rfl) <| rV rfl rfl (ok_nilCheck rfl rfl rfl) <| rV rfl rfl (oFp rfl rfl tF97_0) <| rV rfl rfl (ok_load_box_pure rfl rfl rfl Tryz.underlying25 rfl tS25 (Nat.le_of_ble_eq_true rfl) rfl (by decide)) <| rV rfl rfl (oFe rfl tF42_3) <| rV rfl rfl (oLe Tryz.underlying9 rfl rfl) <| WR.nil <| WA.one (i := 6) (by kernel_rfl) <| WI.op rfl rfl rfl (by intro t h; cases h <;> rfl) (fun k (h : _) => by (simp at h ⊢; omega)) (fun _ h1 h2 => absurd h1 h2) (fun ρ w => ok_callq (sc_shHas _ _) ent114 rfl rfl (Subs.refl _ _) rfl) ?_
      refine WA.run (fuel := 11) [7, 8, 9, 10] (by kernel_rfl) ((fun _ _ _ h => h)) (by kernel_rfl) <| rV rfl rfl (oM rfl) ?_
      refine WR.split (t := 60) rfl (fun hb60 => ?_) (fun hb60 => ?_)
      · refine ryV rfl rfl rfl (oM rfl) <| ryV rfl rfl rfl (oFe rfl tF42_4) <| ryV rfl rfl rfl (oLe Tryz.underlying35 rfl rfl) <| WR.nil <| WA.one (i := 11) (by kernel_rfl) <| WI.opYes rfl rfl rfl rfl rfl rfl (by intro t h; cases h <;> rfl) (fun k (h : _) => by (simp at h ⊢; omega)) (fun _ h1 h2 => absurd h1 h2) (fun ρ w => ok_buildSlice rfl rfl Tryz.underlying35 tZ3 tS3 rfl rfl rfl rfl (firmB_ok rfl) rfl) <| WA.one (i := 12) (by kernel_rfl) <| WI.opYes rfl rfl rfl rfl rfl rfl (by intro t h; cases h <;> rfl) (fun k (h : _) => by (simp at h ⊢; omega)) (new_app rfl) (fun ρ w => ok_callr (sc_shUses u f st hs x.args [1]) ent110 rfl rfl (Subs.refl _ _) (po2 rfl rfl) (by rfl) (fun k (h : _) => .inr trivial) rfl (by rfl)) <| WA.run (fuel := 4) [13, 14, 15, 16, 17] (by kernel_rfl) ((fun _ _ _ h => h)) (by kernel_rfl) <| rV rfl rfl (oT rfl rfl) <| rV rfl rfl (oM rfl) ?_
        refine WR.split (t := 67) rfl (fun hb67 => ?_) (fun hb67 => ?_)
        · refine ryV rfl rfl rfl (oM rfl) <| ryV rfl rfl rfl (oFe rfl tF42_5) <| ryV rfl rfl rfl (oLe Tryz.underlying35 rfl rfl) <| WR.nil <| WA.one (i := 18) (by kernel_rfl) <| WI.opYes rfl rfl rfl rfl rfl rfl (by intro t h; cases h <;> rfl) (fun k (h : _) => by (simp at h ⊢; omega)) (fun _ h1 h2 => absurd h1 h2) (fun ρ w => ok_buildSlice rfl rfl Tryz.underlying35 tZ3 tS3 rfl rfl rfl rfl (firmB_ok rfl) rfl) <| WA.one (i := 19) (by kernel_rfl) <| WI.opYes rfl rfl rfl rfl rfl rfl (by intro t h; cases h <;> rfl) (fun k (h : _) => by (simp at h ⊢; omega)) (new_app rfl) (fun ρ w => ok_callr (sc_shSets u f st hs x.outs [1]) ent112 rfl rfl (Subs.refl _ _) (po2 rfl rfl) (by rfl) (fun k (h : _) => by (simp only [List.mem_cons, List.not_mem_nil, or_false] at h; rcases h with rfl <;> first | exact .inl rfl | exact .inr rfl | exact .inr (by decide))) rfl (by rfl)) <| WA.run (fuel := 0) [20, 21] (by kernel_rfl) ((fun _ _ _ h => h)) (by kernel_rfl) <| rV rfl rfl (oT rfl rfl) <| rV rfl rfl (oA rfl) <| WR.nil ?_
          refine WA.done (by kernel_rfl) <| Tr.ret ?_
          (have h2 : (shSimple u f st x).2 = (shSets f.types st x.outs [1]).2 := (by simp_all [shSimple, andP]; done)
           rw [h2]
           refine ret_ok rfl ?_ (po2 rfl rfl)
           clear h2
           skip
           simp_all [shSimple, andP]
           done)
        refine rnV rfl rfl rfl <| rnV rfl rfl rfl <| rnV rfl rfl rfl <| WR.nil <| WA.takeNo (i := 18) (b := false) rfl (by kernel_rfl) (by kernel_rfl) (by kernel_rfl) ((fun _ _ _ h => h)) rfl rfl rfl rfl rfl rfl <| WA.takeNo (i := 19) (b := false) rfl (by kernel_rfl) (by kernel_rfl) (by kernel_rfl) ((fun _ _ _ h => h)) rfl rfl rfl rfl rfl rfl <| WA.run (fuel := 0) [20, 21] (by kernel_rfl) ((fun _ _ _ h => h)) (by kernel_rfl) <| rV rfl rfl (oF rfl rfl) <| rV rfl rfl (oA rfl) <| WR.nil <| WA.done (by kernel_rfl) <| Tr.ret ?_
        (have h2 : (shSimple u f st x).2 = st := (by simp_all [shSimple, andP]; done)
         rw [h2]
         refine ret_ok rfl ?_ (po2 rfl rfl)
         clear h2
         skip
         simp_all [shSimple, andP]
         done)
      refine rnV rfl rfl rfl <| rnV rfl rfl rfl <| rnV rfl rfl rfl <| WR.nil <| WA.takeNo (i := 11) (b := false) rfl (by kernel_rfl) (by kernel_rfl) (by kernel_rfl) ((fun _ _ _ h => h)) rfl rfl rfl rfl rfl rfl <| WA.takeNo (i := 12) (b := false) rfl (by kernel_rfl) (by kernel_rfl) (by kernel_rfl) ((fun _ _ _ h => h)) rfl rfl rfl rfl rfl rfl <| WA.run (fuel := 4) [13, 14, 15, 16, 17] (by kernel_rfl) ((fun _ _ _ h => h)) (by kernel_rfl) <| rV rfl rfl (oF rfl rfl) <| rV rfl rfl (oM rfl) <| rnV rfl rfl rfl <| rnV rfl rfl rfl <| rnV rfl rfl rfl ?_
      refine WR.nil <| WA.takeNo (i := 18) (b := false) rfl (by kernel_rfl) (by kernel_rfl) (by kernel_rfl) ((fun _ _ _ h => h)) rfl rfl rfl rfl rfl rfl <| WA.takeNo (i := 19) (b := false) rfl (by kernel_rfl) (by kernel_rfl) (by kernel_rfl) ((fun _ _ _ h => h)) rfl rfl rfl rfl rfl rfl <| WA.run (fuel := 0) [20, 21] (by kernel_rfl) ((fun _ _ _ h => h)) (by kernel_rfl) <| rV rfl rfl (oF rfl rfl) <| rV rfl rfl (oA rfl) <| WR.nil <| WA.done (by kernel_rfl) <| Tr.ret ?_
      (have h2 : (shSimple u f st x).2 = st := (by simp_all [shSimple, andP]; done)
       rw [h2]
       refine ret_ok rfl ?_ (po2 rfl rfl)
       clear h2
       skip
       simp_all [shSimple, andP]
       done)
    refine Tr.seq <| Tr.region rfl <| cV rfl (oB rfl rfl rfl) <| cV rfl (oA rfl) <| WL.nil ?_
    refine Tr.cond rfl (fun hc74 => ?_) (fun hc74 => ?_)
    · refine Tr.seq <| Tr.drawn mixed (fun k => k ∈ ([3] : List Nat)) <| WA.run (fuel := 15) [0, 1, 2, 3, 4, 5] (by kernel_rfl) ((fun _ _ _ h => h)) (by kernel_rfl) <| rV rfl rfl (oM rfl) <| rV rfl rfl (ok_nilCheck rfl rfl rfl) <| rV rfl rfl (oFp rfl rfl tF97_0) <| rV rfl rfl (ok_load_box_pure rfl rfl rfl Tryz.underlying25 rfl tS25 (Nat.le_of_ble_eq_true rfl) rfl (by decide)) <| rV rfl rfl (oFe rfl tF42_3) <| rV rfl rfl (oLe Tryz.underlying9 rfl rfl) <| WR.nil <| WA.one (i := 6) (by kernel_rfl) <| WI.op rfl rfl rfl (by intro t h; cases h <;> rfl) (fun k (h : _) => by (simp at h ⊢; omega)) (fun _ h1 h2 => absurd h1 h2) (fun ρ w => ok_callq (sc_shHas _ _) ent114 rfl rfl (Subs.refl _ _) rfl) ?_
      refine WA.run (fuel := 10) [7, 8, 9, 10] (by kernel_rfl) ((fun _ _ _ h => h)) (by kernel_rfl) <| rV rfl rfl (oM rfl) ?_
      refine WR.split (t := 83) rfl (fun hb83 => ?_) (fun hb83 => ?_)
      · refine ryV rfl rfl rfl (oM rfl) <| ryV rfl rfl rfl (oFe rfl tF42_4) <| ryV rfl rfl rfl (oLe Tryz.underlying35 rfl rfl) <| WR.nil <| WA.one (i := 11) (by kernel_rfl) <| WI.opYes rfl rfl rfl rfl rfl rfl (by intro t h; cases h <;> rfl) (fun k (h : _) => by (simp at h ⊢; omega)) (fun _ h1 h2 => absurd h1 h2) (fun ρ w => ok_buildSlice rfl rfl Tryz.underlying35 tZ3 tS3 rfl rfl rfl rfl (firmB_ok rfl) rfl) <| WA.one (i := 12) (by kernel_rfl) <| WI.opYes rfl rfl rfl rfl rfl rfl (by intro t h; cases h <;> rfl) (fun k (h : _) => by (simp at h ⊢; omega)) (new_app rfl) (fun ρ w => ok_callr (sc_shUses u f st hs x.args [1, 1]) ent110 rfl rfl (Subs.refl _ _) (po2 rfl rfl) (by rfl) (fun k (h : _) => .inr trivial) rfl (by rfl)) <| WA.run (fuel := 3) [13, 14, 15, 16, 17] (by kernel_rfl) ((fun _ _ _ h => h)) (by kernel_rfl) <| rV rfl rfl (oT rfl rfl) <| rV rfl rfl (oM rfl) ?_
        refine WR.split (t := 90) rfl (fun hb90 => ?_) (fun hb90 => ?_)
        · refine ryV rfl rfl rfl (oM rfl) <| ryV rfl rfl rfl (oFe rfl tF42_5) <| ryV rfl rfl rfl (oLe Tryz.underlying35 rfl rfl) <| WR.nil <| WA.one (i := 18) (by kernel_rfl) <| WI.opYes rfl rfl rfl rfl rfl rfl (by intro t h; cases h <;> rfl) (fun k (h : _) => by (simp at h ⊢; omega)) (new_app rfl) (fun ρ w => ok_callr (sc_shSets u f st hs x.outs []) ent112 rfl rfl (Subs.same rfl (Subs.same rfl (Subs.cons (fun _ _ _ _ h => sub_nil h) Subs.nil))) (po2 rfl rfl) (by rfl) (fun k (h : _) => by (simp only [List.mem_cons, List.not_mem_nil, or_false] at h; rcases h with rfl <;> first | exact .inl rfl | exact .inr rfl | exact .inr (by decide))) rfl (by rfl)) <| WA.run (fuel := 0) [19, 20] (by kernel_rfl) ((fun _ _ _ h => h)) (by kernel_rfl) <| rV rfl rfl (oT rfl rfl) <| rV rfl rfl (oA rfl) <| WR.nil <| WA.done (by kernel_rfl) <| Tr.ret ?_
          (have h2 : (shSimple u f st x).2 = (shSets f.types st x.outs []).2 := (by simp_all [shSimple, andP]; done)
           rw [h2]
           refine ret_ok rfl ?_ (po2 rfl rfl)
           clear h2
           skip
           simp_all [shSimple, andP]
           done)
        refine rnV rfl rfl rfl <| rnV rfl rfl rfl <| rnV rfl rfl rfl <| WR.nil <| WA.takeNo (i := 18) (b := false) rfl (by kernel_rfl) (by kernel_rfl) (by kernel_rfl) ((fun _ _ _ h => h)) rfl rfl rfl rfl rfl rfl <| WA.run (fuel := 0) [19, 20] (by kernel_rfl) ((fun _ _ _ h => h)) (by kernel_rfl) <| rV rfl rfl (oF rfl rfl) <| rV rfl rfl (oA rfl) <| WR.nil <| WA.done (by kernel_rfl) <| Tr.ret ?_
        (have h2 : (shSimple u f st x).2 = st := (by simp_all [shSimple, andP]; done)
         rw [h2]
         refine ret_ok rfl ?_ (po2 rfl rfl)
         clear h2
         skip
         simp_all [shSimple, andP]
         done)
      refine rnV rfl rfl rfl <| rnV rfl rfl rfl <| rnV rfl rfl rfl <| WR.nil <| WA.takeNo (i := 11) (b := false) rfl (by kernel_rfl) (by kernel_rfl) (by kernel_rfl) ((fun _ _ _ h => h)) rfl rfl rfl rfl rfl rfl <| WA.takeNo (i := 12) (b := false) rfl (by kernel_rfl) (by kernel_rfl) (by kernel_rfl) ((fun _ _ _ h => h)) rfl rfl rfl rfl rfl rfl <| WA.run (fuel := 3) [13, 14, 15, 16, 17] (by kernel_rfl) ((fun _ _ _ h => h)) (by kernel_rfl) <| rV rfl rfl (oF rfl rfl) <| rV rfl rfl (oM rfl) <| rnV rfl rfl rfl <| rnV rfl rfl rfl <| rnV rfl rfl rfl ?_
      refine WR.nil <| WA.takeNo (i := 18) (b := false) rfl (by kernel_rfl) (by kernel_rfl) (by kernel_rfl) ((fun _ _ _ h => h)) rfl rfl rfl rfl rfl rfl <| WA.run (fuel := 0) [19, 20] (by kernel_rfl) ((fun _ _ _ h => h)) (by kernel_rfl) <| rV rfl rfl (oF rfl rfl) <| rV rfl rfl (oA rfl) <| WR.nil <| WA.done (by kernel_rfl) <| Tr.ret ?_
      (have h2 : (shSimple u f st x).2 = st := (by simp_all [shSimple, andP]; done)
       rw [h2]
       refine ret_ok rfl ?_ (po2 rfl rfl)
       clear h2
       skip
       simp_all [shSimple, andP]
       done)
    refine Tr.seq <| Tr.region rfl <| cV rfl (oB rfl rfl rfl) <| cV rfl (oA rfl) <| WL.nil ?_
    refine Tr.cond rfl (fun hc96 => ?_) (fun hc96 => ?_)
    · refine Tr.seq <| Tr.region rfl <| cV rfl (oM rfl) <| cV rfl (oFe rfl tF42_4) <| cV rfl (oLe Tryz.underlying35 rfl rfl) <| WL.cons rfl rfl rfl (ok_callr (sc_shUses u f st hs x.args []) ent110 rfl rfl (Subs.same rfl (Subs.same rfl (Subs.cons (fun _ _ _ _ h => sub_nil h) Subs.nil))) (po2 rfl rfl) (by rfl) (fun k (h : _) => .inr trivial) rfl (by rfl)) <| cV rfl (oM rfl) ?_
      refine WL.split (t := 102) rfl (fun hb102 => ?_) (fun hb102 => ?_)
      · refine yV rfl rfl (oM rfl) <| yV rfl rfl (oFe rfl tF42_5) <| yV rfl rfl (oLe Tryz.underlying35 rfl rfl) <| WL.yes rfl rfl rfl rfl rfl rfl (ok_buildSlice rfl rfl Tryz.underlying35 tZ3 tS3 rfl rfl rfl rfl (firmB_ok rfl) rfl) <| WL.yes rfl rfl rfl rfl rfl rfl (ok_callr (sc_shSets u f st hs x.outs [1]) ent112 rfl rfl (Subs.refl _ _) (po2 rfl rfl) (by rfl) (fun k (h : _) => .inr h) rfl (by rfl)) <| cV rfl (oT rfl rfl) <| cV rfl (oA rfl) <| WL.nil <| Tr.ret ?_
        (have h2 : (shSimple u f st x).2 = (shSets f.types st x.outs [1]).2 := (by simp_all [shSimple, andP]; done)
         rw [h2]
         refine ret_ok rfl ?_ (po2 rfl rfl)
         clear h2
         skip
         simp_all [shSimple, andP]
         done)
      refine nV rfl rfl <| nV rfl rfl <| nV rfl rfl <| nV rfl rfl <| nV rfl rfl <| cV rfl (oF rfl rfl) <| cV rfl (oA rfl) <| WL.nil <| Tr.ret ?_
      (have h2 : (shSimple u f st x).2 = st := (by simp_all [shSimple, andP]; done)
       rw [h2]
       refine ret_ok rfl ?_ (po2 rfl rfl)
       clear h2
       skip
       simp_all [shSimple, andP]
       done)
    refine Tr.seq <| Tr.region rfl <| cV rfl (oB rfl rfl rfl) <| cV rfl (oA rfl) <| WL.nil ?_
    refine Tr.cond rfl (fun hc109 => ?_) (fun hc109 => ?_)
    · refine Tr.seq <| Tr.region rfl <| cV rfl (oM rfl) <| cV rfl (oFe rfl tF42_4) <| cV rfl (oLe Tryz.underlying35 rfl rfl) <| WL.cons rfl rfl rfl (ok_buildSlice rfl rfl Tryz.underlying35 tZ3 tS3 rfl rfl rfl rfl (firmB_ok rfl) rfl) <| WL.cons rfl rfl rfl (ok_callr (sc_shUses u f st hs x.args [1]) ent110 rfl rfl (Subs.refl _ _) (po2 rfl rfl) (by rfl) (fun k (h : _) => .inr trivial) rfl (by rfl)) <| cV rfl (oM rfl) ?_
      refine WL.split (t := 116) rfl (fun hb116 => ?_) (fun hb116 => ?_)
      · refine yV rfl rfl (oM rfl) <| yV rfl rfl (oFe rfl tF42_5) <| yV rfl rfl (oLe Tryz.underlying35 rfl rfl) <| WL.yes rfl rfl rfl rfl rfl rfl (ok_callr (sc_shSets u f st hs x.outs []) ent112 rfl rfl (Subs.same rfl (Subs.same rfl (Subs.cons (fun _ _ _ _ h => sub_nil h) Subs.nil))) (po2 rfl rfl) (by rfl) (fun k (h : _) => .inr h) rfl (by rfl)) <| cV rfl (oT rfl rfl) <| cV rfl (oA rfl) <| WL.nil <| Tr.ret ?_
        (have h2 : (shSimple u f st x).2 = (shSets f.types st x.outs []).2 := (by simp_all [shSimple, andP]; done)
         rw [h2]
         refine ret_ok rfl ?_ (po2 rfl rfl)
         clear h2
         skip
         simp_all [shSimple, andP]
         done)
      refine nV rfl rfl <| nV rfl rfl <| nV rfl rfl <| nV rfl rfl <| cV rfl (oF rfl rfl) <| cV rfl (oA rfl) <| WL.nil <| Tr.ret ?_
      (have h2 : (shSimple u f st x).2 = st := (by simp_all [shSimple, andP]; done)
       rw [h2]
       refine ret_ok rfl ?_ (po2 rfl rfl)
       clear h2
       skip
       simp_all [shSimple, andP]
       done)
    refine Tr.seq <| Tr.region rfl <| cV rfl (oB rfl rfl rfl) <| cV rfl (oA rfl) <| WL.nil ?_
    refine Tr.cond rfl (fun hc122 => ?_) (fun hc122 => ?_)
    · refine Tr.seq <| Tr.drawn mixed (fun k => k ∈ ([3] : List Nat)) <| WA.run (fuel := 2) [0, 1, 2, 3, 4, 5] (by kernel_rfl) ((fun _ _ _ h => h)) (by kernel_rfl) <| rV rfl rfl (oM rfl) <| rV rfl rfl (ok_nilCheck rfl rfl rfl) <| rV rfl rfl (oFp rfl rfl tF97_0) <| rV rfl rfl (ok_load_box_pure rfl rfl rfl Tryz.underlying25 rfl tS25 (Nat.le_of_ble_eq_true rfl) rfl (by decide)) <| rV rfl rfl (oFe rfl tF42_3) <| rV rfl rfl (oLe Tryz.underlying9 rfl rfl) <| WR.nil <| WA.one (i := 6) (by kernel_rfl) <| WI.op rfl rfl rfl (by intro t h; cases h <;> rfl) (fun k (h : _) => by (simp at h ⊢; omega)) (fun _ h1 h2 => absurd h1 h2) (fun ρ w => ok_callq (sc_shPlace _ _) ent57 rfl rfl (Subs.refl _ _) rfl) ?_
      refine WA.run (fuel := 0) [7] (by kernel_rfl) ((fun _ _ _ h => h)) (by kernel_rfl) <| rV rfl rfl (oA rfl) <| WR.nil <| WA.done (by kernel_rfl) <| Tr.seq <| Tr.seq <| Tr.region rfl <| cV rfl (oM rfl) <| cV rfl (oB rfl rfl rfl) <| WL.nil ?_
      refine Tr.cond rfl (fun hc132 => ?_) (fun hc132 => ?_)
      · refine Tr.seq <| Tr.region rfl <| cV rfl (oA rfl) <| WL.nil <| Tr.ret ?_
        (have h2 : (shSimple u f st x).2 = st := (by simp_all [shSimple, shCall, andP]; done)
         rw [h2]
         refine ret_ok rfl ?_ (po2 rfl rfl)
         clear h2
         skip
         simp_all [shSimple, shCall, andP]
         done)
      have hk0 : r8Place x.name u.flows 0 ≥ 0 := by simp at hc132; omega
      obtain ⟨g, hgk, _⟩ := r8Place_at hk0
      obtain ⟨hgp0, hgpl⟩ := hg g (List.mem_of_getElem? hgk)
      have hgp : g.params = (g.params.toNat : Int) := by omega
      have hgi : (u.flows.map Fl.enc)[(r8Place x.name u.flows 0).toNat]? = some (Fl.enc g) := by rw [List.getElem?_map, hgk]; rfl
      have hkn : r8Place x.name u.flows 0 = ((r8Place x.name u.flows 0).toNat : Int) := by omega
      have hnl : ¬ r8Place x.name u.flows 0 < 0 := by omega
      have hcall : shCall u f st x = andP (shUses f.types st x.args (g.types.take g.params.toNat)) st (shSets f.types st x.outs [g.ty]) := by
        unfold shCall
        rw [if_neg hnl, hgk]
      refine Tr.skip <| Tr.seq <| Tr.region rfl <| cV rfl (oM rfl) <| cV rfl (ok_nilCheck rfl rfl rfl) <| cV rfl (oFp rfl rfl tF97_0) <| cV rfl (oFp rfl rfl tF25_1) <| cV rfl (oLb Tryz.underlying23 rfl rfl rfl trivial) <| cV rfl (oM rfl) <| cV rfl (ok_index_seq rfl rfl rfl Tryz.underlying23 hgi tS51 rfl (by omega)) <| cV rfl (ok_load_ept_agg rfl rfl Tryz.underlying51 rfl tS51 (Nat.le_of_ble_eq_true rfl)) <| WL.cons rfl rfl rfl (ok_alloc (k := 106) rfl tZ51 rfl rfl rfl rfl) ?_
      refine WL.cons0 rfl rfl (ok_store_box_agg rfl rfl rfl rfl rfl (by simp) tS51 (firmL_ok rfl) (lb rfl)) ?_
      refine WL.nil <| Tr.seq <| Tr.freezeBox (t := 6) (k := 106) rfl rfl rfl ?_
      refine Tr.heap (σ' := look (up (ckS u f 3 st))) (fun k => by
        simp only [look]
        by_cases h : 106 = k
        · subst h; rfl
        · simp [beq_ne h]) ?_
      refine Tr.drawn mixed (fun k => k ∈ ([3] : List Nat)) <| WA.run (fuel := 11) [0, 1, 2, 3, 4, 5, 6, 7] (by kernel_rfl) ((fun _ _ _ h => h)) (by kernel_rfl) <| rV rfl rfl (oM rfl) <| rV rfl rfl (oFe rfl tF42_4) <| rV rfl rfl (oLe Tryz.underlying35 rfl rfl) <| rV rfl rfl (oFe rfl tF51_3) <| rV rfl rfl (oLe Tryz.underlying35 rfl rfl) <| rV rfl rfl (oFe rfl tF51_2) <| rV rfl rfl (oLe Tryz.underlying3 rfl rfl) ?_
      refine rV rfl rfl (ok_slice_seq (j := g.params.toNat) rfl rfl Tryz.underlying35 tS3 (.inl ⟨rfl, rfl⟩) (.inr ⟨_, _, rfl, congrArg (fun z => some (IV.pv (.val (.int .i64 z)))) hgp⟩) (Nat.zero_le _) (by simp; omega) (by simp [eInt])) ?_
      refine WR.nil <| WA.one (i := 8) (by kernel_rfl) ?_
      refine WI.op rfl rfl rfl (by intro t h; cases h <;> rfl) (fun k (h : _) => by (simp at h ⊢; omega)) (new_app rfl) (fun ρ w => ok_callr (sc_shUses u f st hs x.args (g.types.take g.params.toNat)) ent110 rfl rfl (Subs.same rfl (Subs.same rfl (Subs.same (by simp [ints, List.map_take]) Subs.nil))) (po2 rfl rfl) (by rfl) (fun k (h : _) => .inr trivial) rfl (by rfl)) ?_
      refine WA.run (fuel := 4) [9, 10, 11, 12, 13, 14] (by kernel_rfl) ((fun _ _ _ h => h)) (by kernel_rfl) <| rV rfl rfl (oM rfl) ?_
      refine WR.split (t := 150) rfl (fun hb150 => ?_) (fun hb150 => ?_)
      · refine ryV rfl rfl rfl (oM rfl) <| ryV rfl rfl rfl (oFe rfl tF42_5) <| ryV rfl rfl rfl (oLe Tryz.underlying35 rfl rfl) <| ryV rfl rfl rfl (oFe rfl tF51_1) <| ryV rfl rfl rfl (oLe Tryz.underlying3 rfl rfl) <| WR.nil <| WA.one (i := 15) (by kernel_rfl) <| WI.opYes rfl rfl rfl rfl rfl rfl (by intro t h; cases h <;> rfl) (fun k (h : _) => by (simp at h ⊢; omega)) (fun _ h1 h2 => absurd h1 h2) (fun ρ w => ok_buildSlice rfl rfl Tryz.underlying35 tZ3 tS3 rfl rfl rfl rfl (firmB_ok rfl) rfl) <| WA.one (i := 16) (by kernel_rfl) <| WI.opYes rfl rfl rfl rfl rfl rfl (by intro t h; cases h <;> rfl) (fun k (h : _) => by (simp at h ⊢; omega)) (new_app rfl) (fun ρ w => ok_callr (sc_shSets u f st hs x.outs [g.ty]) ent112 rfl rfl (Subs.refl _ _) (po2 rfl rfl) (by rfl) (fun k (h : _) => by (simp only [List.mem_cons, List.not_mem_nil, or_false] at h; rcases h with rfl <;> first | exact .inl rfl | exact .inr rfl | exact .inr (by decide))) rfl (by rfl)) <| WA.run (fuel := 0) [17, 18] (by kernel_rfl) ((fun _ _ _ h => h)) (by kernel_rfl) <| rV rfl rfl (oT rfl rfl) ?_
        refine rV rfl rfl (oA rfl) <| WR.nil <| WA.done (by kernel_rfl) <| Tr.ret ?_
        have hsim : shSimple u f st x = shCall u f st x := by
          clear hkn hgp hcall hnl
          simp_all [shSimple]
        rw [hsim, hcall]
        clear hsim hcall
        (have h2 : (andP (shUses f.types st x.args (g.types.take g.params.toNat)) st (shSets f.types st x.outs [g.ty])).2 = (shSets f.types st x.outs [g.ty]).2 := (by (try (clear hkn hgp)); simp_all [andP, andP]; done)
         rw [h2]
         refine ret_ok rfl ?_ (po2 rfl rfl)
         clear h2
         try (clear hkn hgp)
         simp_all [andP, andP]
         done)
      refine rnV rfl rfl rfl <| rnV rfl rfl rfl <| rnV rfl rfl rfl <| rnV rfl rfl rfl <| rnV rfl rfl rfl <| WR.nil <| WA.takeNo (i := 15) (b := false) rfl (by kernel_rfl) (by kernel_rfl) (by kernel_rfl) ((fun _ _ _ h => h)) rfl rfl rfl rfl rfl rfl <| WA.takeNo (i := 16) (b := false) rfl (by kernel_rfl) (by kernel_rfl) (by kernel_rfl) ((fun _ _ _ h => h)) rfl rfl rfl rfl rfl rfl <| WA.run (fuel := 0) [17, 18] (by kernel_rfl) ((fun _ _ _ h => h)) (by kernel_rfl) <| rV rfl rfl (oF rfl rfl) <| rV rfl rfl (oA rfl) <| WR.nil ?_
      refine WA.done (by kernel_rfl) <| Tr.ret ?_
      have hsim : shSimple u f st x = shCall u f st x := by
        clear hkn hgp hcall hnl
        simp_all [shSimple]
      rw [hsim, hcall]
      clear hsim hcall
      (have h2 : (andP (shUses f.types st x.args (g.types.take g.params.toNat)) st (shSets f.types st x.outs [g.ty])).2 = st := (by (try (clear hkn hgp)); simp_all [andP, andP]; done)
       rw [h2]
       refine ret_ok rfl ?_ (po2 rfl rfl)
       clear h2
       try (clear hkn hgp)
       simp_all [andP, andP]
       done)
    refine Tr.skip <| Tr.seq <| Tr.region rfl <| cV rfl (oA rfl) <| WL.nil <| Tr.ret ?_
    (have h2 : (shSimple u f st x).2 = st := (by simp_all [shSimple, andP]; done)
     rw [h2]
     refine ret_ok rfl ?_ (po2 rfl rfl)
     clear h2
     skip
     simp_all [shSimple, andP]
     done)
  refine Tr.region rfl <| cV rfl (oB rfl rfl rfl) <| cV rfl (oA rfl) <| WL.nil ?_
  refine Tr.cond rfl (fun hc45 => ?_) (fun hc45 => ?_)
  · refine Tr.seq <| Tr.region rfl <| cV rfl (oM rfl) <| cV rfl (ok_load_ept_agg rfl rfl Tryz.underlying42 rfl tS42 (Nat.le_of_ble_eq_true rfl)) <| WL.cons rfl rfl rfl (ok_callr (sc_shSum u f st hs x) ent113 rfl rfl (Subs.refl _ _) (po2 rfl rfl) (by rfl) (fun k (h : _) => .inr h) rfl (by rfl)) <| cV rfl (oA rfl) <| WL.nil <| Tr.ret ?_
    have h2 : shSimple u f st x = shSum f st x := by simp_all [shSimple]
    rw [h2]
    exact ret_ok rfl rfl (po2 rfl rfl)
  refine Tr.seq <| Tr.region rfl <| cV rfl (oB rfl rfl rfl) <| cV rfl (oA rfl) <| WL.nil ?_
  refine Tr.cond rfl (fun hc51 => ?_) (fun hc51 => ?_)
  · refine Tr.seq <| Tr.drawn mixed (fun k => k ∈ ([3] : List Nat)) <| WA.run (fuel := 16) [0, 1, 2, 3, 4, 5] (by kernel_rfl) ((fun _ _ _ h => h)) (by kernel_rfl) <| rV rfl rfl (oM rfl) <| rV rfl rfl (ok_nilCheck rfl rfl rfl) <| rV rfl rfl (oFp rfl rfl tF97_0) <| rV rfl rfl (ok_load_box_pure rfl rfl rfl Tryz.underlying25 rfl tS25 (Nat.le_of_ble_eq_true rfl) rfl (by decide)) <| rV rfl rfl (oFe rfl tF42_3) <| rV rfl rfl (oLe Tryz.underlying9 rfl rfl) <| WR.nil <| WA.one (i := 6) (by kernel_rfl) <| WI.op rfl rfl rfl (by intro t h; cases h <;> rfl) (fun k (h : _) => by (simp at h ⊢; omega)) (fun _ h1 h2 => absurd h1 h2) (fun ρ w => ok_callq (sc_shHas _ _) ent114 rfl rfl (Subs.refl _ _) rfl) ?_
    refine WA.run (fuel := 11) [7, 8, 9, 10] (by kernel_rfl) ((fun _ _ _ h => h)) (by kernel_rfl) <| rV rfl rfl (oM rfl) ?_
    refine WR.split (t := 60) rfl (fun hb60 => ?_) (fun hb60 => ?_)
    · refine ryV rfl rfl rfl (oM rfl) <| ryV rfl rfl rfl (oFe rfl tF42_4) <| ryV rfl rfl rfl (oLe Tryz.underlying35 rfl rfl) <| WR.nil <| WA.one (i := 11) (by kernel_rfl) <| WI.opYes rfl rfl rfl rfl rfl rfl (by intro t h; cases h <;> rfl) (fun k (h : _) => by (simp at h ⊢; omega)) (fun _ h1 h2 => absurd h1 h2) (fun ρ w => ok_buildSlice rfl rfl Tryz.underlying35 tZ3 tS3 rfl rfl rfl rfl (firmB_ok rfl) rfl) <| WA.one (i := 12) (by kernel_rfl) <| WI.opYes rfl rfl rfl rfl rfl rfl (by intro t h; cases h <;> rfl) (fun k (h : _) => by (simp at h ⊢; omega)) (new_app rfl) (fun ρ w => ok_callr (sc_shUses u f st hs x.args [1]) ent110 rfl rfl (Subs.refl _ _) (po2 rfl rfl) (by rfl) (fun k (h : _) => .inr trivial) rfl (by rfl)) <| WA.run (fuel := 4) [13, 14, 15, 16, 17] (by kernel_rfl) ((fun _ _ _ h => h)) (by kernel_rfl) <| rV rfl rfl (oT rfl rfl) <| rV rfl rfl (oM rfl) ?_
      refine WR.split (t := 67) rfl (fun hb67 => ?_) (fun hb67 => ?_)
      · refine ryV rfl rfl rfl (oM rfl) <| ryV rfl rfl rfl (oFe rfl tF42_5) <| ryV rfl rfl rfl (oLe Tryz.underlying35 rfl rfl) <| WR.nil <| WA.one (i := 18) (by kernel_rfl) <| WI.opYes rfl rfl rfl rfl rfl rfl (by intro t h; cases h <;> rfl) (fun k (h : _) => by (simp at h ⊢; omega)) (fun _ h1 h2 => absurd h1 h2) (fun ρ w => ok_buildSlice rfl rfl Tryz.underlying35 tZ3 tS3 rfl rfl rfl rfl (firmB_ok rfl) rfl) <| WA.one (i := 19) (by kernel_rfl) <| WI.opYes rfl rfl rfl rfl rfl rfl (by intro t h; cases h <;> rfl) (fun k (h : _) => by (simp at h ⊢; omega)) (new_app rfl) (fun ρ w => ok_callr (sc_shSets u f st hs x.outs [1]) ent112 rfl rfl (Subs.refl _ _) (po2 rfl rfl) (by rfl) (fun k (h : _) => by (simp only [List.mem_cons, List.not_mem_nil, or_false] at h; rcases h with rfl <;> first | exact .inl rfl | exact .inr rfl | exact .inr (by decide))) rfl (by rfl)) <| WA.run (fuel := 0) [20, 21] (by kernel_rfl) ((fun _ _ _ h => h)) (by kernel_rfl) <| rV rfl rfl (oT rfl rfl) <| rV rfl rfl (oA rfl) <| WR.nil ?_
        refine WA.done (by kernel_rfl) <| Tr.ret ?_
        (have h2 : (shSimple u f st x).2 = (shSets f.types st x.outs [1]).2 := (by simp_all [shSimple, andP]; done)
         rw [h2]
         refine ret_ok rfl ?_ (po2 rfl rfl)
         clear h2
         skip
         simp_all [shSimple, andP]
         done)
      refine rnV rfl rfl rfl <| rnV rfl rfl rfl <| rnV rfl rfl rfl <| WR.nil <| WA.takeNo (i := 18) (b := false) rfl (by kernel_rfl) (by kernel_rfl) (by kernel_rfl) ((fun _ _ _ h => h)) rfl rfl rfl rfl rfl rfl <| WA.takeNo (i := 19) (b := false) rfl (by kernel_rfl) (by kernel_rfl) (by kernel_rfl) ((fun _ _ _ h => h)) rfl rfl rfl rfl rfl rfl <| WA.run (fuel := 0) [20, 21] (by kernel_rfl) ((fun _ _ _ h => h)) (by kernel_rfl) <| rV rfl rfl (oF rfl rfl) <| rV rfl rfl (oA rfl) <| WR.nil <| WA.done (by kernel_rfl) <| Tr.ret ?_
      (have h2 : (shSimple u f st x).2 = st := (by simp_all [shSimple, andP]; done)
       rw [h2]
       refine ret_ok rfl ?_ (po2 rfl rfl)
       clear h2
       skip
       simp_all [shSimple, andP]
       done)
    refine rnV rfl rfl rfl <| rnV rfl rfl rfl <| rnV rfl rfl rfl <| WR.nil <| WA.takeNo (i := 11) (b := false) rfl (by kernel_rfl) (by kernel_rfl) (by kernel_rfl) ((fun _ _ _ h => h)) rfl rfl rfl rfl rfl rfl <| WA.takeNo (i := 12) (b := false) rfl (by kernel_rfl) (by kernel_rfl) (by kernel_rfl) ((fun _ _ _ h => h)) rfl rfl rfl rfl rfl rfl <| WA.run (fuel := 4) [13, 14, 15, 16, 17] (by kernel_rfl) ((fun _ _ _ h => h)) (by kernel_rfl) <| rV rfl rfl (oF rfl rfl) <| rV rfl rfl (oM rfl) <| rnV rfl rfl rfl <| rnV rfl rfl rfl <| rnV rfl rfl rfl ?_
    refine WR.nil <| WA.takeNo (i := 18) (b := false) rfl (by kernel_rfl) (by kernel_rfl) (by kernel_rfl) ((fun _ _ _ h => h)) rfl rfl rfl rfl rfl rfl <| WA.takeNo (i := 19) (b := false) rfl (by kernel_rfl) (by kernel_rfl) (by kernel_rfl) ((fun _ _ _ h => h)) rfl rfl rfl rfl rfl rfl <| WA.run (fuel := 0) [20, 21] (by kernel_rfl) ((fun _ _ _ h => h)) (by kernel_rfl) <| rV rfl rfl (oF rfl rfl) <| rV rfl rfl (oA rfl) <| WR.nil <| WA.done (by kernel_rfl) <| Tr.ret ?_
    (have h2 : shSimple u f st x = (false, st) := (by (first | (simp_all [shSimple, andP]; done) | (simp_all [shSimple, andP] <;> omega)))
     rw [h2]
     exact ret_ok rfl rfl (po2 rfl rfl))
  refine Tr.seq <| Tr.region rfl <| cV rfl (oB rfl rfl rfl) <| cV rfl (oA rfl) <| WL.nil ?_
  refine Tr.cond rfl (fun hc74 => ?_) (fun hc74 => ?_)
  · refine Tr.seq <| Tr.drawn mixed (fun k => k ∈ ([3] : List Nat)) <| WA.run (fuel := 15) [0, 1, 2, 3, 4, 5] (by kernel_rfl) ((fun _ _ _ h => h)) (by kernel_rfl) <| rV rfl rfl (oM rfl) <| rV rfl rfl (ok_nilCheck rfl rfl rfl) <| rV rfl rfl (oFp rfl rfl tF97_0) <| rV rfl rfl (ok_load_box_pure rfl rfl rfl Tryz.underlying25 rfl tS25 (Nat.le_of_ble_eq_true rfl) rfl (by decide)) <| rV rfl rfl (oFe rfl tF42_3) <| rV rfl rfl (oLe Tryz.underlying9 rfl rfl) <| WR.nil <| WA.one (i := 6) (by kernel_rfl) <| WI.op rfl rfl rfl (by intro t h; cases h <;> rfl) (fun k (h : _) => by (simp at h ⊢; omega)) (fun _ h1 h2 => absurd h1 h2) (fun ρ w => ok_callq (sc_shHas _ _) ent114 rfl rfl (Subs.refl _ _) rfl) ?_
    refine WA.run (fuel := 10) [7, 8, 9, 10] (by kernel_rfl) ((fun _ _ _ h => h)) (by kernel_rfl) <| rV rfl rfl (oM rfl) ?_
    refine WR.split (t := 83) rfl (fun hb83 => ?_) (fun hb83 => ?_)
    · refine ryV rfl rfl rfl (oM rfl) <| ryV rfl rfl rfl (oFe rfl tF42_4) <| ryV rfl rfl rfl (oLe Tryz.underlying35 rfl rfl) <| WR.nil <| WA.one (i := 11) (by kernel_rfl) <| WI.opYes rfl rfl rfl rfl rfl rfl (by intro t h; cases h <;> rfl) (fun k (h : _) => by (simp at h ⊢; omega)) (fun _ h1 h2 => absurd h1 h2) (fun ρ w => ok_buildSlice rfl rfl Tryz.underlying35 tZ3 tS3 rfl rfl rfl rfl (firmB_ok rfl) rfl) <| WA.one (i := 12) (by kernel_rfl) <| WI.opYes rfl rfl rfl rfl rfl rfl (by intro t h; cases h <;> rfl) (fun k (h : _) => by (simp at h ⊢; omega)) (new_app rfl) (fun ρ w => ok_callr (sc_shUses u f st hs x.args [1, 1]) ent110 rfl rfl (Subs.refl _ _) (po2 rfl rfl) (by rfl) (fun k (h : _) => .inr trivial) rfl (by rfl)) <| WA.run (fuel := 3) [13, 14, 15, 16, 17] (by kernel_rfl) ((fun _ _ _ h => h)) (by kernel_rfl) <| rV rfl rfl (oT rfl rfl) <| rV rfl rfl (oM rfl) ?_
      refine WR.split (t := 90) rfl (fun hb90 => ?_) (fun hb90 => ?_)
      · refine ryV rfl rfl rfl (oM rfl) <| ryV rfl rfl rfl (oFe rfl tF42_5) <| ryV rfl rfl rfl (oLe Tryz.underlying35 rfl rfl) <| WR.nil <| WA.one (i := 18) (by kernel_rfl) <| WI.opYes rfl rfl rfl rfl rfl rfl (by intro t h; cases h <;> rfl) (fun k (h : _) => by (simp at h ⊢; omega)) (new_app rfl) (fun ρ w => ok_callr (sc_shSets u f st hs x.outs []) ent112 rfl rfl (Subs.same rfl (Subs.same rfl (Subs.cons (fun _ _ _ _ h => sub_nil h) Subs.nil))) (po2 rfl rfl) (by rfl) (fun k (h : _) => by (simp only [List.mem_cons, List.not_mem_nil, or_false] at h; rcases h with rfl <;> first | exact .inl rfl | exact .inr rfl | exact .inr (by decide))) rfl (by rfl)) <| WA.run (fuel := 0) [19, 20] (by kernel_rfl) ((fun _ _ _ h => h)) (by kernel_rfl) <| rV rfl rfl (oT rfl rfl) <| rV rfl rfl (oA rfl) <| WR.nil <| WA.done (by kernel_rfl) <| Tr.ret ?_
        (have h2 : (shSimple u f st x).2 = (shSets f.types st x.outs []).2 := (by simp_all [shSimple, andP]; done)
         rw [h2]
         refine ret_ok rfl ?_ (po2 rfl rfl)
         clear h2
         skip
         simp_all [shSimple, andP]
         done)
      refine rnV rfl rfl rfl <| rnV rfl rfl rfl <| rnV rfl rfl rfl <| WR.nil <| WA.takeNo (i := 18) (b := false) rfl (by kernel_rfl) (by kernel_rfl) (by kernel_rfl) ((fun _ _ _ h => h)) rfl rfl rfl rfl rfl rfl <| WA.run (fuel := 0) [19, 20] (by kernel_rfl) ((fun _ _ _ h => h)) (by kernel_rfl) <| rV rfl rfl (oF rfl rfl) <| rV rfl rfl (oA rfl) <| WR.nil <| WA.done (by kernel_rfl) <| Tr.ret ?_
      (have h2 : (shSimple u f st x).2 = st := (by simp_all [shSimple, andP]; done)
       rw [h2]
       refine ret_ok rfl ?_ (po2 rfl rfl)
       clear h2
       skip
       simp_all [shSimple, andP]
       done)
    refine rnV rfl rfl rfl <| rnV rfl rfl rfl <| rnV rfl rfl rfl <| WR.nil <| WA.takeNo (i := 11) (b := false) rfl (by kernel_rfl) (by kernel_rfl) (by kernel_rfl) ((fun _ _ _ h => h)) rfl rfl rfl rfl rfl rfl <| WA.takeNo (i := 12) (b := false) rfl (by kernel_rfl) (by kernel_rfl) (by kernel_rfl) ((fun _ _ _ h => h)) rfl rfl rfl rfl rfl rfl <| WA.run (fuel := 3) [13, 14, 15, 16, 17] (by kernel_rfl) ((fun _ _ _ h => h)) (by kernel_rfl) <| rV rfl rfl (oF rfl rfl) <| rV rfl rfl (oM rfl) <| rnV rfl rfl rfl <| rnV rfl rfl rfl <| rnV rfl rfl rfl ?_
    refine WR.nil <| WA.takeNo (i := 18) (b := false) rfl (by kernel_rfl) (by kernel_rfl) (by kernel_rfl) ((fun _ _ _ h => h)) rfl rfl rfl rfl rfl rfl <| WA.run (fuel := 0) [19, 20] (by kernel_rfl) ((fun _ _ _ h => h)) (by kernel_rfl) <| rV rfl rfl (oF rfl rfl) <| rV rfl rfl (oA rfl) <| WR.nil <| WA.done (by kernel_rfl) <| Tr.ret ?_
    (have h2 : shSimple u f st x = (false, st) := (by (first | (simp_all [shSimple, andP]; done) | (simp_all [shSimple, andP] <;> omega)))
     rw [h2]
     exact ret_ok rfl rfl (po2 rfl rfl))
  refine Tr.seq <| Tr.region rfl <| cV rfl (oB rfl rfl rfl) <| cV rfl (oA rfl) <| WL.nil ?_
  refine Tr.cond rfl (fun hc96 => ?_) (fun hc96 => ?_)
  · refine Tr.seq <| Tr.region rfl <| cV rfl (oM rfl) <| cV rfl (oFe rfl tF42_4) <| cV rfl (oLe Tryz.underlying35 rfl rfl) <| WL.cons rfl rfl rfl (ok_callr (sc_shUses u f st hs x.args []) ent110 rfl rfl (Subs.same rfl (Subs.same rfl (Subs.cons (fun _ _ _ _ h => sub_nil h) Subs.nil))) (po2 rfl rfl) (by rfl) (fun k (h : _) => .inr trivial) rfl (by rfl)) <| cV rfl (oM rfl) ?_
    refine WL.split (t := 102) rfl (fun hb102 => ?_) (fun hb102 => ?_)
    · refine yV rfl rfl (oM rfl) <| yV rfl rfl (oFe rfl tF42_5) <| yV rfl rfl (oLe Tryz.underlying35 rfl rfl) <| WL.yes rfl rfl rfl rfl rfl rfl (ok_buildSlice rfl rfl Tryz.underlying35 tZ3 tS3 rfl rfl rfl rfl (firmB_ok rfl) rfl) <| WL.yes rfl rfl rfl rfl rfl rfl (ok_callr (sc_shSets u f st hs x.outs [1]) ent112 rfl rfl (Subs.refl _ _) (po2 rfl rfl) (by rfl) (fun k (h : _) => .inr h) rfl (by rfl)) <| cV rfl (oT rfl rfl) <| cV rfl (oA rfl) <| WL.nil <| Tr.ret ?_
      (have h2 : (shSimple u f st x).2 = (shSets f.types st x.outs [1]).2 := (by simp_all [shSimple, andP]; done)
       rw [h2]
       refine ret_ok rfl ?_ (po2 rfl rfl)
       clear h2
       skip
       simp_all [shSimple, andP]
       done)
    refine nV rfl rfl <| nV rfl rfl <| nV rfl rfl <| nV rfl rfl <| nV rfl rfl <| cV rfl (oF rfl rfl) <| cV rfl (oA rfl) <| WL.nil <| Tr.ret ?_
    (have h2 : (shSimple u f st x).2 = st := (by simp_all [shSimple, andP]; done)
     rw [h2]
     refine ret_ok rfl ?_ (po2 rfl rfl)
     clear h2
     skip
     simp_all [shSimple, andP]
     done)
  refine Tr.seq <| Tr.region rfl <| cV rfl (oB rfl rfl rfl) <| cV rfl (oA rfl) <| WL.nil ?_
  refine Tr.cond rfl (fun hc109 => ?_) (fun hc109 => ?_)
  · refine Tr.seq <| Tr.region rfl <| cV rfl (oM rfl) <| cV rfl (oFe rfl tF42_4) <| cV rfl (oLe Tryz.underlying35 rfl rfl) <| WL.cons rfl rfl rfl (ok_buildSlice rfl rfl Tryz.underlying35 tZ3 tS3 rfl rfl rfl rfl (firmB_ok rfl) rfl) <| WL.cons rfl rfl rfl (ok_callr (sc_shUses u f st hs x.args [1]) ent110 rfl rfl (Subs.refl _ _) (po2 rfl rfl) (by rfl) (fun k (h : _) => .inr trivial) rfl (by rfl)) <| cV rfl (oM rfl) ?_
    refine WL.split (t := 116) rfl (fun hb116 => ?_) (fun hb116 => ?_)
    · refine yV rfl rfl (oM rfl) <| yV rfl rfl (oFe rfl tF42_5) <| yV rfl rfl (oLe Tryz.underlying35 rfl rfl) <| WL.yes rfl rfl rfl rfl rfl rfl (ok_callr (sc_shSets u f st hs x.outs []) ent112 rfl rfl (Subs.same rfl (Subs.same rfl (Subs.cons (fun _ _ _ _ h => sub_nil h) Subs.nil))) (po2 rfl rfl) (by rfl) (fun k (h : _) => .inr h) rfl (by rfl)) <| cV rfl (oT rfl rfl) <| cV rfl (oA rfl) <| WL.nil <| Tr.ret ?_
      (have h2 : (shSimple u f st x).2 = (shSets f.types st x.outs []).2 := (by simp_all [shSimple, andP]; done)
       rw [h2]
       refine ret_ok rfl ?_ (po2 rfl rfl)
       clear h2
       skip
       simp_all [shSimple, andP]
       done)
    refine nV rfl rfl <| nV rfl rfl <| nV rfl rfl <| nV rfl rfl <| cV rfl (oF rfl rfl) <| cV rfl (oA rfl) <| WL.nil <| Tr.ret ?_
    (have h2 : (shSimple u f st x).2 = st := (by simp_all [shSimple, andP]; done)
     rw [h2]
     refine ret_ok rfl ?_ (po2 rfl rfl)
     clear h2
     skip
     simp_all [shSimple, andP]
     done)
  refine Tr.seq <| Tr.region rfl <| cV rfl (oB rfl rfl rfl) <| cV rfl (oA rfl) <| WL.nil ?_
  refine Tr.cond rfl (fun hc122 => ?_) (fun hc122 => ?_)
  · refine Tr.seq <| Tr.drawn mixed (fun k => k ∈ ([3] : List Nat)) <| WA.run (fuel := 2) [0, 1, 2, 3, 4, 5] (by kernel_rfl) ((fun _ _ _ h => h)) (by kernel_rfl) <| rV rfl rfl (oM rfl) <| rV rfl rfl (ok_nilCheck rfl rfl rfl) <| rV rfl rfl (oFp rfl rfl tF97_0) <| rV rfl rfl (ok_load_box_pure rfl rfl rfl Tryz.underlying25 rfl tS25 (Nat.le_of_ble_eq_true rfl) rfl (by decide)) <| rV rfl rfl (oFe rfl tF42_3) <| rV rfl rfl (oLe Tryz.underlying9 rfl rfl) <| WR.nil <| WA.one (i := 6) (by kernel_rfl) <| WI.op rfl rfl rfl (by intro t h; cases h <;> rfl) (fun k (h : _) => by (simp at h ⊢; omega)) (fun _ h1 h2 => absurd h1 h2) (fun ρ w => ok_callq (sc_shPlace _ _) ent57 rfl rfl (Subs.refl _ _) rfl) ?_
    refine WA.run (fuel := 0) [7] (by kernel_rfl) ((fun _ _ _ h => h)) (by kernel_rfl) <| rV rfl rfl (oA rfl) <| WR.nil <| WA.done (by kernel_rfl) <| Tr.seq <| Tr.seq <| Tr.region rfl <| cV rfl (oM rfl) <| cV rfl (oB rfl rfl rfl) <| WL.nil ?_
    refine Tr.cond rfl (fun hc132 => ?_) (fun hc132 => ?_)
    · refine Tr.seq <| Tr.region rfl <| cV rfl (oA rfl) <| WL.nil <| Tr.ret ?_
      (have h2 : (shSimple u f st x).2 = st := (by simp_all [shSimple, shCall, andP]; done)
       rw [h2]
       refine ret_ok rfl ?_ (po2 rfl rfl)
       clear h2
       skip
       simp_all [shSimple, shCall, andP]
       done)
    have hk0 : r8Place x.name u.flows 0 ≥ 0 := by simp at hc132; omega
    obtain ⟨g, hgk, _⟩ := r8Place_at hk0
    obtain ⟨hgp0, hgpl⟩ := hg g (List.mem_of_getElem? hgk)
    have hgp : g.params = (g.params.toNat : Int) := by omega
    have hgi : (u.flows.map Fl.enc)[(r8Place x.name u.flows 0).toNat]? = some (Fl.enc g) := by rw [List.getElem?_map, hgk]; rfl
    have hkn : r8Place x.name u.flows 0 = ((r8Place x.name u.flows 0).toNat : Int) := by omega
    have hnl : ¬ r8Place x.name u.flows 0 < 0 := by omega
    have hcall : shCall u f st x = andP (shUses f.types st x.args (g.types.take g.params.toNat)) st (shSets f.types st x.outs [g.ty]) := by
      unfold shCall
      rw [if_neg hnl, hgk]
    refine Tr.skip <| Tr.seq <| Tr.region rfl <| cV rfl (oM rfl) <| cV rfl (ok_nilCheck rfl rfl rfl) <| cV rfl (oFp rfl rfl tF97_0) <| cV rfl (oFp rfl rfl tF25_1) <| cV rfl (oLb Tryz.underlying23 rfl rfl rfl trivial) <| cV rfl (oM rfl) <| cV rfl (ok_index_seq rfl rfl rfl Tryz.underlying23 hgi tS51 rfl (by omega)) <| cV rfl (ok_load_ept_agg rfl rfl Tryz.underlying51 rfl tS51 (Nat.le_of_ble_eq_true rfl)) <| WL.cons rfl rfl rfl (ok_alloc (k := 106) rfl tZ51 rfl rfl rfl rfl) ?_
    refine WL.cons0 rfl rfl (ok_store_box_agg rfl rfl rfl rfl rfl (by simp) tS51 (firmL_ok rfl) (lb rfl)) ?_
    refine WL.nil <| Tr.seq <| Tr.freezeBox (t := 6) (k := 106) rfl rfl rfl ?_
    refine Tr.heap (σ' := look (up (ckS u f 3 st))) (fun k => by
      simp only [look]
      by_cases h : 106 = k
      · subst h; rfl
      · simp [beq_ne h]) ?_
    refine Tr.drawn mixed (fun k => k ∈ ([3] : List Nat)) <| WA.run (fuel := 11) [0, 1, 2, 3, 4, 5, 6, 7] (by kernel_rfl) ((fun _ _ _ h => h)) (by kernel_rfl) <| rV rfl rfl (oM rfl) <| rV rfl rfl (oFe rfl tF42_4) <| rV rfl rfl (oLe Tryz.underlying35 rfl rfl) <| rV rfl rfl (oFe rfl tF51_3) <| rV rfl rfl (oLe Tryz.underlying35 rfl rfl) <| rV rfl rfl (oFe rfl tF51_2) <| rV rfl rfl (oLe Tryz.underlying3 rfl rfl) ?_
    refine rV rfl rfl (ok_slice_seq (j := g.params.toNat) rfl rfl Tryz.underlying35 tS3 (.inl ⟨rfl, rfl⟩) (.inr ⟨_, _, rfl, congrArg (fun z => some (IV.pv (.val (.int .i64 z)))) hgp⟩) (Nat.zero_le _) (by simp; omega) (by simp [eInt])) ?_
    refine WR.nil <| WA.one (i := 8) (by kernel_rfl) ?_
    refine WI.op rfl rfl rfl (by intro t h; cases h <;> rfl) (fun k (h : _) => by (simp at h ⊢; omega)) (new_app rfl) (fun ρ w => ok_callr (sc_shUses u f st hs x.args (g.types.take g.params.toNat)) ent110 rfl rfl (Subs.same rfl (Subs.same rfl (Subs.same (by simp [ints, List.map_take]) Subs.nil))) (po2 rfl rfl) (by rfl) (fun k (h : _) => .inr trivial) rfl (by rfl)) ?_
    refine WA.run (fuel := 4) [9, 10, 11, 12, 13, 14] (by kernel_rfl) ((fun _ _ _ h => h)) (by kernel_rfl) <| rV rfl rfl (oM rfl) ?_
    refine WR.split (t := 150) rfl (fun hb150 => ?_) (fun hb150 => ?_)
    · refine ryV rfl rfl rfl (oM rfl) <| ryV rfl rfl rfl (oFe rfl tF42_5) <| ryV rfl rfl rfl (oLe Tryz.underlying35 rfl rfl) <| ryV rfl rfl rfl (oFe rfl tF51_1) <| ryV rfl rfl rfl (oLe Tryz.underlying3 rfl rfl) <| WR.nil <| WA.one (i := 15) (by kernel_rfl) <| WI.opYes rfl rfl rfl rfl rfl rfl (by intro t h; cases h <;> rfl) (fun k (h : _) => by (simp at h ⊢; omega)) (fun _ h1 h2 => absurd h1 h2) (fun ρ w => ok_buildSlice rfl rfl Tryz.underlying35 tZ3 tS3 rfl rfl rfl rfl (firmB_ok rfl) rfl) <| WA.one (i := 16) (by kernel_rfl) <| WI.opYes rfl rfl rfl rfl rfl rfl (by intro t h; cases h <;> rfl) (fun k (h : _) => by (simp at h ⊢; omega)) (new_app rfl) (fun ρ w => ok_callr (sc_shSets u f st hs x.outs [g.ty]) ent112 rfl rfl (Subs.refl _ _) (po2 rfl rfl) (by rfl) (fun k (h : _) => by (simp only [List.mem_cons, List.not_mem_nil, or_false] at h; rcases h with rfl <;> first | exact .inl rfl | exact .inr rfl | exact .inr (by decide))) rfl (by rfl)) <| WA.run (fuel := 0) [17, 18] (by kernel_rfl) ((fun _ _ _ h => h)) (by kernel_rfl) <| rV rfl rfl (oT rfl rfl) ?_
      refine rV rfl rfl (oA rfl) <| WR.nil <| WA.done (by kernel_rfl) <| Tr.ret ?_
      have hsim : shSimple u f st x = shCall u f st x := by
        clear hkn hgp hcall hnl
        simp_all [shSimple]
      rw [hsim, hcall]
      clear hsim hcall
      (have h2 : (andP (shUses f.types st x.args (g.types.take g.params.toNat)) st (shSets f.types st x.outs [g.ty])).2 = (shSets f.types st x.outs [g.ty]).2 := (by (try (clear hkn hgp)); simp_all [andP, andP]; done)
       rw [h2]
       refine ret_ok rfl ?_ (po2 rfl rfl)
       clear h2
       try (clear hkn hgp)
       simp_all [andP, andP]
       done)
    refine rnV rfl rfl rfl <| rnV rfl rfl rfl <| rnV rfl rfl rfl <| rnV rfl rfl rfl <| rnV rfl rfl rfl <| WR.nil <| WA.takeNo (i := 15) (b := false) rfl (by kernel_rfl) (by kernel_rfl) (by kernel_rfl) ((fun _ _ _ h => h)) rfl rfl rfl rfl rfl rfl <| WA.takeNo (i := 16) (b := false) rfl (by kernel_rfl) (by kernel_rfl) (by kernel_rfl) ((fun _ _ _ h => h)) rfl rfl rfl rfl rfl rfl <| WA.run (fuel := 0) [17, 18] (by kernel_rfl) ((fun _ _ _ h => h)) (by kernel_rfl) <| rV rfl rfl (oF rfl rfl) <| rV rfl rfl (oA rfl) <| WR.nil ?_
    refine WA.done (by kernel_rfl) <| Tr.ret ?_
    have hsim : shSimple u f st x = shCall u f st x := by
      clear hkn hgp hcall hnl
      simp_all [shSimple]
    rw [hsim, hcall]
    clear hsim hcall
    (have h2 : (andP (shUses f.types st x.args (g.types.take g.params.toNat)) st (shSets f.types st x.outs [g.ty])).2 = st := (by (try (clear hkn hgp)); simp_all [andP, andP]; done)
     rw [h2]
     refine ret_ok rfl ?_ (po2 rfl rfl)
     clear h2
     try (clear hkn hgp)
     simp_all [andP, andP]
     done)
  refine Tr.skip <| Tr.seq <| Tr.region rfl <| cV rfl (oA rfl) <| WL.nil <| Tr.ret ?_
  (have h2 : (shSimple u f st x).2 = st := (by simp_all [shSimple, andP]; done)
   rw [h2]
   refine ret_ok rfl ?_ (po2 rfl rfl)
   clear h2
   skip
   simp_all [shSimple, andP]
   done)
set_option maxRecDepth 8000 in
set_option maxHeartbeats 2000000 in
theorem sc_shChoice (u : Un) (f : Fl) (st : List Int) (hs : st.length = f.types.length) (x : Nd) (ka kb : List Nd) (hkids : x.kids = [ka, kb]) (wh : Wh) (deep : Int) (hbo : x.outs.length ≤ 1073741824) (ih : ∀ q ∈ x.kids, ∀ (w : Wh) (st : List Int), st.length = f.types.length → SC Tryz.prog 60 [.ptr 3 0, .pv (nodes q), .pv (whv w), iInt deep] (ckS u f 3 st) (fun k => k = 3) (iBool (shList u f deep w st q).1) (ckS u f 3 (shList u f deep w st q).2)) : SC Tryz.prog 97 [.ptr 3 0, .pv (ndv x), .pv (whv wh), iInt deep] (ckS u f 3 st) (fun k => k = 3) (iBool (if shUses f.types st x.args [2] then andQ (shList u f deep ⟨true, wh.Loop, r8of f.types x.outs, wh.Next, wh.Left⟩ st ka) (fun s1 => andQ (shList u f deep ⟨true, wh.Loop, r8of f.types x.outs, wh.Next, wh.Left⟩ s1 kb) fun s2 => shTail f x s2) else (false, st)).1) (ckS u f 3 (if shUses f.types st x.args [2] then andQ (shList u f deep ⟨true, wh.Loop, r8of f.types x.outs, wh.Next, wh.Left⟩ st ka) (fun s1 => andQ (shList u f deep ⟨true, wh.Loop, r8of f.types x.outs, wh.Next, wh.Left⟩ s1 kb) fun s2 => shTail f x s2) else (false, st)).2) := by
  refine SC.of Tryz.func97 rfl (lb rfl) fun F ρ w => ?_
  have hi0 : (x.kids.map eKid)[0]? = some [nodes ka] := by rw [hkids]; rfl
  have hi1 : (x.kids.map eKid)[1]? = some [nodes kb] := by rw [hkids]; rfl
  have hm0 : ka ∈ x.kids := by rw [hkids]; simp
  have hm1 : kb ∈ x.kids := by rw [hkids]; simp
  have hs1 : (shList u f deep ⟨true, wh.Loop, r8of f.types x.outs, wh.Next, wh.Left⟩ st ka).2.length = f.types.length := (shList_length ..).trans hs
  have hs2 : (shList u f deep ⟨true, wh.Loop, r8of f.types x.outs, wh.Next, wh.Left⟩ (shList u f deep ⟨true, wh.Loop, r8of f.types x.outs, wh.Next, wh.Left⟩ st ka).2 kb).2.length = f.types.length := (shList_length ..).trans hs1
  refine Tr.seq <| Tr.region rfl <| WL.cons rfl rfl rfl ((ok_box rfl rfl)) <| WL.cons rfl rfl rfl ((ok_boxOwnP (k := 106) rfl rfl rfl rfl rfl rfl)) <| cV rfl (oA rfl) <| WL.nil <| Tr.seq <| Tr.region rfl <| cV rfl (oM rfl) <| cV rfl (oFe rfl tF42_5) <| cV rfl (oLe Tryz.underlying35 rfl rfl) <| WL.cons rfl rfl rfl (ok_callr (sc_shTypes u f st hs x.outs hbo) ent109 rfl rfl (Subs.refl _ _) (po2 rfl rfl) (by rfl) (fun k (h : _) => by (subst h; first | exact .inl rfl | exact .inr rfl | exact .inr (by decide))) rfl (by rfl)) ?_
  refine cV rfl (oFp rfl rfl tF100_0) ?_
  refine WL.cons0 rfl rfl ((ok_store_box rfl rfl rfl rfl (by simp) tS4 (rfl) (lb rfl))) ?_
  refine cV rfl (oFp rfl rfl tF100_2) ?_
  refine WL.cons0 rfl rfl ((ok_store_box rfl rfl rfl rfl (by simp) tS35 (rfl) (lb rfl))) ?_
  refine WL.nil <| Tr.seq <| Tr.drawn mixed (fun k => k ∈ ([3, 106] : List Nat)) <| WA.run (fuel := 40) [0, 1, 2] (by kernel_rfl) ((fun _ _ _ h => h)) (by kernel_rfl) <| rV rfl rfl (oM rfl) <| rV rfl rfl (oFe rfl tF42_4) <| rV rfl rfl (oLe Tryz.underlying35 rfl rfl) <| WR.nil <| WA.one (i := 3) (by kernel_rfl) <| WI.op rfl rfl rfl (by intro t h; cases h <;> rfl) (fun k (h : _) => by (simp at h ⊢; omega)) (fun _ h1 h2 => absurd h1 h2) (fun ρ w => ok_buildSlice rfl rfl Tryz.underlying35 tZ3 tS3 rfl rfl rfl rfl (firmB_ok rfl) rfl) <| WA.one (i := 4) (by kernel_rfl) <| WI.op rfl rfl rfl (by intro t h; cases h <;> rfl) (fun k (h : _) => by (simp at h ⊢; omega)) (new_app rfl) (fun ρ w => ok_callr (sc_shUses u f st hs x.args [2]) ent110 rfl rfl (Subs.refl _ _) (po2 rfl rfl) (by rfl) (fun k (h : _) => .inr trivial) rfl (by rfl)) ?_
  refine WA.run (fuel := 30) [5, 6, 7, 8, 9, 10, 11, 12] (by kernel_rfl) ((fun _ _ _ h => h)) (by kernel_rfl) <| rV rfl rfl (oM rfl) ?_
  refine WR.split (t := 20) rfl (fun hb20 => ?_) (fun hb20 => ?_)
  · refine ryV rfl rfl rfl (oM rfl) <| ryV rfl rfl rfl (oFe rfl tF42_7) <| ryV rfl rfl rfl (oLe Tryz.underlying40 rfl rfl) <| ryV rfl rfl rfl (ok_index_seq rfl rfl rfl Tryz.underlying40 hi0 tS43 rfl (by rfl)) <| ryV rfl rfl rfl (oLe Tryz.underlying43 rfl rfl) <| ryV rfl rfl rfl (ok_load_box_pure rfl rfl rfl Tryz.underlying100 rfl tS100 (Nat.le_of_ble_eq_true rfl) rfl (by decide)) <| ryV rfl rfl rfl (oM rfl) <| WR.nil <| WA.one (i := 13) (by kernel_rfl) <| WI.opYes rfl rfl rfl rfl rfl rfl (by intro t h; cases h <;> rfl) (fun k (h : _) => by (simp at h ⊢; omega)) (new_app rfl) (fun ρ w => ok_callr (ih ka hm0 ⟨true, wh.Loop, r8of f.types x.outs, wh.Next, wh.Left⟩ st hs) ent60 rfl rfl (Subs.refl _ _) (po2 rfl rfl) (by rfl) (fun k (h : _) => by (simp only [List.mem_cons, List.not_mem_nil, or_false] at h; rcases h with rfl | rfl <;> first | exact .inl rfl | exact .inr rfl | exact .inr (by decide))) rfl (by rfl)) <| WA.run (fuel := 20) [14, 15, 16, 17, 18, 19, 20, 21, 22] (by kernel_rfl) ((fun _ _ _ h => h)) (by kernel_rfl) <| rV rfl rfl (oT rfl rfl) ?_
    refine rV rfl rfl (oM rfl) ?_
    refine WR.split (t := 30) rfl (fun hb30 => ?_) (fun hb30 => ?_)
    · refine ryV rfl rfl rfl (oM rfl) <| ryV rfl rfl rfl (oFe rfl tF42_7) <| ryV rfl rfl rfl (oLe Tryz.underlying40 rfl rfl) <| ryV rfl rfl rfl (ok_index_seq rfl rfl rfl Tryz.underlying40 hi1 tS43 rfl (by rfl)) <| ryV rfl rfl rfl (oLe Tryz.underlying43 rfl rfl) <| ryV rfl rfl rfl (ok_load_box_pure rfl rfl rfl Tryz.underlying100 rfl tS100 (Nat.le_of_ble_eq_true rfl) rfl (by decide)) <| ryV rfl rfl rfl (oM rfl) <| WR.nil <| WA.one (i := 23) (by kernel_rfl) <| WI.opYes rfl rfl rfl rfl rfl rfl (by intro t h; cases h <;> rfl) (fun k (h : _) => by (simp at h ⊢; omega)) (new_app rfl) (fun ρ w => ok_callr (ih kb hm1 ⟨true, wh.Loop, r8of f.types x.outs, wh.Next, wh.Left⟩ (shList u f deep ⟨true, wh.Loop, r8of f.types x.outs, wh.Next, wh.Left⟩ st ka).2 hs1) ent60 rfl rfl (Subs.refl _ _) (po2 rfl rfl) (by rfl) (fun k (h : _) => by (simp only [List.mem_cons, List.not_mem_nil, or_false] at h; rcases h with rfl | rfl <;> first | exact .inl rfl | exact .inr rfl | exact .inr (by decide))) rfl (by rfl)) <| WA.run (fuel := 11) [24, 25, 26, 27, 28, 29, 30, 31] (by kernel_rfl) ((fun _ _ _ h => h)) (by kernel_rfl) <| rV rfl rfl (oT rfl rfl) ?_
      refine rV rfl rfl (oM rfl) ?_
      refine WR.split (t := 40) rfl (fun hb40 => ?_) (fun hb40 => ?_)
      · refine ryV rfl rfl rfl (oFe rfl tF42_5) <| ryV rfl rfl rfl (oLe Tryz.underlying35 rfl rfl) <| ryV rfl rfl rfl (oSm Tryz.underlying35 rfl) <| ryV rfl rfl rfl (oB rfl rfl rfl) <| ryV rfl rfl rfl (oM rfl) ?_
        refine WR.split (t := 45) rfl (fun hb45 => ?_) (fun hb45 => ?_)
        · refine rnV rfl rfl rfl <| WR.nil <| WA.takeNo (i := 32) (b := true) rfl (by kernel_rfl) (by kernel_rfl) (by kernel_rfl) ((fun _ _ _ h => h)) rfl rfl rfl rfl rfl rfl <| WA.run (fuel := 3) [33, 34, 35, 36, 37, 38, 39] (by kernel_rfl) ((fun _ _ _ h => h)) (by kernel_rfl) <| rnV rfl rfl rfl <| ryV rfl rfl rfl (oT rfl rfl) <| rV rfl rfl (oT rfl rfl) <| rV rfl rfl (oM rfl) <| ryV rfl rfl rfl (oM rfl) <| ryV rfl rfl rfl (oFe rfl tF42_5) <| ryV rfl rfl rfl (oLe Tryz.underlying35 rfl rfl) <| WR.nil ?_
          refine WA.one (i := 40) (by kernel_rfl) <| WI.opYes rfl rfl rfl rfl rfl rfl (by intro t h; cases h <;> rfl) (fun k (h : _) => by (simp at h ⊢; omega)) (new_app rfl) (fun ρ w => ok_callr (sc_shAll u f (shList u f deep ⟨true, wh.Loop, r8of f.types x.outs, wh.Next, wh.Left⟩ (shList u f deep ⟨true, wh.Loop, r8of f.types x.outs, wh.Next, wh.Left⟩ st ka).2 kb).2 hs2 x.outs hbo) ent111 rfl rfl (Subs.refl _ _) (po2 rfl rfl) (by rfl) (fun k (h : _) => by (simp only [List.mem_cons, List.not_mem_nil, or_false] at h; rcases h with rfl | rfl <;> first | exact .inl rfl | exact .inr rfl | exact .inr (by decide))) rfl (by rfl)) <| WA.run (fuel := 0) [41, 42] (by kernel_rfl) ((fun _ _ _ h => h)) (by kernel_rfl) <| rV rfl rfl (oT rfl rfl) <| rV rfl rfl (oA rfl) <| WR.nil <| WA.done (by kernel_rfl) <| Tr.ret ?_
          (have h2 : (if shUses f.types st x.args [2] then andQ (shList u f deep ⟨true, wh.Loop, r8of f.types x.outs, wh.Next, wh.Left⟩ st ka) (fun s1 => andQ (shList u f deep ⟨true, wh.Loop, r8of f.types x.outs, wh.Next, wh.Left⟩ s1 kb) fun s2 => shTail f x s2) else (false, st)).2 = (shSets f.types (shList u f deep ⟨true, wh.Loop, r8of f.types x.outs, wh.Next, wh.Left⟩ (shList u f deep ⟨true, wh.Loop, r8of f.types x.outs, wh.Next, wh.Left⟩ st ka).2 kb).2 x.outs (List.replicate x.outs.length 0)).2 := (by simp_all [andQ, andP, shTail]; done)
           rw [h2]
           refine ret_ok rfl ?_ (po2 rfl rfl)
           clear h2
           simp_all [andQ, andP, shTail]
           done)
        refine ryV rfl rfl rfl (ok_load_ept_agg rfl rfl Tryz.underlying42 rfl tS42 (Nat.le_of_ble_eq_true rfl)) <| WR.nil <| WA.one (i := 32) (by kernel_rfl) <| WI.opYes rfl rfl rfl rfl rfl rfl (by intro t h; cases h <;> rfl) (fun k (h : _) => by (simp at h ⊢; omega)) (fun _ h1 h2 => absurd h1 h2) (fun ρ w => ok_callq (sc_shClosed _) ent84 rfl rfl (Subs.refl _ _) rfl) <| WA.run (fuel := 3) [33, 34, 35, 36, 37, 38, 39] (by kernel_rfl) ((fun _ _ _ h => h)) (by kernel_rfl) <| ryV rfl rfl rfl (oN rfl) <| ryV rfl rfl rfl (oF rfl rfl) <| rV rfl rfl (oT rfl rfl) <| rV rfl rfl (oM rfl) ?_
        refine WR.split (t := 51) rfl (fun hb51 => ?_) (fun hb51 => ?_)
        · refine ryV rfl rfl rfl (oM rfl) <| ryV rfl rfl rfl (oFe rfl tF42_5) <| ryV rfl rfl rfl (oLe Tryz.underlying35 rfl rfl) <| WR.nil <| WA.one (i := 40) (by kernel_rfl) <| WI.opYes rfl rfl rfl rfl rfl rfl (by intro t h; cases h <;> rfl) (fun k (h : _) => by (simp at h ⊢; omega)) (new_app rfl) (fun ρ w => ok_callr (sc_shAll u f (shList u f deep ⟨true, wh.Loop, r8of f.types x.outs, wh.Next, wh.Left⟩ (shList u f deep ⟨true, wh.Loop, r8of f.types x.outs, wh.Next, wh.Left⟩ st ka).2 kb).2 hs2 x.outs hbo) ent111 rfl rfl (Subs.refl _ _) (po2 rfl rfl) (by rfl) (fun k (h : _) => by (simp only [List.mem_cons, List.not_mem_nil, or_false] at h; rcases h with rfl | rfl <;> first | exact .inl rfl | exact .inr rfl | exact .inr (by decide))) rfl (by rfl)) <| WA.run (fuel := 0) [41, 42] (by kernel_rfl) ((fun _ _ _ h => h)) (by kernel_rfl) <| rV rfl rfl (oT rfl rfl) <| rV rfl rfl (oA rfl) <| WR.nil <| WA.done (by kernel_rfl) <| Tr.ret ?_
          (have h2 : (if shUses f.types st x.args [2] then andQ (shList u f deep ⟨true, wh.Loop, r8of f.types x.outs, wh.Next, wh.Left⟩ st ka) (fun s1 => andQ (shList u f deep ⟨true, wh.Loop, r8of f.types x.outs, wh.Next, wh.Left⟩ s1 kb) fun s2 => shTail f x s2) else (false, st)).2 = (shSets f.types (shList u f deep ⟨true, wh.Loop, r8of f.types x.outs, wh.Next, wh.Left⟩ (shList u f deep ⟨true, wh.Loop, r8of f.types x.outs, wh.Next, wh.Left⟩ st ka).2 kb).2 x.outs (List.replicate x.outs.length 0)).2 := (by simp_all [andQ, andP, shTail]; done)
           rw [h2]
           refine ret_ok rfl ?_ (po2 rfl rfl)
           clear h2
           simp_all [andQ, andP, shTail]
           done)
        refine rnV rfl rfl rfl <| rnV rfl rfl rfl <| rnV rfl rfl rfl <| WR.nil <| WA.takeNo (i := 40) (b := false) rfl (by kernel_rfl) (by kernel_rfl) (by kernel_rfl) ((fun _ _ _ h => h)) rfl rfl rfl rfl rfl rfl <| WA.run (fuel := 0) [41, 42] (by kernel_rfl) ((fun _ _ _ h => h)) (by kernel_rfl) <| rV rfl rfl (oF rfl rfl) <| rV rfl rfl (oA rfl) <| WR.nil <| WA.done (by kernel_rfl) <| Tr.ret ?_
        (have h2 : (if shUses f.types st x.args [2] then andQ (shList u f deep ⟨true, wh.Loop, r8of f.types x.outs, wh.Next, wh.Left⟩ st ka) (fun s1 => andQ (shList u f deep ⟨true, wh.Loop, r8of f.types x.outs, wh.Next, wh.Left⟩ s1 kb) fun s2 => shTail f x s2) else (false, st)).2 = (shList u f deep ⟨true, wh.Loop, r8of f.types x.outs, wh.Next, wh.Left⟩ (shList u f deep ⟨true, wh.Loop, r8of f.types x.outs, wh.Next, wh.Left⟩ st ka).2 kb).2 := (by simp_all [andQ, andP, shTail]; done)
         rw [h2]
         refine ret_ok rfl ?_ (po2 rfl rfl)
         clear h2
         simp_all [andQ, andP, shTail]
         done)
      refine rnV rfl rfl rfl <| rnV rfl rfl rfl <| rnV rfl rfl rfl <| rnV rfl rfl rfl <| rnV rfl rfl rfl <| WR.noU rfl rfl rfl rfl rfl rfl rfl <| WR.nil <| WA.takeNoU (i := 32) rfl (by kernel_rfl) (by kernel_rfl) (by kernel_rfl) ((fun _ _ _ h => h)) rfl rfl rfl rfl rfl rfl <| WA.run (fuel := 3) [33, 34, 35, 36, 37, 38, 39] (by kernel_rfl) ((fun _ _ _ h => h)) (by kernel_rfl) <| WR.noU rfl rfl rfl rfl rfl rfl rfl <| rnV rfl rfl rfl <| rV rfl rfl (oF rfl rfl) ?_
      refine rV rfl rfl (oM rfl) <| rnV rfl rfl rfl <| rnV rfl rfl rfl <| rnV rfl rfl rfl <| WR.nil <| WA.takeNo (i := 40) (b := false) rfl (by kernel_rfl) (by kernel_rfl) (by kernel_rfl) ((fun _ _ _ h => h)) rfl rfl rfl rfl rfl rfl <| WA.run (fuel := 0) [41, 42] (by kernel_rfl) ((fun _ _ _ h => h)) (by kernel_rfl) <| rV rfl rfl (oF rfl rfl) <| rV rfl rfl (oA rfl) <| WR.nil <| WA.done (by kernel_rfl) <| Tr.ret ?_
      (have h2 : (if shUses f.types st x.args [2] then andQ (shList u f deep ⟨true, wh.Loop, r8of f.types x.outs, wh.Next, wh.Left⟩ st ka) (fun s1 => andQ (shList u f deep ⟨true, wh.Loop, r8of f.types x.outs, wh.Next, wh.Left⟩ s1 kb) fun s2 => shTail f x s2) else (false, st)).2 = (shList u f deep ⟨true, wh.Loop, r8of f.types x.outs, wh.Next, wh.Left⟩ (shList u f deep ⟨true, wh.Loop, r8of f.types x.outs, wh.Next, wh.Left⟩ st ka).2 kb).2 := (by simp_all [andQ, andP, shTail]; done)
       rw [h2]
       refine ret_ok rfl ?_ (po2 rfl rfl)
       clear h2
       simp_all [andQ, andP, shTail]
       done)
    refine rnV rfl rfl rfl <| rnV rfl rfl rfl <| rnV rfl rfl rfl <| rnV rfl rfl rfl <| rnV rfl rfl rfl <| rnV rfl rfl rfl <| rnV rfl rfl rfl <| WR.nil <| WA.takeNo (i := 23) (b := false) rfl (by kernel_rfl) (by kernel_rfl) (by kernel_rfl) ((fun _ _ _ h => h)) rfl rfl rfl rfl rfl rfl <| WA.run (fuel := 11) [24, 25, 26, 27, 28, 29, 30, 31] (by kernel_rfl) ((fun _ _ _ h => h)) (by kernel_rfl) <| rV rfl rfl (oF rfl rfl) <| rV rfl rfl (oM rfl) ?_
    refine rnV rfl rfl rfl <| rnV rfl rfl rfl <| rnV rfl rfl rfl <| rnV rfl rfl rfl <| rnV rfl rfl rfl <| WR.noU rfl rfl rfl rfl rfl rfl rfl <| WR.nil <| WA.takeNoU (i := 32) rfl (by kernel_rfl) (by kernel_rfl) (by kernel_rfl) ((fun _ _ _ h => h)) rfl rfl rfl rfl rfl rfl <| WA.run (fuel := 3) [33, 34, 35, 36, 37, 38, 39] (by kernel_rfl) ((fun _ _ _ h => h)) (by kernel_rfl) <| WR.noU rfl rfl rfl rfl rfl rfl rfl <| rnV rfl rfl rfl <| rV rfl rfl (oF rfl rfl) ?_
    refine rV rfl rfl (oM rfl) <| rnV rfl rfl rfl <| rnV rfl rfl rfl <| rnV rfl rfl rfl <| WR.nil <| WA.takeNo (i := 40) (b := false) rfl (by kernel_rfl) (by kernel_rfl) (by kernel_rfl) ((fun _ _ _ h => h)) rfl rfl rfl rfl rfl rfl <| WA.run (fuel := 0) [41, 42] (by kernel_rfl) ((fun _ _ _ h => h)) (by kernel_rfl) <| rV rfl rfl (oF rfl rfl) <| rV rfl rfl (oA rfl) <| WR.nil <| WA.done (by kernel_rfl) <| Tr.ret ?_
    (have h2 : (if shUses f.types st x.args [2] then andQ (shList u f deep ⟨true, wh.Loop, r8of f.types x.outs, wh.Next, wh.Left⟩ st ka) (fun s1 => andQ (shList u f deep ⟨true, wh.Loop, r8of f.types x.outs, wh.Next, wh.Left⟩ s1 kb) fun s2 => shTail f x s2) else (false, st)).2 = (shList u f deep ⟨true, wh.Loop, r8of f.types x.outs, wh.Next, wh.Left⟩ st ka).2 := (by simp_all [andQ, andP, shTail]; done)
     rw [h2]
     refine ret_ok rfl ?_ (po2 rfl rfl)
     clear h2
     simp_all [andQ, andP, shTail]
     done)
  refine rnV rfl rfl rfl <| rnV rfl rfl rfl <| rnV rfl rfl rfl <| rnV rfl rfl rfl <| rnV rfl rfl rfl <| rnV rfl rfl rfl <| rnV rfl rfl rfl <| WR.nil <| WA.takeNo (i := 13) (b := false) rfl (by kernel_rfl) (by kernel_rfl) (by kernel_rfl) ((fun _ _ _ h => h)) rfl rfl rfl rfl rfl rfl <| WA.run (fuel := 20) [14, 15, 16, 17, 18, 19, 20, 21, 22] (by kernel_rfl) ((fun _ _ _ h => h)) (by kernel_rfl) <| rV rfl rfl (oF rfl rfl) <| rV rfl rfl (oM rfl) ?_
  refine rnV rfl rfl rfl <| rnV rfl rfl rfl <| rnV rfl rfl rfl <| rnV rfl rfl rfl <| rnV rfl rfl rfl <| rnV rfl rfl rfl <| rnV rfl rfl rfl <| WR.nil <| WA.takeNo (i := 23) (b := false) rfl (by kernel_rfl) (by kernel_rfl) (by kernel_rfl) ((fun _ _ _ h => h)) rfl rfl rfl rfl rfl rfl <| WA.run (fuel := 11) [24, 25, 26, 27, 28, 29, 30, 31] (by kernel_rfl) ((fun _ _ _ h => h)) (by kernel_rfl) <| rV rfl rfl (oF rfl rfl) <| rV rfl rfl (oM rfl) ?_
  refine rnV rfl rfl rfl <| rnV rfl rfl rfl <| rnV rfl rfl rfl <| rnV rfl rfl rfl <| rnV rfl rfl rfl <| WR.noU rfl rfl rfl rfl rfl rfl rfl <| WR.nil <| WA.takeNoU (i := 32) rfl (by kernel_rfl) (by kernel_rfl) (by kernel_rfl) ((fun _ _ _ h => h)) rfl rfl rfl rfl rfl rfl <| WA.run (fuel := 3) [33, 34, 35, 36, 37, 38, 39] (by kernel_rfl) ((fun _ _ _ h => h)) (by kernel_rfl) <| WR.noU rfl rfl rfl rfl rfl rfl rfl <| rnV rfl rfl rfl <| rV rfl rfl (oF rfl rfl) ?_
  refine rV rfl rfl (oM rfl) <| rnV rfl rfl rfl <| rnV rfl rfl rfl <| rnV rfl rfl rfl <| WR.nil <| WA.takeNo (i := 40) (b := false) rfl (by kernel_rfl) (by kernel_rfl) (by kernel_rfl) ((fun _ _ _ h => h)) rfl rfl rfl rfl rfl rfl <| WA.run (fuel := 0) [41, 42] (by kernel_rfl) ((fun _ _ _ h => h)) (by kernel_rfl) <| rV rfl rfl (oF rfl rfl) <| rV rfl rfl (oA rfl) <| WR.nil <| WA.done (by kernel_rfl) <| Tr.ret ?_
  (have h2 : (if shUses f.types st x.args [2] then andQ (shList u f deep ⟨true, wh.Loop, r8of f.types x.outs, wh.Next, wh.Left⟩ st ka) (fun s1 => andQ (shList u f deep ⟨true, wh.Loop, r8of f.types x.outs, wh.Next, wh.Left⟩ s1 kb) fun s2 => shTail f x s2) else (false, st)).2 = st := (by simp_all [andQ, andP, shTail]; done)
   rw [h2]
   refine ret_ok rfl ?_ (po2 rfl rfl)
   clear h2
   simp_all [andQ, andP, shTail]
   done)
set_option maxRecDepth 8000 in
set_option maxHeartbeats 2000000 in
theorem sc_shLoop (u : Un) (f : Fl) (st : List Int) (hs : st.length = f.types.length) (x : Nd) (ka : List Nd) (hkids : x.kids = [ka]) (deep : Int) (hbo : x.outs.length ≤ 1073741824) (hbp : x.params.length ≤ 1073741824) (ih : ∀ q ∈ x.kids, ∀ (w : Wh) (st : List Int), st.length = f.types.length → SC Tryz.prog 60 [.ptr 3 0, .pv (nodes q), .pv (whv w), iInt deep] (ckS u f 3 st) (fun k => k = 3) (iBool (shList u f deep w st q).1) (ckS u f 3 (shList u f deep w st q).2)) : SC Tryz.prog 98 [.ptr 3 0, .pv (ndv x), iInt deep] (ckS u f 3 st) (fun k => k = 3) (iBool (if shUses f.types st x.args (r8of f.types x.params) then andQ (shSets f.types st x.params (List.replicate x.params.length 0)) (fun s1 => andQ (shList u f deep ⟨false, true, [], r8of f.types x.params, r8of f.types x.outs⟩ s1 ka) fun s2 => shTail f x (shHide s2 x.params)) else (false, st)).1) (ckS u f 3 (if shUses f.types st x.args (r8of f.types x.params) then andQ (shSets f.types st x.params (List.replicate x.params.length 0)) (fun s1 => andQ (shList u f deep ⟨false, true, [], r8of f.types x.params, r8of f.types x.outs⟩ s1 ka) fun s2 => shTail f x (shHide s2 x.params)) else (false, st)).2) := by
  refine SC.of Tryz.func98 rfl (lb rfl) fun F ρ w => ?_
  have hi0 : (x.kids.map eKid)[0]? = some [nodes ka] := by rw [hkids]; rfl
  have hm0 : ka ∈ x.kids := by rw [hkids]; simp
  have hs1 : (shSets f.types st x.params (List.replicate x.params.length 0)).2.length = f.types.length := (shSets_length ..).trans hs
  have hs2 : (shList u f deep ⟨false, true, [], r8of f.types x.params, r8of f.types x.outs⟩ (shSets f.types st x.params (List.replicate x.params.length 0)).2 ka).2.length = f.types.length := (shList_length ..).trans hs1
  have hs3 : (shHide (shList u f deep ⟨false, true, [], r8of f.types x.params, r8of f.types x.outs⟩ (shSets f.types st x.params (List.replicate x.params.length 0)).2 ka).2 x.params).length = f.types.length := (shHide_length ..).trans hs2
  refine Tr.seq <| Tr.region rfl <| WL.cons rfl rfl rfl ((ok_box rfl rfl)) <| cV rfl (oA rfl) <| WL.nil <| Tr.seq ?_
  refine Tr.cut (fr' := [(7, .ptr 107 0), (4, .pv (.ept [vInt x.kind, vInt x.op, vInt x.n, vStr x.name, ints x.args, ints x.outs, ints x.params, kids x.kids] 0)), (0, .ptr 3 0), (2, iInt deep)]) (σ' := look ((107, some (.box [iBool false, iBool true, .pv (.val (.slice none 0 0)), .pv (ints (r8of f.types x.params)), .pv (ints (r8of f.types x.outs))])) :: up (ckS u f 3 st))) ?_ ?_
  · refine Tr.drawn mixed (fun k => k ∈ ([3] : List Nat)) <| WA.run (fuel := 5) [0, 1, 2, 4, 5, 6] (by kernel_rfl) ((fun _ _ _ h => pn h.1)) (by kernel_rfl) <| rV rfl rfl (oM rfl) <| rV rfl rfl (oFe rfl tF42_6) <| rV rfl rfl (oLe Tryz.underlying35 rfl rfl) <| rV rfl rfl (oM rfl) <| rV rfl rfl (oFe rfl tF42_5) <| rV rfl rfl (oLe Tryz.underlying35 rfl rfl) <| WR.nil ?_
    refine WA.all (rs := [3, 9]) (by kernel_rfl) (by simp) ?_
    refine List.forall_mem_cons.2 ⟨?_, List.forall_mem_cons.2 ⟨?_, by simp⟩⟩
    · refine WI.op rfl rfl rfl (by intro t h; cases h <;> rfl) (fun k (h : _) => by (simp at h ⊢; omega)) (new_app rfl) (fun ρ w => ok_callr (sc_shTypes u f st hs x.params hbp) ent109 rfl rfl (Subs.refl _ _) (po2 rfl rfl) (by rfl) (fun k (h : _) => by (simp only [List.mem_cons, List.not_mem_nil, or_false] at h; rcases h with rfl <;> first | exact .inl rfl | exact .inr rfl | exact .inr (by decide))) rfl (by rfl)) ?_
      refine WA.all (rs := [7, 9]) (by kernel_rfl) (by simp) ?_
      refine List.forall_mem_cons.2 ⟨?_, List.forall_mem_cons.2 ⟨?_, by simp⟩⟩
      · refine WI.op rfl rfl rfl (by intro t h; cases h <;> rfl) (fun k (h : _) => by (simp at h ⊢; omega)) (new_app rfl) (fun ρ w => ok_callr (sc_shTypes u f st hs x.outs hbo) ent109 rfl rfl (Subs.refl _ _) (po2 rfl rfl) (by rfl) (fun k (h : _) => by (simp only [List.mem_cons, List.not_mem_nil, or_false] at h; rcases h with rfl <;> first | exact .inl rfl | exact .inr rfl | exact .inr (by decide))) rfl (by rfl)) <| WA.run (fuel := 2) [8] (by kernel_rfl) ((fun _ _ _ h => pn h.1)) (by kernel_rfl) <| rV rfl rfl (ok_build_pure rfl rfl tZ100 tP100 rfl (firmB_ok rfl) rfl) <| WR.nil <| WA.one (i := 9) (by kernel_rfl) <| WI.op rfl rfl rfl (by intro t h; cases h <;> rfl) (fun k (h : _) => by (simp at h ⊢; omega)) (new_one rfl) (fun ρ w => ok_alloc (k := 107) rfl tZ100 rfl rfl rfl rfl) <| WA.one (i := 10) (by kernel_rfl) ?_
        refine WI.op rfl rfl rfl (by intro t h; cases h <;> rfl) (fun k (h : _) => by (simp at h ⊢; omega)) (new_old rfl) (fun ρ w => ok_store_box_agg rfl rfl rfl rfl rfl (by simp) tS100 (firmL_ok rfl) (lb rfl)) ?_
        refine WA.done (by kernel_rfl) ?_
        refine ⟨rfl, Sub.of ⟨rfl, rfl, rfl, rfl, trivial⟩, ?_⟩
        funext k
        by_cases h7 : 107 = k
        · subst h7; rfl
        simp [look, look_app, beq_ne h7]
      refine WI.op rfl rfl rfl (by intro t h; cases h <;> rfl) (fun k (h : _) => by (simp at h ⊢; omega)) (new_one rfl) (fun ρ w => ok_alloc (k := 107) rfl tZ100 rfl rfl rfl rfl) <| WA.one (i := 7) (by kernel_rfl) <| WI.op rfl rfl rfl (by intro t h; cases h <;> rfl) (fun k (h : _) => by (simp at h ⊢; omega)) (new_app rfl) (fun ρ w => ok_callr (sc_shTypes u f st hs x.outs hbo) ent109 rfl rfl (Subs.refl _ _) (po2 rfl rfl) (by rfl) (fun k (h : _) => by (simp only [List.mem_cons, List.not_mem_nil, or_false] at h; rcases h with rfl <;> first | exact .inl rfl | exact .inr rfl | exact .inr (by decide))) rfl (by rfl)) <| WA.run (fuel := 1) [8] (by kernel_rfl) ((fun _ _ _ h => pn h.1)) (by kernel_rfl) <| rV rfl rfl (ok_build_pure rfl rfl tZ100 tP100 rfl (firmB_ok rfl) rfl) <| WR.nil <| WA.one (i := 10) (by kernel_rfl) ?_
      refine WI.op rfl rfl rfl (by intro t h; cases h <;> rfl) (fun k (h : _) => by (simp at h ⊢; omega)) (new_old rfl) (fun ρ w => ok_store_box_agg rfl rfl rfl rfl rfl (by simp) tS100 (firmL_ok rfl) (lb rfl)) ?_
      refine WA.done (by kernel_rfl) ?_
      refine ⟨rfl, Sub.of ⟨rfl, rfl, rfl, rfl, trivial⟩, ?_⟩
      funext k
      by_cases h7 : 107 = k
      · subst h7; rfl
      simp [look, look_app, beq_ne h7]
    refine WI.op rfl rfl rfl (by intro t h; cases h <;> rfl) (fun k (h : _) => by (simp at h ⊢; omega)) (new_one rfl) (fun ρ w => ok_alloc (k := 107) rfl tZ100 rfl rfl rfl rfl) <| WA.one (i := 3) (by kernel_rfl) <| WI.op rfl rfl rfl (by intro t h; cases h <;> rfl) (fun k (h : _) => by (simp at h ⊢; omega)) (new_app rfl) (fun ρ w => ok_callr (sc_shTypes u f st hs x.params hbp) ent109 rfl rfl (Subs.refl _ _) (po2 rfl rfl) (by rfl) (fun k (h : _) => by (simp only [List.mem_cons, List.not_mem_nil, or_false] at h; rcases h with rfl <;> first | exact .inl rfl | exact .inr rfl | exact .inr (by decide))) rfl (by rfl)) <| WA.one (i := 7) (by kernel_rfl) <| WI.op rfl rfl rfl (by intro t h; cases h <;> rfl) (fun k (h : _) => by (simp at h ⊢; omega)) (new_app rfl) (fun ρ w => ok_callr (sc_shTypes u f st hs x.outs hbo) ent109 rfl rfl (Subs.refl _ _) (po2 rfl rfl) (by rfl) (fun k (h : _) => by (simp only [List.mem_cons, List.not_mem_nil, or_false] at h; rcases h with rfl <;> first | exact .inl rfl | exact .inr rfl | exact .inr (by decide))) rfl (by rfl)) <| WA.run (fuel := 1) [8] (by kernel_rfl) ((fun _ _ _ h => pn h.1)) (by kernel_rfl) <| rV rfl rfl (ok_build_pure rfl rfl tZ100 tP100 rfl (firmB_ok rfl) rfl) <| WR.nil <| WA.one (i := 10) (by kernel_rfl) ?_
    refine WI.op rfl rfl rfl (by intro t h; cases h <;> rfl) (fun k (h : _) => by (simp at h ⊢; omega)) (new_old rfl) (fun ρ w => ok_store_box_agg rfl rfl rfl rfl rfl (by simp) tS100 (firmL_ok rfl) (lb rfl)) ?_
    refine WA.done (by kernel_rfl) ?_
    refine ⟨rfl, Sub.of ⟨rfl, rfl, rfl, rfl, trivial⟩, ?_⟩
    funext k
    by_cases h7 : 107 = k
    · subst h7; rfl
    simp [look, look_app, beq_ne h7]
  refine Tr.seq <| Tr.seq <| Tr.drawn mixed (fun k => k ∈ ([3, 107] : List Nat)) <| WA.run (fuel := 20) [0, 1, 2, 3, 4] (by kernel_rfl) ((fun _ _ _ h => h)) (by kernel_rfl) <| rV rfl rfl (oM rfl) <| rV rfl rfl (oFe rfl tF42_4) <| rV rfl rfl (oLe Tryz.underlying35 rfl rfl) <| rV rfl rfl (oFp rfl rfl tF100_3) <| rV rfl rfl (oLb Tryz.underlying35 rfl rfl rfl (by decide)) <| WR.nil <| WA.one (i := 5) (by kernel_rfl) <| WI.op rfl rfl rfl (by intro t h; cases h <;> rfl) (fun k (h : _) => by (simp at h ⊢; omega)) (new_app rfl) (fun ρ w => ok_callr (sc_shUses u f st hs x.args (r8of f.types x.params)) ent110 rfl rfl (Subs.refl _ _) (po2 rfl rfl) (by rfl) (fun k (h : _) => .inr trivial) rfl (by rfl)) ?_
  refine WA.run (fuel := 14) [6, 7, 8, 9, 10] (by kernel_rfl) ((fun _ _ _ h => h)) (by kernel_rfl) <| rV rfl rfl (oN rfl) <| rV rfl rfl (oM rfl) ?_
  refine WR.split (t := 24) rfl (fun hb24 => ?_) (fun hb24 => ?_)
  · refine rnV rfl rfl rfl <| rnV rfl rfl rfl <| rnV rfl rfl rfl <| WR.nil <| WA.takeNo (i := 11) (b := true) rfl (by kernel_rfl) (by kernel_rfl) (by kernel_rfl) ((fun _ _ _ h => h)) rfl rfl rfl rfl rfl rfl <| WA.run (fuel := 3) [12, 13, 14, 15, 16, 17, 18, 19, 20, 21] (by kernel_rfl) ((fun _ _ _ h => h)) (by kernel_rfl) <| rnV rfl rfl rfl <| rV rfl rfl (oT rfl rfl) <| rV rfl rfl (oM rfl) <| rnV rfl rfl rfl <| rnV rfl rfl rfl <| rnV rfl rfl rfl ?_
    refine rnV rfl rfl rfl <| rnV rfl rfl rfl <| rnV rfl rfl rfl <| rnV rfl rfl rfl <| WR.nil <| WA.takeNo (i := 22) (b := true) rfl (by kernel_rfl) (by kernel_rfl) (by kernel_rfl) ((fun _ _ _ h => h)) rfl rfl rfl rfl rfl rfl <| WA.run (fuel := 0) [23, 24] (by kernel_rfl) ((fun _ _ _ h => h)) (by kernel_rfl) <| rnV rfl rfl rfl <| rV rfl rfl (oT rfl rfl) <| WR.nil <| WA.done (by kernel_rfl) <| Tr.condT rfl ?_
    refine Tr.seq <| Tr.region rfl <| cV rfl (oA rfl) <| WL.nil <| Tr.ret ?_
    (have h2 : (if shUses f.types st x.args (r8of f.types x.params) then andQ (shSets f.types st x.params (List.replicate x.params.length 0)) (fun s1 => andQ (shList u f deep ⟨false, true, [], r8of f.types x.params, r8of f.types x.outs⟩ s1 ka) fun s2 => shTail f x (shHide s2 x.params)) else (false, st)).2 = st := (by simp_all [andQ, andP, shTail]; done)
     rw [h2]
     refine ret_ok rfl ?_ (po2 rfl rfl)
     clear h2
     simp_all [andQ, andP, shTail]
     done)
  refine ryV rfl rfl rfl (oM rfl) <| ryV rfl rfl rfl (oFe rfl tF42_6) <| ryV rfl rfl rfl (oLe Tryz.underlying35 rfl rfl) <| WR.nil <| WA.one (i := 11) (by kernel_rfl) <| WI.opYes rfl rfl rfl rfl rfl rfl (by intro t h; cases h <;> rfl) (fun k (h : _) => by (simp at h ⊢; omega)) (new_app rfl) (fun ρ w => ok_callr (sc_shAll u f st hs x.params hbp) ent111 rfl rfl (Subs.refl _ _) (po2 rfl rfl) (by rfl) (fun k (h : _) => by (simp only [List.mem_cons, List.not_mem_nil, or_false] at h; rcases h with rfl | rfl <;> first | exact .inl rfl | exact .inr rfl | exact .inr (by decide))) rfl (by rfl)) <| WA.run (fuel := 3) [12, 13, 14, 15, 16, 17, 18, 19, 20, 21] (by kernel_rfl) ((fun _ _ _ h => h)) (by kernel_rfl) <| ryV rfl rfl rfl (oN rfl) <| rV rfl rfl (oF rfl rfl) <| rV rfl rfl (oM rfl) ?_
  refine WR.split (t := 31) rfl (fun hb31 => ?_) (fun hb31 => ?_)
  · refine rnV rfl rfl rfl <| rnV rfl rfl rfl <| rnV rfl rfl rfl <| rnV rfl rfl rfl <| rnV rfl rfl rfl <| rnV rfl rfl rfl <| rnV rfl rfl rfl <| WR.nil <| WA.takeNo (i := 22) (b := true) rfl (by kernel_rfl) (by kernel_rfl) (by kernel_rfl) ((fun _ _ _ h => h)) rfl rfl rfl rfl rfl rfl <| WA.run (fuel := 0) [23, 24] (by kernel_rfl) ((fun _ _ _ h => h)) (by kernel_rfl) <| rnV rfl rfl rfl <| rV rfl rfl (oT rfl rfl) ?_
    refine WR.nil <| WA.done (by kernel_rfl) <| Tr.condT rfl <| Tr.seq <| Tr.region rfl <| cV rfl (oA rfl) <| WL.nil <| Tr.ret ?_
    (have h2 : (if shUses f.types st x.args (r8of f.types x.params) then andQ (shSets f.types st x.params (List.replicate x.params.length 0)) (fun s1 => andQ (shList u f deep ⟨false, true, [], r8of f.types x.params, r8of f.types x.outs⟩ s1 ka) fun s2 => shTail f x (shHide s2 x.params)) else (false, st)).2 = (shSets f.types st x.params (List.replicate x.params.length 0)).2 := (by simp_all [andQ, andP, shTail]; done)
     rw [h2]
     refine ret_ok rfl ?_ (po2 rfl rfl)
     clear h2
     simp_all [andQ, andP, shTail]
     done)
  refine ryV rfl rfl rfl (oM rfl) <| ryV rfl rfl rfl (oFe rfl tF42_7) <| ryV rfl rfl rfl (oLe Tryz.underlying40 rfl rfl) <| ryV rfl rfl rfl (ok_index_seq rfl rfl rfl Tryz.underlying40 hi0 tS43 rfl (by rfl)) <| ryV rfl rfl rfl (oLe Tryz.underlying43 rfl rfl) <| ryV rfl rfl rfl (ok_load_box_pure rfl rfl rfl Tryz.underlying100 rfl tS100 (Nat.le_of_ble_eq_true rfl) rfl (by decide)) <| ryV rfl rfl rfl (oM rfl) <| WR.nil <| WA.one (i := 22) (by kernel_rfl) <| WI.opYes rfl rfl rfl rfl rfl rfl (by intro t h; cases h <;> rfl) (fun k (h : _) => by (simp at h ⊢; omega)) (new_app rfl) (fun ρ w => ok_callr (ih ka hm0 ⟨false, true, [], r8of f.types x.params, r8of f.types x.outs⟩ (shSets f.types st x.params (List.replicate x.params.length 0)).2 hs1) ent60 rfl rfl (Subs.same rfl (Subs.same rfl (Subs.cons (fun _ _ _ _ h => sub_pv (q := whv ⟨false, true, [], r8of f.types x.params, r8of f.types x.outs⟩) (PSub.agg (ps := [vBool false, vBool true, .val (.slice none 0 0), ints (r8of f.types x.params), ints (r8of f.types x.outs)]) (And.intro (PSub.refl _) (And.intro (PSub.refl _) (And.intro PSub.nil (And.intro (PSub.refl _) (And.intro (PSub.refl _) trivial)))))) h) (Subs.same rfl Subs.nil)))) (po2 rfl rfl) (by rfl) (fun k (h : _) => by (simp only [List.mem_cons, List.not_mem_nil, or_false] at h; rcases h with rfl | rfl <;> first | exact .inl rfl | exact .inr rfl | exact .inr (by decide))) rfl (by rfl)) <| WA.run (fuel := 0) [23, 24] (by kernel_rfl) ((fun _ _ _ h => h)) (by kernel_rfl) <| ryV rfl rfl rfl (oN rfl) ?_
  refine rV rfl rfl (oF rfl rfl) <| WR.nil <| WA.done (by kernel_rfl) ?_
  refine Tr.cond rfl (fun hc41 => ?_) (fun hc41 => ?_)
  · refine Tr.seq <| Tr.region rfl <| cV rfl (oA rfl) <| WL.nil <| Tr.ret ?_
    (have h2 : (if shUses f.types st x.args (r8of f.types x.params) then andQ (shSets f.types st x.params (List.replicate x.params.length 0)) (fun s1 => andQ (shList u f deep ⟨false, true, [], r8of f.types x.params, r8of f.types x.outs⟩ s1 ka) fun s2 => shTail f x (shHide s2 x.params)) else (false, st)).2 = (shList u f deep ⟨false, true, [], r8of f.types x.params, r8of f.types x.outs⟩ (shSets f.types st x.params (List.replicate x.params.length 0)).2 ka).2 := (by simp_all [andQ, andP, shTail]; done)
     rw [h2]
     refine ret_ok rfl ?_ (po2 rfl rfl)
     clear h2
     simp_all [andQ, andP, shTail]
     done)
  refine Tr.skip <| Tr.seq ?_
  have hpin : ∀ v ∈ x.params, 0 ≤ v ∧ v < f.types.length := by
    have hp1 : (shSets f.types st x.params (List.replicate x.params.length 0)).1 = true := by simp_all
    exact shSets_in hp1
  refine Tr.region rfl <| cV rfl (oM rfl) <| cV rfl (oFe rfl tF42_6) <| cV rfl (oLe Tryz.underlying35 rfl rfl) <| WL.cons rfl rfl rfl (ok_callr (sc_shHide u f (shList u f deep ⟨false, true, [], r8of f.types x.params, r8of f.types x.outs⟩ (shSets f.types st x.params (List.replicate x.params.length 0)).2 ka).2 hs2 x.params hpin) ent85 rfl rfl (Subs.refl _ _) (po2 rfl rfl) (by rfl) (fun k (h : _) => .inr h) rfl (by rfl)) <| WL.nil <| Tr.seq <| Tr.region rfl <| cV rfl (oFe rfl tF42_5) <| cV rfl (oLe Tryz.underlying35 rfl rfl) <| cV rfl (oSm Tryz.underlying35 rfl) <| cV rfl (oB rfl rfl rfl) ?_
  refine cV rfl (oM rfl) ?_
  refine WL.split (t := 50) rfl (fun hb50 => ?_) (fun hb50 => ?_)
  · refine nV rfl rfl <| nV rfl rfl <| nV rfl rfl <| cV rfl (oT rfl rfl) <| cV rfl (oM rfl) <| yV rfl rfl (oM rfl) <| yV rfl rfl (oFe rfl tF42_5) <| yV rfl rfl (oLe Tryz.underlying35 rfl rfl) <| WL.yes rfl rfl rfl rfl rfl rfl (ok_callr (sc_shAll u f (shHide (shList u f deep ⟨false, true, [], r8of f.types x.params, r8of f.types x.outs⟩ (shSets f.types st x.params (List.replicate x.params.length 0)).2 ka).2 x.params) hs3 x.outs hbo) ent111 rfl rfl (Subs.refl _ _) (po2 rfl rfl) (by rfl) (fun k (h : _) => .inr h) rfl (by rfl)) <| cV rfl (oT rfl rfl) <| cV rfl (oA rfl) <| WL.nil ?_
    refine Tr.ret ?_
    (have h2 : (if shUses f.types st x.args (r8of f.types x.params) then andQ (shSets f.types st x.params (List.replicate x.params.length 0)) (fun s1 => andQ (shList u f deep ⟨false, true, [], r8of f.types x.params, r8of f.types x.outs⟩ s1 ka) fun s2 => shTail f x (shHide s2 x.params)) else (false, st)).2 = (shSets f.types (shHide (shList u f deep ⟨false, true, [], r8of f.types x.params, r8of f.types x.outs⟩ (shSets f.types st x.params (List.replicate x.params.length 0)).2 ka).2 x.params) x.outs (List.replicate x.outs.length 0)).2 := (by simp_all [andQ, andP, shTail]; done)
     rw [h2]
     refine ret_ok rfl ?_ (po2 rfl rfl)
     clear h2
     simp_all [andQ, andP, shTail]
     done)
  refine yV rfl rfl (ok_load_ept_agg rfl rfl Tryz.underlying42 rfl tS42 (Nat.le_of_ble_eq_true rfl)) <| WL.yes rfl rfl rfl rfl rfl rfl (ok_callq (sc_shClosed _) ent84 rfl rfl (Subs.refl _ _) rfl) <| yV rfl rfl (oN rfl) <| cV rfl (oF rfl rfl) <| cV rfl (oM rfl) ?_
  refine WL.split (t := 55) rfl (fun hb55 => ?_) (fun hb55 => ?_)
  · refine yV rfl rfl (oM rfl) <| yV rfl rfl (oFe rfl tF42_5) <| yV rfl rfl (oLe Tryz.underlying35 rfl rfl) <| WL.yes rfl rfl rfl rfl rfl rfl (ok_callr (sc_shAll u f (shHide (shList u f deep ⟨false, true, [], r8of f.types x.params, r8of f.types x.outs⟩ (shSets f.types st x.params (List.replicate x.params.length 0)).2 ka).2 x.params) hs3 x.outs hbo) ent111 rfl rfl (Subs.refl _ _) (po2 rfl rfl) (by rfl) (fun k (h : _) => .inr h) rfl (by rfl)) <| cV rfl (oT rfl rfl) <| cV rfl (oA rfl) <| WL.nil <| Tr.ret ?_
    (have h2 : (if shUses f.types st x.args (r8of f.types x.params) then andQ (shSets f.types st x.params (List.replicate x.params.length 0)) (fun s1 => andQ (shList u f deep ⟨false, true, [], r8of f.types x.params, r8of f.types x.outs⟩ s1 ka) fun s2 => shTail f x (shHide s2 x.params)) else (false, st)).2 = (shSets f.types (shHide (shList u f deep ⟨false, true, [], r8of f.types x.params, r8of f.types x.outs⟩ (shSets f.types st x.params (List.replicate x.params.length 0)).2 ka).2 x.params) x.outs (List.replicate x.outs.length 0)).2 := (by simp_all [andQ, andP, shTail]; done)
     rw [h2]
     refine ret_ok rfl ?_ (po2 rfl rfl)
     clear h2
     simp_all [andQ, andP, shTail]
     done)
  refine nV rfl rfl <| nV rfl rfl <| nV rfl rfl <| nV rfl rfl <| cV rfl (oF rfl rfl) <| cV rfl (oA rfl) <| WL.nil <| Tr.ret ?_
  (have h2 : (if shUses f.types st x.args (r8of f.types x.params) then andQ (shSets f.types st x.params (List.replicate x.params.length 0)) (fun s1 => andQ (shList u f deep ⟨false, true, [], r8of f.types x.params, r8of f.types x.outs⟩ s1 ka) fun s2 => shTail f x (shHide s2 x.params)) else (false, st)).2 = (shHide (shList u f deep ⟨false, true, [], r8of f.types x.params, r8of f.types x.outs⟩ (shSets f.types st x.params (List.replicate x.params.length 0)).2 ka).2 x.params) := (by simp_all [andQ, andP, shTail]; done)
   rw [h2]
   refine ret_ok rfl ?_ (po2 rfl rfl)
   clear h2
   simp_all [andQ, andP, shTail]
   done)
set_option maxRecDepth 8000 in
set_option maxHeartbeats 2000000 in
theorem sc_shNode (u : Un) (f : Fl) (hg : ∀ g ∈ u.flows, 0 ≤ g.params ∧ g.params ≤ g.types.length) (x : Nd) (deep : Int) (hd : 0 ≤ deep ∧ deep ≤ 100) (wh : Wh) (st : List Int) (hs : st.length = f.types.length) (hbo : x.outs.length ≤ 1073741824) (hbp : x.params.length ≤ 1073741824) (ih : ∀ q ∈ x.kids, ∀ (w : Wh) (st : List Int), st.length = f.types.length → SC Tryz.prog 60 [.ptr 3 0, .pv (nodes q), .pv (whv w), iInt (deep + 1)] (ckS u f 3 st) (fun k => k = 3) (iBool (shList u f (deep + 1) w st q).1) (ckS u f 3 (shList u f (deep + 1) w st q).2)) : SC Tryz.prog 83 [.ptr 3 0, .pv (ndv x), .pv (whv wh), iInt deep] (ckS u f 3 st) (fun k => k = 3) (iBool (shNode u f deep wh st x).1) (ckS u f 3 (shNode u f deep wh st x).2) := by
  refine SC.of Tryz.func83 rfl (lb rfl) fun F ρ w => ?_
  refine Tr.seq <| Tr.region rfl <| WL.cons rfl rfl rfl ((ok_box rfl rfl)) <| WL.cons rfl rfl rfl ((ok_box rfl rfl)) <| cV rfl (oA rfl) <| WL.nil <| Tr.seq <| Tr.block <| Tr.seq <| Tr.region rfl <| cV rfl (ok_load_ept_agg rfl rfl Tryz.underlying42 rfl tS42 (Nat.le_of_ble_eq_true rfl)) <| WL.cons rfl rfl rfl (ok_callq (sc_shBare _) ent96 rfl rfl (Subs.refl _ _) rfl) ?_
  refine cV rfl (oN rfl) <| cV rfl (oA rfl) <| WL.nil ?_
  refine Tr.cond rfl (fun hc9 => ?_) (fun hc9 => ?_)
  · refine Tr.seq <| Tr.region rfl <| cV rfl (oA rfl) <| WL.nil <| Tr.ret ?_
    have hbare : r8bare x = false := by simpa using hc9
    rw [shNode_bare _ _ _ _ _ hbare]
    exact ret_ok rfl rfl (po2 rfl rfl)
  have hbare : r8bare x = true := by simpa using hc9
  refine Tr.seq <| Tr.region rfl <| cV rfl (oFe rfl tF42_0) <| cV rfl (oLe Tryz.underlying3 rfl rfl) <| cV rfl (oB rfl rfl rfl) <| cV rfl (oA rfl) <| WL.nil ?_
  refine Tr.cond rfl (fun hc13 => ?_) (fun hc13 => ?_)
  · have hk10 : x.kind = 10 := by simpa using hc13
    obtain ⟨ka, kb, hkids⟩ := r8bare_if hbare hk10
    refine Tr.seq <| Tr.region rfl <| cV rfl (oM rfl) <| cV rfl (ok_load_ept_agg rfl rfl Tryz.underlying42 rfl tS42 (Nat.le_of_ble_eq_true rfl)) <| cV rfl (ok_load_ept_agg rfl rfl Tryz.underlying100 rfl tS100 (Nat.le_of_ble_eq_true rfl)) <| cV rfl (oM rfl) <| cV rfl (oB rfl rfl (i64_add rfl (by omega))) <| WL.cons rfl rfl rfl (ok_callr (sc_shChoice u f st hs x ka kb hkids wh (deep + 1) hbo ih) ent97 rfl rfl (Subs.refl _ _) (po2 rfl rfl) (by rfl) (fun k (h : _) => .inr h) rfl (by rfl)) <| cV rfl (oA rfl) <| WL.nil <| Tr.ret ?_
    rw [shNode_if _ _ _ _ _ hbare hk10 hkids]
    exact ret_ok rfl rfl (po2 rfl rfl)
  refine Tr.seq <| Tr.region rfl <| cV rfl (oFe rfl tF42_0) <| cV rfl (oLe Tryz.underlying3 rfl rfl) <| cV rfl (oB rfl rfl rfl) <| cV rfl (oA rfl) <| WL.nil ?_
  refine Tr.cond rfl (fun hc23 => ?_) (fun hc23 => ?_)
  · have hk11 : x.kind = 11 := by simpa using hc23
    obtain ⟨ka, hkids⟩ := r8bare_loop hbare hk11
    refine Tr.seq <| Tr.region rfl <| cV rfl (oM rfl) <| cV rfl (ok_load_ept_agg rfl rfl Tryz.underlying42 rfl tS42 (Nat.le_of_ble_eq_true rfl)) <| cV rfl (oM rfl) <| cV rfl (oB rfl rfl (i64_add rfl (by omega))) <| WL.cons rfl rfl rfl (ok_callr (sc_shLoop u f st hs x ka hkids (deep + 1) hbo hbp ih) ent98 rfl rfl (Subs.refl _ _) (po2 rfl rfl) (by rfl) (fun k (h : _) => .inr h) rfl (by rfl)) <| cV rfl (oA rfl) <| WL.nil <| Tr.ret ?_
    rw [shNode_loop _ _ _ _ _ hbare hk11 hkids]
    exact ret_ok rfl rfl (po2 rfl rfl)
  refine Tr.seq <| Tr.region rfl <| cV rfl (ok_load_ept_agg rfl rfl Tryz.underlying42 rfl tS42 (Nat.le_of_ble_eq_true rfl)) <| WL.cons rfl rfl rfl (ok_callq (sc_shEnds _) ent99 rfl rfl (Subs.refl _ _) rfl) <| cV rfl (oA rfl) <| WL.nil ?_
  refine Tr.cond rfl (fun hc32 => ?_) (fun hc32 => ?_)
  · refine Tr.seq <| Tr.region rfl <| cV rfl (oM rfl) <| cV rfl (ok_load_ept_agg rfl rfl Tryz.underlying42 rfl tS42 (Nat.le_of_ble_eq_true rfl)) <| cV rfl (ok_load_ept_agg rfl rfl Tryz.underlying100 rfl tS100 (Nat.le_of_ble_eq_true rfl)) <| WL.cons rfl rfl rfl (ok_callr (sc_shEnd u f st hs x wh) ent100 rfl rfl (Subs.refl _ _) (po2 rfl rfl) (by rfl) (fun k (h : _) => .inr h) rfl (by rfl)) <| cV rfl (oA rfl) <| WL.nil <| Tr.ret ?_
    rw [shNode_end _ _ _ _ _ hbare hc13 hc23 hc32]
    exact ret_ok rfl rfl (po2 rfl rfl)
  refine Tr.skip <| Tr.seq <| Tr.region rfl <| cV rfl (oM rfl) <| cV rfl (ok_load_ept_agg rfl rfl Tryz.underlying42 rfl tS42 (Nat.le_of_ble_eq_true rfl)) <| WL.cons rfl rfl rfl (ok_callr (sc_shSimple u f st hs hg x) ent101 rfl rfl (Subs.refl _ _) (po2 rfl rfl) (by rfl) (fun k (h : _) => .inr h) rfl (by rfl)) <| cV rfl (oA rfl) <| WL.nil <| Tr.ret ?_
  rw [shNode_simple _ _ _ _ _ hbare hc13 hc23 hc32]
  exact ret_ok rfl rfl (po2 rfl rfl)
set_option maxRecDepth 8000 in
set_option maxHeartbeats 2000000 in
theorem sc_shList_aux (N : Nat) : ∀ (u : Un) (f : Fl) (hg : ∀ g ∈ u.flows, 0 ≤ g.params ∧ g.params ≤ g.types.length) (l : List Nd) (deep : Int) (hd : 0 ≤ deep ∧ deep ≤ 101) (wh : Wh) (st : List Int) (hs : st.length = f.types.length) (hb : lsW l ≤ 1073741824), SizeOf.sizeOf l < N → SC Tryz.prog 60 [.ptr 3 0, .pv (nodes l), .pv (whv wh), iInt deep] (ckS u f 3 st) (fun k => k = 3) (iBool (shList u f deep wh st l).1) (ckS u f 3 (shList u f deep wh st l).2) := by
  induction N with
  | zero => intro u f hg l deep hd wh st hs hb hN; exact absurd hN (Nat.not_lt_zero _)
  | succ N ih =>
    intro u f hg l deep hd wh st hs hb hN
    refine SC.of Tryz.func60 rfl (lb rfl) fun F ρ w => ?_
    refine Tr.lenOf (t := 1) rfl (fun hl => ?_)
    simp only [List.length_map] at hl
    refine Tr.seq <| Tr.region rfl <| WL.cons rfl rfl rfl ((ok_box rfl rfl)) <| cV rfl (oA rfl) <| WL.nil <| Tr.seq <| Tr.seq <| Tr.region rfl <| cV rfl (oM rfl) <| cV rfl (oSm Tryz.underlying43 rfl) <| cV rfl (oM rfl) <| WL.nil ?_
    refine Tr.block <| Tr.sub (Sub.of (fr' := [(15, iInt 0), (14, iInt l.length), (13, .pv (nodes l)), (6, .pv (.ept [vBool wh.If, vBool wh.Loop, ints wh.Yield, ints wh.Next, ints wh.Left] 0)), (0, .ptr 3 0), (1, .pv (nodes l)), (3, iInt deep)]) ⟨rfl, rfl, rfl, rfl, rfl, rfl, rfl, trivial⟩) ?_
    refine Tr.loop (fun fr σ m => ∃ (k : Nat) (s : List Int), (k ≤ l.length) ∧ (shGo u f deep wh st l = shGo u f deep wh s (l.drop k)) ∧ (s.length = f.types.length) ∧ fr = [(15, iInt k), (14, iInt l.length), (13, .pv (nodes l)), (6, .pv (.ept [vBool wh.If, vBool wh.Loop, ints wh.Yield, ints wh.Next, ints wh.Left] 0)), (0, .ptr 3 0), (1, .pv (nodes l)), (3, iInt deep)] ∧ σ = look (up (ckS u f 3 s)) ∧ m = l.length - k) (n := l.length - 0) ?_ ?_
    · exact ⟨0, st, Nat.zero_le _, rfl, hs, rfl, rfl, rfl⟩
    rintro fr σ m ⟨k, s, hI0, hI1, hI2, rfl, rfl, rfl⟩
    refine Tr.seq <| Tr.region rfl <| cV rfl (oB rfl rfl rfl) <| WL.nil <| Tr.seq ?_
    refine Tr.cond rfl (fun hc16 => ?_) (fun hc16 => ?_)
    · have hlt : k < l.length := by simpa using hc16
      have hd2 := List.drop_eq_getElem_cons hlt
      have hm := List.getElem_mem hlt
      have hi := nodes_get (List.getElem?_eq_getElem hlt)
      generalize l[k] = x at hd2 hm hi
      have hWx := ndW_eq x
      have hWl := ndW_mem hm
      have hxo : x.outs.length ≤ 1073741824 := by omega
      have hxp : x.params.length ≤ 1073741824 := by omega
      refine Tr.skip <| Tr.seq <| Tr.block <| Tr.seq <| Tr.region rfl <| cV rfl (oM rfl) <| cV rfl (ok_index_seq rfl rfl rfl Tryz.underlying43 hi tS42 rfl (by rfl)) <| cV rfl (ok_load_ept_agg rfl rfl Tryz.underlying42 rfl tS42 (Nat.le_of_ble_eq_true rfl)) <| WL.cons rfl rfl rfl (ok_alloc (k := 110) rfl tZ42 rfl rfl rfl rfl) <| cV rfl (oA rfl) ?_
      refine WL.cons0 rfl rfl (ok_store_box_agg rfl rfl rfl rfl rfl (by simp) tS42 (firmL_ok rfl) (lb rfl)) ?_
      refine WL.nil <| Tr.seq <| Tr.freezeBox (t := 10) (k := 110) rfl rfl rfl ?_
      refine Tr.heap (σ' := look (up (ckS u f 3 s))) (fun k => by
        simp only [look]
        by_cases h : 110 = k
        · subst h; rfl
        · simp [beq_ne h]) ?_
      refine Tr.region rfl <| cV rfl (oM rfl) <| cV rfl (oB rfl rfl rfl) <| cV rfl (oM rfl) ?_
      refine WL.split (t := 22) rfl (fun hb22 => ?_) (fun hb22 => ?_)
      · refine nV rfl rfl <| nV rfl rfl <| nV rfl rfl <| nV rfl rfl <| nV rfl rfl <| nV rfl rfl <| cV rfl (oT rfl rfl) <| cV rfl (oM rfl) <| nV rfl rfl <| nV rfl rfl <| nV rfl rfl <| nV rfl rfl ?_
        refine nV rfl rfl <| nV rfl rfl <| nV rfl rfl <| nV rfl rfl <| cV rfl (oT rfl rfl) <| WL.nil <| Tr.condT rfl <| Tr.seq <| Tr.region rfl <| cV rfl (oA rfl) <| WL.nil <| Tr.ret ?_
        (have h2 : shList u f deep wh st l = (false, s) := by
           unfold shList
           rw [hI1, hd2]
           unfold shGo
           rw [if_pos (by simpa using hb22)]
           simp [andQ]
         rw [h2]
         exact ret_ok rfl rfl (po2 rfl rfl))
      refine yV rfl rfl (oM rfl) <| yV rfl rfl (ok_load_ept_agg rfl rfl Tryz.underlying42 rfl tS42 (Nat.le_of_ble_eq_true rfl)) <| yV rfl rfl (ok_load_ept_agg rfl rfl Tryz.underlying100 rfl tS100 (Nat.le_of_ble_eq_true rfl)) <| yV rfl rfl (oM rfl) <| WL.yes rfl rfl rfl rfl rfl rfl (ok_callr (sc_shNode u f hg x deep ⟨hd.1, by simp at hb22; omega⟩ wh s hI2 hxo hxp (fun q hq w st hst => ih u f hg q (deep + 1) ⟨by omega, by simp at hb22; omega⟩ w st hst (by have := kdW_mem hq; omega) (Nat.lt_of_lt_of_le (kid_lt hm rfl hq) (Nat.le_of_lt_succ hN)))) ent83 rfl rfl (Subs.refl _ _) (po2 rfl rfl) (by rfl) (fun k (h : _) => .inr h) rfl (by rfl)) <| yV rfl rfl (oN rfl) <| cV rfl (oF rfl rfl) <| cV rfl (oM rfl) ?_
      refine WL.split (t := 30) rfl (fun hb30 => ?_) (fun hb30 => ?_)
      · refine nV rfl rfl <| nV rfl rfl <| nV rfl rfl <| nV rfl rfl <| nV rfl rfl <| nV rfl rfl <| nV rfl rfl <| nV rfl rfl <| cV rfl (oT rfl rfl) <| WL.nil <| Tr.condT rfl <| Tr.seq ?_
        refine Tr.region rfl <| cV rfl (oA rfl) <| WL.nil <| Tr.ret ?_
        (have h2 : shList u f deep wh st l = (false, (shNode u f deep wh s x).2) := by
           unfold shList
           rw [hI1, hd2]
           unfold shGo
           rw [if_neg (by simpa using hb22)]
           have hn1 : (shNode u f deep wh s x).1 = false := by simpa using hb30
           simp [andQ, hn1]
         rw [h2]
         exact ret_ok rfl rfl (po2 rfl rfl))
      refine yV rfl rfl (ok_load_ept_agg rfl rfl Tryz.underlying42 rfl tS42 (Nat.le_of_ble_eq_true rfl)) <| WL.yes rfl rfl rfl rfl rfl rfl (ok_callq (sc_shClosed x) ent84 rfl rfl (Subs.refl _ _) rfl) <| yV rfl rfl (oM rfl) <| yV rfl rfl (oM rfl) <| yV rfl rfl (oSm Tryz.underlying43 rfl) <| yV rfl rfl (oB rfl rfl (i64_sub rfl (by omega))) <| yV rfl rfl (oB rfl rfl rfl) <| yV rfl rfl (ok_neq_bool rfl rfl rfl Tryz.underlying4) <| cV rfl (oF rfl rfl) <| WL.nil ?_
      refine Tr.cond rfl (fun hc39 => ?_) (fun hc39 => ?_)
      · refine Tr.seq <| Tr.region rfl <| cV rfl (oA rfl) <| WL.nil <| Tr.ret ?_
        (have h2 : shList u f deep wh st l = (false, (shNode u f deep wh s x).2) := by
           unfold shList
           rw [hI1, hd2]
           unfold shGo
           rw [if_neg (by simpa using hb22)]
           have hn1 : (shNode u f deep wh s x).1 = true := by simpa using hb30
           have hcl : (r8Closed x != (l.drop (k + 1)).isEmpty) = true := by rw [drop_isEmpty hlt]; simpa using hc39
           simp [andQ, hn1, hcl]
         rw [h2]
         exact ret_ok rfl rfl (po2 rfl rfl))
      refine Tr.skip <| Tr.region rfl <| cV rfl (oB rfl rfl (i64_add rfl (by omega))) <| cV rfl (oM rfl) <| WL.nil ?_
      refine ⟨_, _, ?_, Sub.of (fr' := [(15, iInt (k + 1)), (14, iInt l.length), (13, .pv (nodes l)), (6, .pv (.ept [vBool wh.If, vBool wh.Loop, ints wh.Yield, ints wh.Next, ints wh.Left] 0)), (0, .ptr 3 0), (1, .pv (nodes l)), (3, iInt deep)]) ⟨rfl, rfl, rfl, rfl, rfl, rfl, rfl, trivial⟩, (k + 1), (shNode u f deep wh s x).2, ?_, ?_, ?_, rfl, (look_app_same rfl), rfl⟩
      · omega
      · omega
      · rw [hI1, hd2]
        have hn1 : (shNode u f deep wh s x).1 = true := by simpa using hb30
        have hcl : (r8Closed x != (l.drop (k + 1)).isEmpty) = false := by rw [drop_isEmpty hlt]; simpa using hc39
        have hdp : ¬ deep > 100 := by simpa using hb22
        conv => lhs; unfold shGo
        simp only [if_neg hdp, andQ, hn1, hcl, if_true]
        rfl
      exact (shNode_length ..).trans hI2
    refine Tr.exit <| Tr.seq <| Tr.seq ?_
    have hgo2 : shGo u f deep wh st l = (true, s) := by rw [hI1, List.drop_eq_nil_of_le (by simpa using hc16)]; simp [shGo]
    have hgo : (shGo u f deep wh st l).1 = true := by rw [hgo2]
    have hs0 := hI2
    generalize s = s0 at hgo2 hs0 ⊢
    refine Tr.region rfl <| cV rfl (oM rfl) <| cV rfl (oSm Tryz.underlying43 rfl) <| cV rfl (oM rfl) <| WL.nil <| Tr.block <| Tr.sub (Sub.of (fr' := [(43, iInt 0), (42, iInt l.length), (41, .pv (nodes l)), (0, .ptr 3 0), (1, .pv (nodes l))]) ⟨rfl, rfl, rfl, rfl, rfl, trivial⟩) ?_
    refine Tr.loop (fun fr σ m => ∃ (k : Nat) (s : List Int), (k ≤ l.length) ∧ (shHideAll s0 l = shHideAll s (l.drop k)) ∧ (s.length = f.types.length) ∧ fr = [(43, iInt k), (42, iInt l.length), (41, .pv (nodes l)), (0, .ptr 3 0), (1, .pv (nodes l))] ∧ σ = look (up (ckS u f 3 s)) ∧ m = l.length - k) (n := l.length - 0) ?_ ?_
    · exact ⟨0, s0, Nat.zero_le _, rfl, hs0, rfl, rfl, rfl⟩
    rintro fr σ m ⟨k, s, hJ0, hJ1, hJ2, rfl, rfl, rfl⟩
    refine Tr.seq <| Tr.region rfl <| cV rfl (oB rfl rfl rfl) <| WL.nil <| Tr.seq ?_
    refine Tr.cond rfl (fun hc44 => ?_) (fun hc44 => ?_)
    · have hlt : k < l.length := by simpa using hc44
      have hd2 := List.drop_eq_getElem_cons hlt
      have hm := List.getElem_mem hlt
      have hi := nodes_get (List.getElem?_eq_getElem hlt)
      generalize l[k] = x at hd2 hm hi
      refine Tr.skip <| Tr.seq <| Tr.block <| Tr.seq <| Tr.region rfl <| cV rfl (ok_index_seq rfl rfl rfl Tryz.underlying43 hi tS42 rfl (by rfl)) <| cV rfl (ok_load_ept_agg rfl rfl Tryz.underlying42 rfl tS42 (Nat.le_of_ble_eq_true rfl)) <| WL.cons rfl rfl rfl (ok_alloc (k := 112) rfl tZ42 rfl rfl rfl rfl) ?_
      refine WL.cons0 rfl rfl (ok_store_box_agg rfl rfl rfl rfl rfl (by simp) tS42 (firmL_ok rfl) (lb rfl)) ?_
      refine WL.nil <| Tr.freezeBox (t := 12) (k := 112) rfl rfl rfl ?_
      refine Tr.heap (σ' := look (up (ckS u f 3 s))) (fun k => by
        simp only [look]
        by_cases h : 112 = k
        · subst h; rfl
        · simp [beq_ne h]) ?_
      refine Tr.region rfl <| cV rfl (oM rfl) <| cV rfl (oFe rfl tF42_5) <| cV rfl (oLe Tryz.underlying35 rfl rfl) <| WL.cons rfl rfl rfl (ok_callr (sc_shHide u f s hJ2 x.outs (shGo_outs hgo x hm)) ent85 rfl rfl (Subs.refl _ _) (po2 rfl rfl) (by rfl) (fun k (h : _) => .inr h) rfl (by rfl)) <| WL.nil <| Tr.region rfl <| cV rfl (oB rfl rfl (i64_add rfl (by omega))) <| cV rfl (oM rfl) <| WL.nil ?_
      refine ⟨_, _, ?_, Sub.of (fr' := [(43, iInt (k + 1)), (42, iInt l.length), (41, .pv (nodes l)), (0, .ptr 3 0), (1, .pv (nodes l))]) ⟨rfl, rfl, rfl, rfl, rfl, trivial⟩, (k + 1), (shHide s x.outs), ?_, ?_, ?_, rfl, (look_app_same rfl), rfl⟩
      · omega
      · omega
      · rw [hJ1, hd2]; rfl
      exact (shHide_length ..).trans hJ2
    refine Tr.exit <| Tr.seq <| Tr.region rfl <| cV rfl (oM rfl) <| cV rfl (oSm Tryz.underlying43 rfl) <| cV rfl (oB rfl rfl rfl) <| cV rfl (oA rfl) <| WL.nil <| Tr.ret ?_
    have hge : l.length ≤ k := by simpa using hc44
    have h2 : shList u f deep wh st l = (decide ((l.length : Int) > 0), s) := by
      unfold shList
      rw [hgo2]
      simp only [andQ, if_true, shFin, hJ1, List.drop_eq_nil_of_le hge]
      rfl
    rw [h2]
    exact ret_ok rfl rfl (po2 rfl rfl)
theorem sc_shList (u : Un) (f : Fl) (hg : ∀ g ∈ u.flows, 0 ≤ g.params ∧ g.params ≤ g.types.length) (l : List Nd) (deep : Int) (hd : 0 ≤ deep ∧ deep ≤ 101) (wh : Wh) (st : List Int) (hs : st.length = f.types.length) (hb : lsW l ≤ 1073741824) : SC Tryz.prog 60 [.ptr 3 0, .pv (nodes l), .pv (whv wh), iInt deep] (ckS u f 3 st) (fun k => k = 3) (iBool (shList u f deep wh st l).1) (ckS u f 3 (shList u f deep wh st l).2) := sc_shList_aux _ u f hg l deep hd wh st hs hb (Nat.lt_succ_self _)
def seens (k n : Nat) : List Int := List.replicate k 1 ++ List.replicate (n - k) 0
def shFlow (u : Un) (f : Fl) : Bool := !(decide (f.params > 8) || decide ((f.types.length : Int) > 20000) || f.types.any (fun t => !isTy t)) && (shList u f 1 r8where0 (seens f.params.toNat f.types.length) f.body).1
theorem seens_length {k n : Nat} (h : k ≤ n) : (seens k n).length = n := by simp [seens]; omega
theorem seens_set {k n : Nat} (h : k < n) : (seens k n).set k 1 = seens (k + 1) n := by
  unfold seens
  rw [List.set_append_right _ _ (by simp), List.length_replicate, Nat.sub_self]
  have : n - k = (n - (k + 1)) + 1 := by omega
  rw [this, List.replicate_succ, List.set_cons_zero, List.replicate_succ', List.append_assoc]
  rfl
def bump (s : ByteArray) (es : List (Value × PV)) : List (Value × PV) :=
  mput (.string s) (match mfind (.string s) es with | some (.val (.int .i64 n)) => .val (.int .i64 (IntKind.i64.wrap (n + 1))) | _ => .val (.int .i64 1)) es
def shArr (a : Ar) : Bool := isName a.name && !decide (a.size < 1) && !decide (a.size > 1000)
def shFlw (f : Fl) : Bool := isName f.name && isTy f.ty && !decide (f.params < 0) && !decide (f.params > f.types.length)
def countA (es : List (Value × PV)) (l : List Ar) : List (Value × PV) := l.foldl (fun e a => bump a.name e) es
def countF (es : List (Value × PV)) (l : List Fl) : List (Value × PV) := l.foldl (fun e a => bump a.name e) es
def shHead (u : Un) : Bool := u.arrays.all shArr && u.flows.all shFlw && ((countF (countA [] u.arrays) u.flows).length : Int) == u.arrays.length + u.flows.length && r8main u
def shflows (u : Un) : List Fl → Int → Int × Int
  | [], _ => (0, 0)
  | f :: r, i => if shFlow u f then shflows u r (i + 1) else (80, i)
def shCheck (u : Un) : Int × Int := if shHead u then shflows u u.flows 0 else (1, 0)
theorem shHead_params {u : Un} (h : shHead u = true) : ∀ g ∈ u.flows, 0 ≤ g.params ∧ g.params ≤ g.types.length := by
  simp only [shHead, Bool.and_eq_true, List.all_eq_true] at h
  intro g hg
  have := h.1.1.2 g hg
  simp only [shFlw, Bool.and_eq_true, Bool.not_eq_true', decide_eq_false_iff_not] at this
  omega
set_option maxRecDepth 8000 in
set_option maxHeartbeats 2000000 in
theorem sc_shFlow (u : Un) (f : Fl) (hg : ∀ g ∈ u.flows, 0 ≤ g.params ∧ g.params ≤ g.types.length) (hp : 0 ≤ f.params ∧ f.params ≤ f.types.length) (hb : lsW f.body ≤ 536870912) : SC Tryz.prog 38 [.pv u.enc, .pv (.agg f.enc)] [] (fun _ => False) (iBool (shFlow u f)) [] := by
  refine SC.of Tryz.func38 rfl (lb rfl) fun F ρ w => ?_
  refine Tr.seq <| Tr.region rfl <| WL.cons rfl rfl rfl ((ok_box rfl rfl)) <| WL.cons rfl rfl rfl ((ok_box rfl rfl)) <| cV rfl (oA rfl) <| WL.nil <| Tr.seq <| Tr.seq <| Tr.region rfl <| cV rfl (oFe rfl tF51_2) <| cV rfl (oLe Tryz.underlying3 rfl rfl) <| cV rfl (oB rfl rfl rfl) ?_
  refine cV rfl (oM rfl) ?_
  refine WL.split (t := 10) rfl (fun hb10 => ?_) (fun hb10 => ?_)
  · refine nV rfl rfl <| nV rfl rfl <| nV rfl rfl <| nV rfl rfl <| cV rfl (oT rfl rfl) <| cV rfl (oM rfl) <| nV rfl rfl <| nV rfl rfl <| nV rfl rfl <| cV rfl (oT rfl rfl) <| WL.nil <| Tr.condT rfl ?_
    refine Tr.seq <| Tr.region rfl <| cV rfl (oA rfl) <| WL.nil <| Tr.ret ?_
    refine ret_ok rfl ?_ no_post
    have hno : (decide (f.params > 8) || decide ((f.types.length : Int) > 20000) || f.types.any (fun t => !isTy t)) = true := by
      simp_all
    simp only [shFlow, hno, Bool.not_true, Bool.false_and]
  refine yV rfl rfl (oFe rfl tF51_3) <| yV rfl rfl (oLe Tryz.underlying35 rfl rfl) <| yV rfl rfl (oSm Tryz.underlying35 rfl) <| yV rfl rfl (oB rfl rfl rfl) <| cV rfl (oF rfl rfl) <| cV rfl (oM rfl) ?_
  refine WL.split (t := 16) rfl (fun hb16 => ?_) (fun hb16 => ?_)
  · refine nV rfl rfl <| nV rfl rfl <| nV rfl rfl <| cV rfl (oT rfl rfl) <| WL.nil <| Tr.condT rfl <| Tr.seq <| Tr.region rfl <| cV rfl (oA rfl) <| WL.nil <| Tr.ret ?_
    refine ret_ok rfl ?_ no_post
    have hno : (decide (f.params > 8) || decide ((f.types.length : Int) > 20000) || f.types.any (fun t => !isTy t)) = true := by
      simp_all
    simp only [shFlow, hno, Bool.not_true, Bool.false_and]
  refine yV rfl rfl (oFe rfl tF51_3) <| yV rfl rfl (oLe Tryz.underlying35 rfl rfl) <| WL.yes rfl rfl rfl rfl rfl rfl (ok_callq (sc_has_int 59 [] [] rfl ent59 (fun t => !isTy t) f.types (fun x hm => (sc_flow1 x).anyR)) ent58 rfl rfl (Subs.same rfl (Subs.cons (fun _ _ _ _ h => sub_func h) Subs.nil)) rfl) <| cV rfl (oF rfl rfl) <| WL.nil ?_
  refine Tr.cond rfl (fun hc20 => ?_) (fun hc20 => ?_)
  · refine Tr.seq <| Tr.region rfl <| cV rfl (oA rfl) <| WL.nil <| Tr.ret ?_
    refine ret_ok rfl ?_ no_post
    have hno : (decide (f.params > 8) || decide ((f.types.length : Int) > 20000) || f.types.any (fun t => !isTy t)) = true := by
      simp_all
    simp only [shFlow, hno, Bool.not_true, Bool.false_and]
  · have hpar : f.params ≤ 8 ∧ f.types.length ≤ 20000 := by
      (simp_all <;> omega)
    have hpt : f.params.toNat ≤ f.types.length := by omega
    have hpi : f.params = (f.params.toNat : Int) := by omega
    have hno : (decide (f.params > 8) || decide ((f.types.length : Int) > 20000) || f.types.any (fun t => !isTy t)) = false := by
      clear hpi
      simp_all
    refine Tr.skip <| Tr.seq <| Tr.drawn mixed (fun k => k < 3) <| WA.run (fuel := 4) [0, 1, 2, 3, 4] (by kernel_rfl) ((fun _ _ _ h => h)) (by kernel_rfl) <| rV rfl rfl (ok_load_ept_agg rfl rfl Tryz.underlying25 rfl tS25 (Nat.le_of_ble_eq_true rfl)) <| rV rfl rfl (ok_load_ept_agg rfl rfl Tryz.underlying51 rfl tS51 (Nat.le_of_ble_eq_true rfl)) <| rV rfl rfl (oFe rfl tF51_3) <| rV rfl rfl (oLe Tryz.underlying35 rfl rfl) <| rV rfl rfl (oSm Tryz.underlying35 rfl) <| WR.nil <| WA.one (i := 5) (by kernel_rfl) <| WI.op rfl rfl rfl (by intro t h; cases h <;> rfl) (fun k (h : _) => h.elim) (new_one rfl) (fun ρ w => ok_makeSlice (k := 4) (s := ⟨3, 1⟩) rfl rfl rfl Tryz.underlying35 tZ3 tC3 rfl (by decide) (by omega) (by omega) rfl rfl rfl rfl) ?_
    refine WA.run (fuel := 2) [6] (by kernel_rfl) ((fun _ _ _ h => h)) (by kernel_rfl) <| rV rfl rfl (by exact ok_build rfl rfl tZ97 tP97 rfl (firmHp_ok (by (simp [firmHp, firm1, look, PV.one]; exact ⟨_, _, ⟨rfl, rfl⟩, by simp⟩)))) <| WR.nil <| WA.one (i := 7) (by kernel_rfl) <| WI.op rfl rfl rfl (by intro t h; cases h <;> rfl) (fun k (h : _) => h.elim) (new_one rfl) (fun ρ w => (ok_boxOwn (k := 3) rfl rfl rfl rfl rfl rfl rfl)) <| WA.run (fuel := 0) [8] (by kernel_rfl) ((fun _ _ _ h => h)) (by kernel_rfl) <| rV rfl rfl (oA rfl) <| WR.nil <| WA.done (by kernel_rfl) <| Tr.seq <| Tr.seq <| Tr.region rfl ?_
    refine cV rfl (oFe rfl tF51_2) <| cV rfl (oLe Tryz.underlying3 rfl rfl) <| cV rfl (oM rfl) <| WL.nil <| Tr.block <| Tr.sub (Sub.of (fr' := [(31, iInt 0), (30, iInt f.params), (5, .ptr 3 0), (2, .pv (.ept [arrs u.arrays, flws u.flows] 0)), (3, .pv (.ept [vStr f.name, vInt f.ty, vInt f.params, ints f.types, nodes f.body] 0))]) ⟨rfl, rfl, rfl, rfl, rfl, trivial⟩) ?_
    refine Tr.heap (σ' := look (up (ckS u f 3 (seens 0 f.types.length)))) (fun k => by
  rw [show (seens 0 f.types.length) = List.replicate f.types.length 0 by simp [seens]]
  simp only [ckS, up, List.map_cons, List.map_nil, look, List.length_map, List.length_replicate, List.map_replicate]
  by_cases h3 : 3 = k
  · subst h3; rfl
  · by_cases h4 : 4 = k
    · subst h4; rfl
    · simp [beq_ne h3, beq_ne h4]) ?_
    refine Tr.loop (fun fr σ m => ∃ (k : Nat), (k ≤ f.params.toNat) ∧ fr = [(31, iInt k), (30, iInt f.params), (5, .ptr 3 0), (2, .pv (.ept [arrs u.arrays, flws u.flows] 0)), (3, .pv (.ept [vStr f.name, vInt f.ty, vInt f.params, ints f.types, nodes f.body] 0))] ∧ σ = look (up (ckS u f 3 (seens k f.types.length))) ∧ m = f.params.toNat - k) (n := f.params.toNat - 0) ?_ ?_
    · exact ⟨0, Nat.zero_le _, rfl, rfl, rfl⟩
    rintro fr σ m ⟨k, hI0, rfl, rfl, rfl⟩
    refine Tr.seq <| Tr.region rfl <| cV rfl (oB rfl rfl rfl) <| WL.nil <| Tr.seq ?_
    refine Tr.cond rfl (fun hc32 => ?_) (fun hc32 => ?_)
    · have hkp : k < f.params.toNat := by simp at hc32; omega
      have hkt : k < f.types.length := by omega
      have hst : ((seens k f.types.length).map eInt)[k]? = some [vInt 0] := by
        rw [List.getElem?_map]
        simp only [seens]
        rw [List.getElem?_append_right (by simp)]
        simp [List.getElem?_replicate, eInt]
        omega
      have hstl : k < ((seens k f.types.length).map eInt).length := by rw [List.length_map, seens_length (by omega)]; exact hkt
      refine Tr.skip <| Tr.seq <| Tr.block <| Tr.seq <| Tr.region rfl <| cV rfl (oM rfl) <| cV rfl (oA rfl) <| WL.nil <| Tr.region rfl <| cV rfl (oM rfl) <| cV rfl (ok_nilCheck rfl rfl rfl) <| cV rfl (oFp rfl rfl tF97_2) ?_
      refine cV rfl (oLb Tryz.underlying35 rfl rfl rfl trivial) <| cV rfl (oM rfl) <| cV rfl (ok_index_row rfl rfl rfl rfl rfl Tryz.underlying35 tS3 (by assumption) (by rfl)) ?_
      refine WL.cons0 rfl rfl ((ok_store_row rfl rfl rfl rfl rfl (Nat.add_zero _).symm (by assumption) (by simp) tS3 rfl ((fun h => h)))) ?_
      refine WL.nil <| Tr.region rfl <| cV rfl (oB rfl rfl (i64_add rfl (by omega))) <| cV rfl (oM rfl) <| WL.nil ?_
      refine ⟨_, _, ?_, Sub.of (fr' := [(31, iInt (k + 1)), (30, iInt f.params), (5, .ptr 3 0), (2, .pv (.ept [arrs u.arrays, flws u.flows] 0)), (3, .pv (.ept [vStr f.name, vInt f.ty, vInt f.params, ints f.types, nodes f.body] 0))]) ⟨rfl, rfl, rfl, rfl, rfl, trivial⟩, (k + 1), ?_, rfl, (by rw [← seens_set hkt]; exact funext ckS_set), rfl⟩
      all_goals omega
    refine Tr.exit <| Tr.seq ?_
    have hkp : k = f.params.toNat := by simp at hc32; omega
    subst hkp
    refine Tr.region rfl <| cV rfl (oM rfl) <| cV rfl (oFe rfl tF51_4) <| cV rfl (oLe Tryz.underlying43 rfl rfl) <| cV rfl (ok_build_pure rfl rfl tZ100 tP100 rfl (firmB_ok rfl) rfl) <| WL.cons rfl rfl rfl (ok_callr (sc_shList u f hg f.body 1 ⟨by omega, by omega⟩ r8where0 (seens f.params.toNat f.types.length) (seens_length hpt) (by omega)) ent60 rfl rfl (Subs.same rfl (Subs.same rfl (Subs.cons (fun _ _ _ _ h => sub_pv (q := whv r8where0) (PSub.agg (ps := [vBool false, vBool false, .val (.slice none 0 0), .val (.slice none 0 0), .val (.slice none 0 0)]) (And.intro (PSub.refl _) (And.intro (PSub.refl _) (And.intro PSub.nil (And.intro PSub.nil (And.intro PSub.nil trivial)))))) h) (Subs.same rfl Subs.nil)))) (po2 rfl rfl) (by rfl) (fun k (h : _) => (show False from h).elim) rfl (by rfl)) <| cV rfl (oA rfl) <| WL.nil <| Tr.ret ?_
    refine ret_ok rfl ?_ no_post
    simp only [shFlow, hno, Bool.not_false, Bool.true_and]
theorem takeWhile_len {α : Type} {p : α → Bool} : ∀ {l : List α} {k : Nat} {x : α}, (l.take k).all p = true → l[k]? = some x → p x = false → (l.takeWhile p).length = k ∧ l.all p = false
  | [], k, x, _, h, _ => by simp at h
  | a :: r, 0, x, _, h, hx => by
    simp only [List.getElem?_cons_zero, Option.some.injEq] at h
    subst h
    simp [hx]
  | a :: r, k + 1, x, h, hg, hx => by
    simp only [List.take_succ_cons, List.all_cons, Bool.and_eq_true] at h
    obtain ⟨h1, h2⟩ := takeWhile_len h.2 (by simpa using hg) hx
    simp [h.1, h1, h2]
def runOf (s : ByteArray) : ByteArray := if s.toList.all isLD then s else s.extract 0 (s.toList.takeWhile isLD).length
theorem runOf_at {s : ByteArray} {k : Nat} {b : UInt8} (h : (s.toList.take k).all isLD = true) (hb : s.toList[k]? = some b) (hn : isLD b = false) : runOf s = s.extract 0 k := by
  obtain ⟨h1, h2⟩ := takeWhile_len h hb hn
  simp [runOf, h1, h2]
theorem runOf_eq (s : ByteArray) : ((runOf s).toList == s.toList) = s.toList.all isLD := by
  unfold runOf
  cases h : s.toList.all isLD with
  | true => simp
  | false =>
    simp only [Bool.false_eq_true, if_false]
    have hlt : (s.toList.takeWhile isLD).length < s.toList.length := by
      rcases Nat.lt_or_ge (s.toList.takeWhile isLD).length s.toList.length with h1 | h1
      · exact h1
      have hp := List.takeWhile_prefix (l := s.toList) isLD
      have he := hp.eq_of_length_le h1
      have : s.toList.all isLD = true := by rw [← he]; exact List.all_takeWhile
      rw [h] at this; cases this
    have hne : (s.extract 0 (s.toList.takeWhile isLD).length).toList ≠ s.toList := by
      intro he
      have := congrArg List.length he
      rw [ba_len, ByteArray.size_extract, ba_len] at this
      rw [ba_len] at hlt
      omega
    simpa using hne
theorem decode_low {s : ByteArray} {k : Nat} (h : k < s.toList.length) : ((s.toList[k]).toNat < 128 → Utf8.decode s k = ((s.toList[k]).toNat, 1)) ∧ (128 ≤ (s.toList[k]).toNat → 128 ≤ (Utf8.decode s k).1) := by
  have hk : k < s.size := by rwa [ba_len] at h
  have e0 : s.get! (k + 0) = s.toList[k] := by
    have h2 := ba_get h
    rw [getElem?_pos s k hk] at h2
    rw [← Option.some.inj h2]
    show s.get! k = _
    simp [ByteArray.get!, getElem!_pos, hk]
    rfl
  refine ⟨fun hb => ?_, fun hb => ?_⟩
  · simp only [Utf8.decode, e0, hb, if_true]
  have hn : ¬ (s.toList[k]).toNat < 128 := by omega
  simp only [Utf8.decode, e0]
  rw [if_neg (by simpa using hn)]
  repeat' split
  all_goals first
    | (simp [Utf8.runeError]; done)
    | (rename_i hc; simp only [ge_iff_le, Bool.and_eq_true, decide_eq_true_eq] at hc; simp only; omega)
def isLDr (r : Int) : Bool := isLetter r || isDigit r
theorem isLDr_low {r : Int} (h : isLDr r = true) : r < 128 := by
  simp only [isLDr, isLetter, isDigit, Bool.or_eq_true, Bool.and_eq_true, decide_eq_true_eq, beq_iff_eq] at h
  omega
theorem decode_ld {s : ByteArray} {k : Nat} (h : k < s.toList.length) : (isLDr (Utf8.decode s k).1 = true → (Utf8.decode s k).2 = 1 ∧ isLD s.toList[k] = true) ∧ (isLDr (Utf8.decode s k).1 = false → isLD s.toList[k] = false) := by
  obtain ⟨h1, h2⟩ := decode_low h
  by_cases hb : (s.toList[k]).toNat < 128
  · rw [h1 hb]
    exact ⟨fun h => ⟨rfl, h⟩, fun h => h⟩
  have h3 := h2 (by omega)
  refine ⟨fun hl => ?_, fun _ => ?_⟩
  · have := isLDr_low hl; omega
  cases hd : isLD s.toList[k] with
  | false => rfl
  | true => have := isLDr_low (r := ((s.toList[k]).toNat : Int)) hd; omega
set_option maxRecDepth 8000 in
set_option maxHeartbeats 2000000 in
theorem sc_tkLetter (n : Int) : SC Tryz.prog 77 [.pv (.val (.int .i32 n))] [] (fun _ => False) (iBool (isLetter n)) [] := by
  refine SC.of Tryz.func77 rfl (lb rfl) fun F ρ w => ?_
  refine Tr.seq <| Tr.region rfl <| cV rfl (oA rfl) <| WL.nil <| Tr.seq <| Tr.region rfl <| cV rfl (oM rfl) <| cV rfl (oB rfl rfl rfl) <| cV rfl (oM rfl) ?_
  refine WL.split (t := 5) rfl (fun hb5 => ?_) (fun hb5 => ?_)
  · refine yV rfl rfl (oM rfl) <| yV rfl rfl (oB rfl rfl rfl) <| cV rfl (oT rfl rfl) <| cV rfl (oM rfl) ?_
    refine WL.split (t := 9) rfl (fun hb9 => ?_) (fun hb9 => ?_)
    · refine nV rfl rfl <| nV rfl rfl <| nV rfl rfl <| WL.noU rfl rfl rfl rfl rfl rfl <| WL.noU rfl rfl rfl rfl rfl rfl <| nV rfl rfl <| cV rfl (oT rfl rfl) <| cV rfl (oM rfl) <| nV rfl rfl <| nV rfl rfl <| cV rfl (oT rfl rfl) <| cV rfl (oA rfl) ?_
      refine WL.nil <| Tr.ret ?_
      refine ret_ok rfl ?_ no_post
      unfold isLetter
      first | (simp_all; done) | (simp_all <;> omega)
    refine yV rfl rfl (oM rfl) <| yV rfl rfl (oB rfl rfl rfl) <| yV rfl rfl (oM rfl) ?_
    refine WL.split (t := 12) rfl (fun hb12 => ?_) (fun hb12 => ?_)
    · refine yV rfl rfl (oM rfl) <| yV rfl rfl (oB rfl rfl rfl) <| yV rfl rfl (oT rfl rfl) <| cV rfl (oF rfl rfl) <| cV rfl (oM rfl) ?_
      refine WL.split (t := 17) rfl (fun hb17 => ?_) (fun hb17 => ?_)
      · refine nV rfl rfl <| nV rfl rfl <| cV rfl (oT rfl rfl) <| cV rfl (oA rfl) <| WL.nil <| Tr.ret ?_
        refine ret_ok rfl ?_ no_post
        unfold isLetter
        first | (simp_all; done) | (simp_all <;> omega)
      refine yV rfl rfl (oM rfl) <| yV rfl rfl (oB rfl rfl rfl) <| cV rfl (oF rfl rfl) <| cV rfl (oA rfl) <| WL.nil <| Tr.ret ?_
      refine ret_ok rfl ?_ no_post
      unfold isLetter
      first | (simp_all; done) | (simp_all <;> omega)
    refine nV rfl rfl <| nV rfl rfl <| yV rfl rfl (oF rfl rfl) <| cV rfl (oF rfl rfl) <| cV rfl (oM rfl) <| yV rfl rfl (oM rfl) <| yV rfl rfl (oB rfl rfl rfl) <| cV rfl (oF rfl rfl) <| cV rfl (oA rfl) <| WL.nil <| Tr.ret ?_
    refine ret_ok rfl ?_ no_post
    unfold isLetter
    first | (simp_all; done) | (simp_all <;> omega)
  refine nV rfl rfl <| nV rfl rfl <| cV rfl (oF rfl rfl) <| cV rfl (oM rfl) <| yV rfl rfl (oM rfl) <| yV rfl rfl (oB rfl rfl rfl) <| yV rfl rfl (oM rfl) ?_
  refine WL.split (t := 12) rfl (fun hb12 => ?_) (fun hb12 => ?_)
  · refine yV rfl rfl (oM rfl) <| yV rfl rfl (oB rfl rfl rfl) <| yV rfl rfl (oT rfl rfl) <| cV rfl (oF rfl rfl) <| cV rfl (oM rfl) ?_
    refine WL.split (t := 17) rfl (fun hb17 => ?_) (fun hb17 => ?_)
    · refine nV rfl rfl <| nV rfl rfl <| cV rfl (oT rfl rfl) <| cV rfl (oA rfl) <| WL.nil <| Tr.ret ?_
      refine ret_ok rfl ?_ no_post
      unfold isLetter
      first | (simp_all; done) | (simp_all <;> omega)
    refine yV rfl rfl (oM rfl) <| yV rfl rfl (oB rfl rfl rfl) <| cV rfl (oF rfl rfl) <| cV rfl (oA rfl) <| WL.nil <| Tr.ret ?_
    refine ret_ok rfl ?_ no_post
    unfold isLetter
    first | (simp_all; done) | (simp_all <;> omega)
  refine nV rfl rfl <| nV rfl rfl <| yV rfl rfl (oF rfl rfl) <| cV rfl (oF rfl rfl) <| cV rfl (oM rfl) <| yV rfl rfl (oM rfl) <| yV rfl rfl (oB rfl rfl rfl) <| cV rfl (oF rfl rfl) <| cV rfl (oA rfl) <| WL.nil <| Tr.ret ?_
  refine ret_ok rfl ?_ no_post
  unfold isLetter
  first | (simp_all; done) | (simp_all <;> omega)
set_option maxRecDepth 8000 in
set_option maxHeartbeats 2000000 in
theorem sc_tkDigit (n : Int) : SC Tryz.prog 95 [.pv (.val (.int .i32 n))] [] (fun _ => False) (iBool (isDigit n)) [] := by
  refine SC.of Tryz.func95 rfl (lb rfl) fun F ρ w => ?_
  refine Tr.seq <| Tr.region rfl <| cV rfl (oA rfl) <| WL.nil <| Tr.seq <| Tr.region rfl <| cV rfl (oM rfl) <| cV rfl (oB rfl rfl rfl) <| cV rfl (oM rfl) ?_
  refine WL.split (t := 5) rfl (fun hb5 => ?_) (fun hb5 => ?_)
  · refine yV rfl rfl (oM rfl) <| yV rfl rfl (oB rfl rfl rfl) <| cV rfl (oT rfl rfl) <| cV rfl (oA rfl) <| WL.nil <| Tr.ret ?_
    refine ret_ok rfl ?_ no_post
    unfold isDigit
    first | (simp_all; done) | (simp_all <;> omega)
  refine nV rfl rfl <| nV rfl rfl <| cV rfl (oF rfl rfl) <| cV rfl (oA rfl) <| WL.nil <| Tr.ret ?_
  refine ret_ok rfl ?_ no_post
  unfold isDigit
  first | (simp_all; done) | (simp_all <;> omega)
set_option maxRecDepth 8000 in
set_option maxHeartbeats 2000000 in
theorem sc_tkWord (s : ByteArray) : SC Tryz.prog 79 [iStr s] [] (fun _ => False) (iBool (isWord s)) [] := by
  refine SC.of Tryz.func79 rfl (lb rfl) fun F ρ w => ?_
  refine Tr.seq <| Tr.region rfl <| cV rfl (oA rfl) <| WL.nil <| Tr.seq <| Tr.seq <| Tr.region rfl <| cV rfl (oM rfl) <| WL.nil <| Tr.block <| Tr.seq <| Tr.seq ?_
  refine Tr.region rfl <| cV rfl (ok_bin_str rfl rfl rfl rfl) <| cV rfl (oA rfl) <| WL.nil ?_
  refine Tr.cond rfl (fun hc4 => ?_) (fun hc4 => ?_)
  · refine Tr.skip ?_
    refine Tr.cond rfl (fun hc4 => ?_) (fun hc4 => ?_)
    · refine Tr.seq <| Tr.region rfl <| cV rfl (oA rfl) <| WL.nil <| Tr.ret ?_
      refine ret_ok rfl ?_ no_post
      refine congrArg (fun b => iBool b) ?_
      simp_all [isWord]
    refine Tr.skip <| Tr.seq <| Tr.region rfl <| cV rfl (oA rfl) <| WL.nil <| Tr.ret ?_
    refine ret_ok rfl ?_ no_post
    refine congrArg (fun b => iBool b) ?_
    simp_all [isWord]
  refine Tr.seq <| Tr.region rfl <| cV rfl (ok_bin_str rfl rfl rfl rfl) <| cV rfl (oA rfl) <| WL.nil ?_
  refine Tr.cond rfl (fun hc4 => ?_) (fun hc4 => ?_)
  · refine Tr.skip ?_
    refine Tr.cond rfl (fun hc4 => ?_) (fun hc4 => ?_)
    · refine Tr.seq <| Tr.region rfl <| cV rfl (oA rfl) <| WL.nil <| Tr.ret ?_
      refine ret_ok rfl ?_ no_post
      refine congrArg (fun b => iBool b) ?_
      simp_all [isWord]
    refine Tr.skip <| Tr.seq <| Tr.region rfl <| cV rfl (oA rfl) <| WL.nil <| Tr.ret ?_
    refine ret_ok rfl ?_ no_post
    refine congrArg (fun b => iBool b) ?_
    simp_all [isWord]
  refine Tr.seq <| Tr.region rfl <| cV rfl (ok_bin_str rfl rfl rfl rfl) <| cV rfl (oA rfl) <| WL.nil ?_
  refine Tr.cond rfl (fun hc4 => ?_) (fun hc4 => ?_)
  · refine Tr.skip ?_
    refine Tr.cond rfl (fun hc4 => ?_) (fun hc4 => ?_)
    · refine Tr.seq <| Tr.region rfl <| cV rfl (oA rfl) <| WL.nil <| Tr.ret ?_
      refine ret_ok rfl ?_ no_post
      refine congrArg (fun b => iBool b) ?_
      simp_all [isWord]
    refine Tr.skip <| Tr.seq <| Tr.region rfl <| cV rfl (oA rfl) <| WL.nil <| Tr.ret ?_
    refine ret_ok rfl ?_ no_post
    refine congrArg (fun b => iBool b) ?_
    simp_all [isWord]
  refine Tr.seq <| Tr.region rfl <| cV rfl (ok_bin_str rfl rfl rfl rfl) <| cV rfl (oA rfl) <| WL.nil ?_
  refine Tr.cond rfl (fun hc4 => ?_) (fun hc4 => ?_)
  · refine Tr.skip ?_
    refine Tr.cond rfl (fun hc4 => ?_) (fun hc4 => ?_)
    · refine Tr.seq <| Tr.region rfl <| cV rfl (oA rfl) <| WL.nil <| Tr.ret ?_
      refine ret_ok rfl ?_ no_post
      refine congrArg (fun b => iBool b) ?_
      simp_all [isWord]
    refine Tr.skip <| Tr.seq <| Tr.region rfl <| cV rfl (oA rfl) <| WL.nil <| Tr.ret ?_
    refine ret_ok rfl ?_ no_post
    refine congrArg (fun b => iBool b) ?_
    simp_all [isWord]
  refine Tr.seq <| Tr.region rfl <| cV rfl (ok_bin_str rfl rfl rfl rfl) <| cV rfl (oA rfl) <| WL.nil ?_
  refine Tr.cond rfl (fun hc4 => ?_) (fun hc4 => ?_)
  · refine Tr.skip ?_
    refine Tr.cond rfl (fun hc4 => ?_) (fun hc4 => ?_)
    · refine Tr.seq <| Tr.region rfl <| cV rfl (oA rfl) <| WL.nil <| Tr.ret ?_
      refine ret_ok rfl ?_ no_post
      refine congrArg (fun b => iBool b) ?_
      simp_all [isWord]
    refine Tr.skip <| Tr.seq <| Tr.region rfl <| cV rfl (oA rfl) <| WL.nil <| Tr.ret ?_
    refine ret_ok rfl ?_ no_post
    refine congrArg (fun b => iBool b) ?_
    simp_all [isWord]
  refine Tr.seq <| Tr.region rfl <| cV rfl (ok_bin_str rfl rfl rfl rfl) <| cV rfl (oA rfl) <| WL.nil ?_
  refine Tr.cond rfl (fun hc4 => ?_) (fun hc4 => ?_)
  · refine Tr.skip ?_
    refine Tr.cond rfl (fun hc4 => ?_) (fun hc4 => ?_)
    · refine Tr.seq <| Tr.region rfl <| cV rfl (oA rfl) <| WL.nil <| Tr.ret ?_
      refine ret_ok rfl ?_ no_post
      refine congrArg (fun b => iBool b) ?_
      simp_all [isWord]
    refine Tr.skip <| Tr.seq <| Tr.region rfl <| cV rfl (oA rfl) <| WL.nil <| Tr.ret ?_
    refine ret_ok rfl ?_ no_post
    refine congrArg (fun b => iBool b) ?_
    simp_all [isWord]
  refine Tr.seq <| Tr.region rfl <| cV rfl (ok_bin_str rfl rfl rfl rfl) <| cV rfl (oA rfl) <| WL.nil ?_
  refine Tr.cond rfl (fun hc4 => ?_) (fun hc4 => ?_)
  · refine Tr.skip ?_
    refine Tr.cond rfl (fun hc4 => ?_) (fun hc4 => ?_)
    · refine Tr.seq <| Tr.region rfl <| cV rfl (oA rfl) <| WL.nil <| Tr.ret ?_
      refine ret_ok rfl ?_ no_post
      refine congrArg (fun b => iBool b) ?_
      simp_all [isWord]
    refine Tr.skip <| Tr.seq <| Tr.region rfl <| cV rfl (oA rfl) <| WL.nil <| Tr.ret ?_
    refine ret_ok rfl ?_ no_post
    refine congrArg (fun b => iBool b) ?_
    simp_all [isWord]
  refine Tr.seq <| Tr.region rfl <| cV rfl (ok_bin_str rfl rfl rfl rfl) <| cV rfl (oA rfl) <| WL.nil ?_
  refine Tr.cond rfl (fun hc4 => ?_) (fun hc4 => ?_)
  · refine Tr.skip ?_
    refine Tr.cond rfl (fun hc4 => ?_) (fun hc4 => ?_)
    · refine Tr.seq <| Tr.region rfl <| cV rfl (oA rfl) <| WL.nil <| Tr.ret ?_
      refine ret_ok rfl ?_ no_post
      refine congrArg (fun b => iBool b) ?_
      simp_all [isWord]
    refine Tr.skip <| Tr.seq <| Tr.region rfl <| cV rfl (oA rfl) <| WL.nil <| Tr.ret ?_
    refine ret_ok rfl ?_ no_post
    refine congrArg (fun b => iBool b) ?_
    simp_all [isWord]
  refine Tr.seq <| Tr.region rfl <| cV rfl (ok_bin_str rfl rfl rfl rfl) <| cV rfl (oA rfl) <| WL.nil ?_
  refine Tr.cond rfl (fun hc4 => ?_) (fun hc4 => ?_)
  · refine Tr.skip ?_
    refine Tr.cond rfl (fun hc4 => ?_) (fun hc4 => ?_)
    · refine Tr.seq <| Tr.region rfl <| cV rfl (oA rfl) <| WL.nil <| Tr.ret ?_
      refine ret_ok rfl ?_ no_post
      refine congrArg (fun b => iBool b) ?_
      simp_all [isWord]
    refine Tr.skip <| Tr.seq <| Tr.region rfl <| cV rfl (oA rfl) <| WL.nil <| Tr.ret ?_
    refine ret_ok rfl ?_ no_post
    refine congrArg (fun b => iBool b) ?_
    simp_all [isWord]
  refine Tr.seq <| Tr.region rfl <| cV rfl (ok_bin_str rfl rfl rfl rfl) <| cV rfl (oA rfl) <| WL.nil ?_
  refine Tr.cond rfl (fun hc4 => ?_) (fun hc4 => ?_)
  · refine Tr.skip ?_
    refine Tr.cond rfl (fun hc4 => ?_) (fun hc4 => ?_)
    · refine Tr.seq <| Tr.region rfl <| cV rfl (oA rfl) <| WL.nil <| Tr.ret ?_
      refine ret_ok rfl ?_ no_post
      refine congrArg (fun b => iBool b) ?_
      simp_all [isWord]
    refine Tr.skip <| Tr.seq <| Tr.region rfl <| cV rfl (oA rfl) <| WL.nil <| Tr.ret ?_
    refine ret_ok rfl ?_ no_post
    refine congrArg (fun b => iBool b) ?_
    simp_all [isWord]
  refine Tr.seq <| Tr.region rfl <| cV rfl (ok_bin_str rfl rfl rfl rfl) <| cV rfl (oA rfl) <| WL.nil ?_
  refine Tr.cond rfl (fun hc4 => ?_) (fun hc4 => ?_)
  · refine Tr.skip ?_
    refine Tr.cond rfl (fun hc4 => ?_) (fun hc4 => ?_)
    · refine Tr.seq <| Tr.region rfl <| cV rfl (oA rfl) <| WL.nil <| Tr.ret ?_
      refine ret_ok rfl ?_ no_post
      refine congrArg (fun b => iBool b) ?_
      simp_all [isWord]
    refine Tr.skip <| Tr.seq <| Tr.region rfl <| cV rfl (oA rfl) <| WL.nil <| Tr.ret ?_
    refine ret_ok rfl ?_ no_post
    refine congrArg (fun b => iBool b) ?_
    simp_all [isWord]
  refine Tr.seq <| Tr.region rfl <| cV rfl (ok_bin_str rfl rfl rfl rfl) <| cV rfl (oA rfl) <| WL.nil ?_
  refine Tr.cond rfl (fun hc4 => ?_) (fun hc4 => ?_)
  · refine Tr.skip ?_
    refine Tr.cond rfl (fun hc4 => ?_) (fun hc4 => ?_)
    · refine Tr.seq <| Tr.region rfl <| cV rfl (oA rfl) <| WL.nil <| Tr.ret ?_
      refine ret_ok rfl ?_ no_post
      refine congrArg (fun b => iBool b) ?_
      simp_all [isWord]
    refine Tr.skip <| Tr.seq <| Tr.region rfl <| cV rfl (oA rfl) <| WL.nil <| Tr.ret ?_
    refine ret_ok rfl ?_ no_post
    refine congrArg (fun b => iBool b) ?_
    simp_all [isWord]
  refine Tr.seq <| Tr.region rfl <| cV rfl (ok_bin_str rfl rfl rfl rfl) <| cV rfl (oA rfl) <| WL.nil ?_
  refine Tr.cond rfl (fun hc4 => ?_) (fun hc4 => ?_)
  · refine Tr.skip ?_
    refine Tr.cond rfl (fun hc4 => ?_) (fun hc4 => ?_)
    · refine Tr.seq <| Tr.region rfl <| cV rfl (oA rfl) <| WL.nil <| Tr.ret ?_
      refine ret_ok rfl ?_ no_post
      refine congrArg (fun b => iBool b) ?_
      simp_all [isWord]
    refine Tr.skip <| Tr.seq <| Tr.region rfl <| cV rfl (oA rfl) <| WL.nil <| Tr.ret ?_
    refine ret_ok rfl ?_ no_post
    refine congrArg (fun b => iBool b) ?_
    simp_all [isWord]
  refine Tr.seq <| Tr.region rfl <| cV rfl (ok_bin_str rfl rfl rfl rfl) <| cV rfl (oA rfl) <| WL.nil ?_
  refine Tr.cond rfl (fun hc4 => ?_) (fun hc4 => ?_)
  · refine Tr.skip ?_
    refine Tr.cond rfl (fun hc4 => ?_) (fun hc4 => ?_)
    · refine Tr.seq <| Tr.region rfl <| cV rfl (oA rfl) <| WL.nil <| Tr.ret ?_
      refine ret_ok rfl ?_ no_post
      refine congrArg (fun b => iBool b) ?_
      simp_all [isWord]
    refine Tr.skip <| Tr.seq <| Tr.region rfl <| cV rfl (oA rfl) <| WL.nil <| Tr.ret ?_
    refine ret_ok rfl ?_ no_post
    refine congrArg (fun b => iBool b) ?_
    simp_all [isWord]
  refine Tr.seq <| Tr.region rfl <| cV rfl (ok_bin_str rfl rfl rfl rfl) <| cV rfl (oA rfl) <| WL.nil ?_
  refine Tr.cond rfl (fun hc4 => ?_) (fun hc4 => ?_)
  · refine Tr.skip ?_
    refine Tr.cond rfl (fun hc4 => ?_) (fun hc4 => ?_)
    · refine Tr.seq <| Tr.region rfl <| cV rfl (oA rfl) <| WL.nil <| Tr.ret ?_
      refine ret_ok rfl ?_ no_post
      refine congrArg (fun b => iBool b) ?_
      simp_all [isWord]
    refine Tr.skip <| Tr.seq <| Tr.region rfl <| cV rfl (oA rfl) <| WL.nil <| Tr.ret ?_
    refine ret_ok rfl ?_ no_post
    refine congrArg (fun b => iBool b) ?_
    simp_all [isWord]
  refine Tr.seq <| Tr.region rfl <| cV rfl (ok_bin_str rfl rfl rfl rfl) <| cV rfl (oA rfl) <| WL.nil ?_
  refine Tr.cond rfl (fun hc4 => ?_) (fun hc4 => ?_)
  · refine Tr.skip ?_
    refine Tr.cond rfl (fun hc4 => ?_) (fun hc4 => ?_)
    · refine Tr.seq <| Tr.region rfl <| cV rfl (oA rfl) <| WL.nil <| Tr.ret ?_
      refine ret_ok rfl ?_ no_post
      refine congrArg (fun b => iBool b) ?_
      simp_all [isWord]
    refine Tr.skip <| Tr.seq <| Tr.region rfl <| cV rfl (oA rfl) <| WL.nil <| Tr.ret ?_
    refine ret_ok rfl ?_ no_post
    refine congrArg (fun b => iBool b) ?_
    simp_all [isWord]
  refine Tr.seq <| Tr.region rfl <| cV rfl (ok_bin_str rfl rfl rfl rfl) <| cV rfl (oA rfl) <| WL.nil ?_
  refine Tr.cond rfl (fun hc4 => ?_) (fun hc4 => ?_)
  · refine Tr.skip ?_
    refine Tr.cond rfl (fun hc4 => ?_) (fun hc4 => ?_)
    · refine Tr.seq <| Tr.region rfl <| cV rfl (oA rfl) <| WL.nil <| Tr.ret ?_
      refine ret_ok rfl ?_ no_post
      refine congrArg (fun b => iBool b) ?_
      simp_all [isWord]
    refine Tr.skip <| Tr.seq <| Tr.region rfl <| cV rfl (oA rfl) <| WL.nil <| Tr.ret ?_
    refine ret_ok rfl ?_ no_post
    refine congrArg (fun b => iBool b) ?_
    simp_all [isWord]
  refine Tr.region rfl <| cV rfl (ok_bin_str rfl rfl rfl rfl) <| cV rfl (oA rfl) <| WL.nil ?_
  refine Tr.cond rfl (fun hc4 => ?_) (fun hc4 => ?_)
  · refine Tr.seq <| Tr.region rfl <| cV rfl (oA rfl) <| WL.nil <| Tr.ret ?_
    refine ret_ok rfl ?_ no_post
    refine congrArg (fun b => iBool b) ?_
    simp_all [isWord]
  refine Tr.skip <| Tr.seq <| Tr.region rfl <| cV rfl (oA rfl) <| WL.nil <| Tr.ret ?_
  refine ret_ok rfl ?_ no_post
  refine congrArg (fun b => iBool b) ?_
  simp_all [isWord]
set_option maxRecDepth 8000 in
set_option maxHeartbeats 2000000 in
theorem sc_tkRun (s : ByteArray) : SC Tryz.prog 78 [iStr s] [] (fun _ => False) (iStr (runOf s)) [] := by
  refine SC.of Tryz.func78 rfl (lb rfl) fun F ρ w => ?_
  refine Tr.seq <| Tr.region rfl <| cV rfl (oA rfl) <| WL.nil <| Tr.seq ?_
  refine Tr.strRange rfl rfl rfl rfl rfl rfl rfl rfl Tryz.underlying9 rfl rfl rfl rfl rfl rfl rfl rfl rfl rfl rfl (fun _ h => h) (fun k fr => (k ≤ s.toList.length ∧ (s.toList.take k).all isLD = true) ∧ fr = [(0, iStr s)]) ⟨[(0, iStr s)], Sub.of ⟨rfl, trivial⟩, ⟨Nat.zero_le _, rfl⟩, rfl⟩ ?_ ?_
  · rintro b0 k _ hk ⟨hI, rfl⟩
    refine Tr.seq <| Tr.region rfl <| cV rfl (oM rfl) <| cV rfl (oA rfl) <| WL.nil <| Tr.ret ?_
    refine ret_ok rfl ?_ no_post
    have hall : s.toList.all isLD = true := by
      have := hI.2
      rwa [List.take_of_length_le (by rw [ba_len]; exact hk)] at this
    simp [runOf, hall]
  rintro ρ2 w2 b0 k _ hk ⟨hI, rfl⟩
  have hlt : k < s.toList.length := by rw [ba_len]; exact hk
  refine Tr.block <| Tr.seq <| Tr.region rfl <| cV rfl (ok_extract rfl rfl rfl) <| cV rfl (ok_extract rfl rfl rfl) <| cV rfl (oA rfl) <| cV rfl (oA rfl) <| WL.nil <| Tr.seq <| Tr.region rfl <| cV rfl (oM rfl) <| WL.cons rfl rfl rfl (ok_callq (sc_tkLetter _) ent77 rfl rfl (Subs.refl _ _) rfl) ?_
  refine cV rfl (oN rfl) <| cV rfl (oM rfl) ?_
  refine WL.split (t := 14) rfl (fun hb14 => ?_) (fun hb14 => ?_)
  · refine yV rfl rfl (oM rfl) <| WL.yes rfl rfl rfl rfl rfl rfl (ok_callq (sc_tkDigit _) ent95 rfl rfl (Subs.refl _ _) rfl) <| yV rfl rfl (oN rfl) <| cV rfl (oT rfl rfl) <| WL.nil ?_
    refine Tr.cond rfl (fun hc18 => ?_) (fun hc18 => ?_)
    · refine Tr.seq <| Tr.region rfl <| cV rfl (oM rfl) <| cV rfl (oM rfl) <| cV rfl (ok_slice_str rfl rfl Tryz.underlying9 (.inl ⟨rfl, rfl⟩) (.inr ⟨_, _, rfl, rfl⟩) (by omega) (Nat.le_of_lt (by assumption))) <| cV rfl (oA rfl) <| WL.nil <| Tr.ret ?_
      refine ret_ok rfl ?_ no_post
      have hld : isLDr (Utf8.decode s k).1 = false := by
        simp only [isLDr]
        simp_all
      rw [runOf_at hI.2 (List.getElem?_eq_getElem hlt) ((decode_ld hlt).2 hld)]
    refine Tr.skip ?_
    refine ⟨rfl, [(0, iStr s)], Sub.of ⟨rfl, rfl, trivial⟩, ?_, rfl⟩
    have hld : isLDr (Utf8.decode s k).1 = true := by
      simp only [isLDr]
      simp_all
    obtain ⟨hw1, hb1⟩ := (decode_ld hlt).1 hld
    rw [hw1]
    exact ⟨by omega, by rw [List.take_succ_eq_append_getElem hlt, List.all_append, hI.2]; simp [hb1]⟩
  refine nV rfl rfl <| nV rfl rfl <| nV rfl rfl <| cV rfl (oF rfl rfl) <| WL.nil <| Tr.condF rfl <| Tr.skip ?_
  refine ⟨rfl, [(0, iStr s)], Sub.of ⟨rfl, rfl, trivial⟩, ?_, rfl⟩
  have hld : isLDr (Utf8.decode s k).1 = true := by
    simp only [isLDr]
    simp_all
  obtain ⟨hw1, hb1⟩ := (decode_ld hlt).1 hld
  rw [hw1]
  exact ⟨by omega, by rw [List.take_succ_eq_append_getElem hlt, List.all_append, hI.2]; simp [hb1]⟩
set_option maxRecDepth 8000 in
set_option maxHeartbeats 2000000 in
theorem sc_tkName (s : ByteArray) : SC Tryz.prog 55 [iStr s] [] (fun _ => False) (iBool (isName s)) [] := by
  refine SC.of Tryz.func55 rfl (lb rfl) fun F ρ w => ?_
  refine Tr.seq <| Tr.region rfl <| cV rfl (oA rfl) <| WL.nil <| Tr.seq <| Tr.region rfl <| cV rfl (oM rfl) <| cV rfl (ok_bin_str rfl rfl rfl rfl) <| cV rfl (oM rfl) ?_
  refine WL.split (t := 5) rfl (fun hb5 => ?_) (fun hb5 => ?_)
  · have hne : s.toList ≠ [] := by simpa using hb5
    obtain ⟨b0, r0, hs0⟩ := List.exists_cons_of_ne_nil hne
    have hi0 : s[0]? = some b0 := by rw [ba_get (i := 0) (by rw [hs0]; simp)]; simp [hs0]
    have hw0 : IntKind.i32.wrap (b0.toNat : Int) = b0.toNat := by
      have : b0.toNat < 256 := b0.toNat_lt
      simp [IntKind.wrap, IntKind.bits, IntKind.signed]
      omega
    have hre := runOf_eq s
    refine yV rfl rfl (oM rfl) <| yV rfl rfl (ok_index_str rfl rfl rfl Tryz.underlying9 (by assumption) (by rfl)) <| yV rfl rfl (ok_conv_int rfl rfl ⟨_, Tryz.underlying5⟩ Tryz.underlying21) <| WL.yes rfl rfl rfl rfl rfl rfl (ok_callq (sc_tkLetter _) ent77 rfl rfl (Subs.refl _ _) rfl) <| cV rfl (oT rfl rfl) <| cV rfl (oM rfl) ?_
    refine WL.split (t := 11) rfl (fun hb11 => ?_) (fun hb11 => ?_)
    · refine yV rfl rfl (oM rfl) <| WL.yes rfl rfl rfl rfl rfl rfl (ok_callq (sc_tkRun s) ent78 rfl rfl (Subs.refl _ _) rfl) <| yV rfl rfl (oM rfl) <| yV rfl rfl (ok_bin_str rfl rfl rfl rfl) <| cV rfl (oT rfl rfl) <| cV rfl (oM rfl) ?_
      refine WL.split (t := 17) rfl (fun hb17 => ?_) (fun hb17 => ?_)
      · refine yV rfl rfl (oM rfl) <| yV rfl rfl (ok_len_str rfl rfl Tryz.underlying9) <| yV rfl rfl (oB rfl rfl rfl) <| cV rfl (oT rfl rfl) <| cV rfl (oM rfl) ?_
        refine WL.split (t := 22) rfl (fun hb22 => ?_) (fun hb22 => ?_)
        · refine yV rfl rfl (oM rfl) <| WL.yes rfl rfl rfl rfl rfl rfl (ok_callq (sc_tkWord s) ent79 rfl rfl (Subs.refl _ _) rfl) <| yV rfl rfl (oN rfl) <| cV rfl (oT rfl rfl) <| cV rfl (oA rfl) <| WL.nil <| Tr.ret ?_
          refine ret_ok rfl ?_ no_post
          refine congrArg (fun b => iBool b) ?_
          simp_all [isName]
        refine nV rfl rfl <| nV rfl rfl <| nV rfl rfl <| cV rfl (oF rfl rfl) <| cV rfl (oA rfl) <| WL.nil <| Tr.ret ?_
        refine ret_ok rfl ?_ no_post
        refine congrArg (fun b => iBool b) ?_
        (simp_all [isName] <;> omega)
      refine nV rfl rfl <| nV rfl rfl <| nV rfl rfl <| cV rfl (oF rfl rfl) <| cV rfl (oM rfl) <| nV rfl rfl <| nV rfl rfl <| nV rfl rfl <| cV rfl (oF rfl rfl) <| cV rfl (oA rfl) <| WL.nil <| Tr.ret ?_
      refine ret_ok rfl ?_ no_post
      refine congrArg (fun b => iBool b) ?_
      simp_all [isName]
    refine nV rfl rfl <| nV rfl rfl <| nV rfl rfl <| nV rfl rfl <| cV rfl (oF rfl rfl) <| cV rfl (oM rfl) <| nV rfl rfl <| nV rfl rfl <| nV rfl rfl <| cV rfl (oF rfl rfl) <| cV rfl (oM rfl) <| nV rfl rfl ?_
    refine nV rfl rfl <| nV rfl rfl <| cV rfl (oF rfl rfl) <| cV rfl (oA rfl) <| WL.nil <| Tr.ret ?_
    refine ret_ok rfl ?_ no_post
    refine congrArg (fun b => iBool b) ?_
    simp_all [isName]
  refine nV rfl rfl <| nV rfl rfl <| nV rfl rfl <| nV rfl rfl <| cV rfl (oF rfl rfl) <| cV rfl (oM rfl) <| nV rfl rfl <| nV rfl rfl <| nV rfl rfl <| nV rfl rfl <| cV rfl (oF rfl rfl) <| cV rfl (oM rfl) ?_
  refine nV rfl rfl <| nV rfl rfl <| nV rfl rfl <| cV rfl (oF rfl rfl) <| cV rfl (oM rfl) <| nV rfl rfl <| nV rfl rfl <| nV rfl rfl <| cV rfl (oF rfl rfl) <| cV rfl (oA rfl) <| WL.nil <| Tr.ret ?_
  refine ret_ok rfl ?_ no_post
  refine congrArg (fun b => iBool b) ?_
  simp_all [isName]
def Cnt (es : List (Value × PV)) : Prop := (∀ e ∈ es, isKeyB .string e.1 = true) ∧ ∀ e ∈ es, ∃ n, e.2 = vInt n
theorem mput_mem {k : Value} {v : PV} : ∀ {es : List (Value × PV)} {e : Value × PV}, e ∈ mput k v es → e = (k, v) ∨ e ∈ es
  | [], e, h => by simp [mput] at h; exact .inl h
  | (a, p) :: r, e, h => by
    simp only [mput] at h
    split at h
    · rcases List.mem_cons.1 h with rfl | h
      · exact .inl rfl
      exact .inr (.tail _ h)
    rcases List.mem_cons.1 h with rfl | h
    · exact .inr (.head _)
    rcases mput_mem h with h | h
    · exact .inl h
    exact .inr (.tail _ h)
theorem mfind_mem {k : Value} {p : PV} : ∀ {es : List (Value × PV)}, mfind k es = some p → ∃ a, (a, p) ∈ es
  | (a, q) :: r, h => by
    simp only [mfind] at h
    split at h
    · cases h; exact ⟨a, .head _⟩
    obtain ⟨b, hb⟩ := mfind_mem h; exact ⟨b, .tail _ hb⟩
theorem Cnt.find {es : List (Value × PV)} (h : Cnt es) (k : Value) : ∃ n, (mfind k es).getD (.val (.int .i64 0)) = vInt n := by
  cases hf : mfind k es with
  | none => exact ⟨0, rfl⟩
  | some p => obtain ⟨a, ha⟩ := mfind_mem hf; obtain ⟨n, hn⟩ := h.2 _ ha; exact ⟨n, hn⟩
theorem bump_eq {es : List (Value × PV)} {s : ByteArray} {n : Int} (h : (mfind (.string s) es).getD (.val (.int .i64 0)) = vInt n) : bump s es = mput (.string s) (vInt (IntKind.i64.wrap (n + 1))) es := by
  unfold bump
  cases hf : mfind (.string s) es with
  | none =>
    rw [hf] at h
    simp only [Option.getD_none, vInt, PV.val.injEq, Value.int.injEq, true_and] at h
    subst h
    rfl
  | some p =>
    rw [hf] at h
    simp only [Option.getD_some] at h
    subst h
    rfl
theorem Cnt.bump {es : List (Value × PV)} (h : Cnt es) (s : ByteArray) : Cnt (bump s es) := by
  obtain ⟨n, hn⟩ := h.find (.string s)
  rw [bump_eq hn]
  refine ⟨fun e he => ?_, fun e he => ?_⟩
  · rcases mput_mem he with rfl | he
    · rfl
    exact h.1 e he
  rcases mput_mem he with rfl | he
  · exact ⟨_, rfl⟩
  exact h.2 e he
theorem Cnt.nil : Cnt [] := ⟨fun _ h => by simp at h, fun _ h => by simp at h⟩
end Go.Proofs.YtfaeemilgahcpaaGreat
