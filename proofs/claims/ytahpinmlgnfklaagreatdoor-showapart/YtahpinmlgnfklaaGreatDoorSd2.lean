/- PART 2 of 6 of a proof: see the last part. -/
import Derived.Test.YtahpinmlgnfklaaGreatDoorSd1
set_option maxRecDepth 8000
set_option maxHeartbeats 2000000
set_option linter.unusedSimpArgs false
set_option linter.unusedVariables false
set_option linter.unusedSectionVars false
namespace Go.Proofs.YtahpinmlgnfklaaGreatDoor
open Go
section
variable {P : Program} {c : Cx} {R1 : Nat → Prop} {o : Oper} {fr : Fr} {hp : Hp}
theorem ok_boxOwn {t : TypeId} {x : Operand} {k : Nat} {cs : List IV} (ho : o.op = .box t x) (hx : fr.ev x = some (.agg cs)) (hσ : look hp k = none) (hc : c.σ k = none) (hfr : nmFr k fr = false) (hhp : nmHp k hp = false) (hcs : nm.nms k cs = false) :
    Ok P c o fr (look hp) (.ptr k 0) (look ((k, some (.box cs)) :: hp)) := by
  intro ρ w a K Q h hK
  obtain ⟨vs, u, hv, hl, hvu, hr⟩ := (h.ev hx).inv_agg
  have hrun : (execOp a.eval o).run P w = .ok (.value (.pointer (some ⟨w.heap.size, 0, none⟩))) (w.alloc (.cells vs t)) := by
    have hn : (newVar t (.agg vs)).run P w = .ok ⟨w.heap.size, 0, none⟩ (w.alloc (.cells vs t)) := rfl
    simp only [execOp, ho, hv, Instr.box, Sem.run_bind, hn, Result.andThen_ok]
    rfl
  unfold Oper.wp
  rw [hrun]
  refine hK (locUpd ρ k (some (w.heap.size, 1))) _ _ (h.alloc hσ hc hfr hhp 1 _ _ fun keep _ => ?_) (.ptr _ _ _ fun cs' _ => ⟨w.heap.size, 1, locUpd_same, rfl⟩)
  exact .box _ t vs u (heap_new w _) (Nat.le_of_eq hl.symm) hvu fun j x hj => keep _ _ (hr j x hj) (nms_mem hcs (List.mem_of_getElem? hj))
theorem ok_neq_strint {t t2 : TypeId} {x y : Operand} {s s' : ByteArray} {n n' : Int} {f0 f1 : Field} {σ : Heap'} (ho : o.op = .binOp .neq t x y t2) (hx : fr.ev x = some (.pv (.agg [vStr s, vInt n]))) (hy : fr.ev y = some (.pv (.agg [vStr s', vInt n'])))
    (hu : P.underlying t = some (.struct #[f0, f1])) (h0 : P.underlying f0.type = some .string) (h1 : P.underlying f1.type = some (.int .i64)) (ho0 : f0.offset = 0) (ho1 : f1.offset = 1) (hn0 : f0.name ≠ "_") (hn1 : f1.name ≠ "_") (hs : P.stoodInHeld t = false) (hg : P.eqGuardType P.depth t = false) :
    OkV P c R1 o fr σ (.pv (vBool (!(s.toList == s'.toList && n == n')))) := by
  have inv : ∀ {F : Nat → Prop} {ρ : Loc} {w : World} {v : Value} {s : ByteArray} {n : Int}, RepI F ρ σ w (.pv (.agg [vStr s, vInt n])) v → v = .agg #[.string s, .int .i64 n] := by
    intro F ρ w v s n h
    cases h with
    | pv _ _ h =>
      cases h with
      | agg _ vs u hl hv hr =>
        have h0 := hv 0 _ rfl; have h1 := hv 1 _ rfl
        have r0 := hr 0 _ rfl; have r1 := hr 1 _ rfl
        cases hu0 : u 0 <;> rw [hu0] at r0 <;> cases r0
        cases hu1 : u 1 <;> rw [hu1] at r1 <;> cases r1
        rw [hu0] at h0; rw [hu1] at h1
        congr 1
        apply Array.ext_getElem?
        intro i
        match i with
        | 0 => simpa using h0
        | 1 => simpa using h1
        | i + 2 => rw [Array.getElem?_eq_none (by simp at hl; omega), Array.getElem?_eq_none (by simp)]
  intro ρ w a h
  have e1 := inv (h.ev hx)
  have e2 := inv (h.ev hy)
  have hfs : P.fieldsOf t = #[f0, f1] := by simp [Program.fieldsOf, hu]
  refine ⟨_, fun w2 _ => ?_, mkVal _⟩
  have hp0 : ∀ (s : ByteArray) (n : Int), (part f0.type #[.string s, .int .i64 n] f0.offset).run P w2 = .ok (.string s) w2 := fun s n => by simp [part, run_isAgg h0, TypeDesc.isRow, ho0, Sem.run_bind]
  have hp1 : ∀ (s : ByteArray) (n : Int), (part f1.type #[.string s, .int .i64 n] f1.offset).run P w2 = .ok (.int .i64 n) w2 := fun s n => by simp [part, run_isAgg h1, TypeDesc.isRow, ho1, Sem.run_bind]
  have heq : (Op.equalIn 10000 t (.agg #[.string s, .int .i64 n]) (.agg #[.string s', .int .i64 n'])).run P w2 = .ok (s.toList == s'.toList && n == n') w2 := by
    rw [run_equalIn_struct w2 9999 t _ _ (by rw [hfs]; exact hu) hs, hfs]
    have hi9 : (Op.equalIn 9999 f1.type (.int .i64 n) (.int .i64 n')).run P w2 = .ok (n == n') w2 := run_equalIn_int w2 9998 f1.type .i64 .i64 n n' h1
    have hs9 : (Op.equalIn 9999 f0.type (.string s) (.string s')).run P w2 = .ok (s.toList == s'.toList) w2 := run_equalIn_string w2 9998 f0.type s s' h0
    simp only [Op.eqFields, hn0, hn1, Sem.run_bind, hp0, hp1, Result.andThen_ok, ne_eq, not_false_eq_true, if_true, hs9]
    cases hb : (s.toList == s'.toList)
    ·simp
    simp only [Bool.not_true, Bool.false_eq_true, if_false, Sem.run_bind, hp1, Result.andThen_ok, hi9]
    cases hc : (n == n') <;> simp
  simp [execOp, ho, e1, e2, Sem.run_bind, run_eqGuard_agg w2 .neq t x y _ _ hg, run_neq_struct, heq]
def firm1 (hp : Hp) : IV → Prop
  | .pv (.agg _) => True
  | .pv p => p.one = true
  | .agg _ => True
  | .fn .. => True
  | .sl k len => ∃ s els, look hp k = some (.row s els) ∧ els.length = len
  | .ptr k _ => ∃ cs, look hp k = some (.box cs)
  | .mp k => ∃ es, look hp k = some (.map es)
  | .bs k _ => ∃ cs, look hp k = some (.box cs)
  | _ => False
def firmHp (hp : Hp) : List (Nat × IV) → Prop
  | [] => True
  | (_, x) :: r => firm1 hp x ∧ firmHp hp r
theorem firmHp_ok : ∀ {xs : List (Nat × IV)}, firmHp hp xs → firmParts (look hp) xs
  | (i, x) :: r, h, p, hq, hn => by
    rcases List.mem_cons.1 hq with rfl | hq
    ·have h1 := h.1
     cases x with
     | pv q => cases q <;> first | exact h1 | (simp [IV.parts] at hn)
     | agg => simp [IV.parts] at hn
     | fn => trivial
     | tup => exact h1.elim
     | rpt => exact h1.elim
     | _ => exact h1
    exact firmHp_ok h.2 p hq hn
def keyB : Value → Value → Bool
  | .int _ a, .int _ b => a == b
  | .string a, .string b => a.toList == b.toList
  | _, _ => false
def isKeyB : TypeDesc → Value → Bool
  | .int k, .int k' _ => k' == k
  | .string, .string _ => true
  | _, _ => false
theorem isKeyB_key {d : TypeDesc} {v : Value} (h : isKeyB d v = true) : MapKept.IsKey d v := by
  cases d <;> cases v <;> simp_all [isKeyB, MapKept.IsKey]
theorem keyB_iff {d : TypeDesc} {a b : Value} (ha : isKeyB d a = true) (hb : isKeyB d b = true) : keyB a b = true ↔ a = b := by
  cases d <;> cases a <;> cases b <;> first
    | (simp_all [isKeyB, keyB]; done)
    | (simp only [keyB, beq_iff_eq, Value.string.injEq]
       exact ⟨fun h => MapKept.bytes_beq _ _ |>.1 (by rw [beq_toListBytes]; simpa using h), fun h => by rw [h]⟩)
def mfind (k : Value) : List (Value × PV) → Option PV
  | [] => none
  | (a, p) :: r => if keyB k a then some p else mfind k r
def mput (k : Value) (v : PV) : List (Value × PV) → List (Value × PV)
  | [] => [(k, v)]
  | (a, p) :: r => if keyB k a then (k, v) :: r else (a, p) :: mput k v r
theorem find_map {d : TypeDesc} {k : Value} (hk : isKeyB d k = true) : ∀ (es : List (Value × PV)) (l : List MapEntry) (i : Nat), l.length = es.length → (∀ e ∈ es, isKeyB d e.1 = true) → (∀ (j : Nat) (a : Value) (p : PV), es[j]? = some (a, p) → ∃ m : MapEntry, l[j]? = some m ∧ m.key = a) →
    (Instr.findNow d k l i = some none ∧ mfind k es = none ∧ ∀ v, mput k v es = es ++ [(k, v)]) ∨ ∃ j m p, Instr.findNow d k l i = some (some (i + j, m.val)) ∧ l[j]? = some m ∧ m.key = k ∧ es[j]? = some (k, p) ∧ mfind k es = some p ∧ ∀ v, mput k v es = es.set j (k, v)
  | [], [], _, _, _, _ => .inl ⟨rfl, rfl, fun _ => rfl⟩
  | (a, p) :: es, m :: l, i, hl, he, h => by
    have h0 : m.key = a := by obtain ⟨m', hm', e⟩ := h 0 a p rfl; cases hm'; exact e
    have ha := he (a, p) (.head _)
    obtain ⟨r, hr, hiff⟩ := MapKept.sameNow_of_keys (isKeyB_key hk) (isKeyB_key ha)
    rw [← h0] at hr
    cases r with
    | true =>
      have hka : k = a := hiff.1 rfl
      have hb : keyB k a = true := (keyB_iff hk ha).2 hka
      exact .inr ⟨0, m, p, by simp [Instr.findNow, hr], rfl, h0.trans hka.symm, by simp [hka], by simp [mfind, hb], fun v => by simp [mput, hb]⟩
    | false =>
      have hb : keyB k a = false := by
        cases hb : keyB k a with
        | false => rfl
        | true => have := hiff.2 ((keyB_iff hk ha).1 hb); cases this
      rcases find_map hk es l (i + 1) (by simpa using hl) (fun e h' => he e (.tail _ h')) (fun j a p hj => by simpa using h (j + 1) a p (by simpa using hj)) with ⟨h1, h2, h3⟩ | ⟨j, m', p', h1, h2, h3, h4, h5, h6⟩
      ·exact .inl ⟨by simp [Instr.findNow, hr, h1], by simp [mfind, hb, h2], fun v => by simp [mput, hb, h3]⟩
      exact .inr ⟨j + 1, m', p', by simp [Instr.findNow, hr, h1]; omega, by simpa using h2, h3, by simpa using h4, by simp [mfind, hb, h5], fun v => by simp [mput, hb, h6]⟩
theorem RepO.inv_map {F : Nat → Prop} {ρ : Loc} {σ : Heap'} {w : World} {b cc : Nat} {es : List (Value × PV)} (h : RepO F ρ σ w b cc (.map es)) :
    ∃ (a : Array MapEntry) (t : Nat) (u : Nat → Value), w.heap[b]? = some (.map a t) ∧ a.size = es.length ∧ (∀ i k p, es[i]? = some (k, p) → ∃ m : MapEntry, a[i]? = some m ∧ m.key = k ∧ m.val = u i) ∧ ∀ i k p, es[i]? = some (k, p) → RepP (owned F ρ) w p (u i) := by
  cases h with
  | map _ a t u h hl hv hr => exact ⟨a, t, u, h, hl, hv, hr⟩
theorem All.mapAt {ρ : Loc} {w : World} {a : Act} (h : All c ρ (look hp) w fr a) {x : Operand} {k : Nat} {es : List (Value × PV)} (hx : fr.ev x = some (.mp k)) (hk : look hp k = some (.map es)) :
    ∃ (b cc : Nat) (r : Array MapEntry) (t : Nat) (u : Nat → Value), a.eval x = .map (some b) ∧ ρ k = some (b, cc) ∧ w.heap[b]? = some (.map r t) ∧ r.size = es.length ∧ (∀ i k p, es[i]? = some (k, p) → ∃ m : MapEntry, r[i]? = some m ∧ m.key = k ∧ m.val = u i) ∧ ∀ i k p, es[i]? = some (k, p) → RepP (owned c.F ρ) w p (u i) := by
  have hr := h.ev hx
  generalize hv : a.eval x = v at hr
  cases hr with
  | mp _ _ hh =>
    obtain ⟨b, cc, hρ, rfl⟩ := hh es hk
    obtain ⟨o1, h1, h2⟩ := h.rel.obj k b cc hρ
    rw [hk] at h1; cases h1
    obtain ⟨r, t, u, h3, h4, h5, h6⟩ := h2.inv_map
    exact ⟨b, cc, r, t, u, rfl, hρ, h3, h4, h5, h6⟩
theorem ok_makeMap {t : TypeId} {k : Nat} (ho : o.op = .makeMap t none) (hσ : look hp k = none) (hc : c.σ k = none) (hfr : nmFr k fr = false) (hhp : nmHp k hp = false) :
    Ok P c o fr (look hp) (.mp k) (look ((k, some (.map [])) :: hp)) := by
  intro ρ w a K Q h hK
  have hrun : (execOp a.eval o).run P w = .ok (.value (.map (some w.heap.size))) (w.alloc (.map #[] 0)) := by
    have hn : (newObj (.map #[] 0)).run P w = .ok w.heap.size (w.alloc (.map #[] 0)) := rfl
    simp [execOp, ho, Instr.makeMap, Sem.run_bind, hn]
  unfold Oper.wp
  rw [hrun]
  refine hK (locUpd ρ k (some (w.heap.size, 1))) _ _ (h.alloc hσ hc hfr hhp 1 _ _ fun keep _ => ?_) (.mp _ _ fun es' _ => ⟨w.heap.size, 1, locUpd_same, rfl⟩)
  exact .map [] #[] 0 (fun _ => undef) (heap_new w _) rfl (fun i k p hi => by simp at hi) fun i k p hi => by simp at hi
theorem ok_mapUpdate {t kt et : TypeId} {d : TypeDesc} {x y z : Operand} {k : Nat} {es : List (Value × PV)} {kv : Value} {p : PV} (ho : o.op = .mapUpdate t x y z) (hx : fr.ev x = some (.mp k)) (hy : fr.ev y = some (.pv (.val kv))) (hz : fr.ev z = some (.pv p)) (hk : look hp k = some (.map es))
    (hR : ¬ c.R k) (hu : P.underlying t = some (.map kt et)) (hd : P.underlying kt = some d) (hkv : isKeyB d kv = true) (hes : ∀ e ∈ es, isKeyB d e.1 = true) : Ok P c o fr (look hp) (.pv (.val undef)) (look ((k, some (.map (mput kv p es))) :: hp)) := by
  refine ok_skip fun ρ w a h => ?_
  obtain ⟨b, cc, r, ck, u, hv, hρ, h3, h4, h5, h6⟩ := h.mapAt hx hk
  have hzr : RepP (owned c.F ρ) w p (a.eval z) := by
    have := h.ev hz
    generalize a.eval z = vz at this
    cases this with
    | pv _ _ hp => exact hp
  have hkey := MapKept.run_checkKey (w := w) hd (isKeyB_key hkv) false 9999
  have hset : ∀ o', (setObj b o').run P w = .ok () { w with heap := w.heap.setIfInBounds b o' } := fun o' => MapKept.run_setObj_map o' h3
  have hb : b < w.heap.size := (Array.getElem?_eq_some_iff.1 h3).1
  have hsame : ∀ v : Value, isKeyB d v = true → Instr.sameBits 10000 v v = true := by
    intro v hv
    cases d <;> cases v <;> simp_all [isKeyB, Instr.sameBits, MapKept.bytes_beq]
  rcases find_map hkv es r.toList 0 (by simpa using h4) hes (fun j a p hj => by obtain ⟨m, hm, e, _⟩ := h5 j a p hj; exact ⟨m, by simpa using hm, e⟩) with ⟨h1, h2, h7⟩ | ⟨j, m, q, h1, h2, h3', h4', h5', h7⟩
  ·have hfind := MapKept.run_findKey (P := P) (w := w) (kt := kt) hd h1
   refine ⟨ρ, { w with heap := w.heap.setIfInBounds b (.map (r.push ⟨kv, a.eval z, ck⟩) (ck + 1)) }, by simp [execOp, ho, hv, ev_val h hy, Instr.mapUpdate, Sem.run_bind, run_underlying hu, MapKept.run_getObj_map h3, hkey, hfind, hset], ?_⟩
   refine h.write hρ hk trivial hR rfl rfl rfl (by simp) (fun j hj => by simp [Ne.symm hj]) fun keep keepP => ?_
   refine .map _ (r.push ⟨kv, a.eval z, ck⟩) (ck + 1) (fun i => if i = es.length then a.eval z else u i) (by simp [hb]) (by simp [h7, h4]) (fun i k' p' hi => ?_) fun i k' p' hi => ?_
   ·rw [h7] at hi
    by_cases e : i = es.length
    ·subst e
     simp only [List.getElem?_concat_length, Option.some.injEq, Prod.mk.injEq] at hi
     obtain ⟨rfl, rfl⟩ := hi
     exact ⟨⟨kv, a.eval z, ck⟩, by rw [← h4]; simp, rfl, by simp⟩
    have hlt : i < es.length := by
      have := (List.getElem?_eq_some_iff.1 hi).1
      simp at this; omega
    rw [List.getElem?_append_left hlt] at hi
    obtain ⟨m, hm, e1, e2⟩ := h5 i k' p' hi
    refine ⟨m, ?_, e1, by simp [e, e2]⟩
    rw [Array.getElem?_push, if_neg (by omega)]
    exact hm
   rw [h7] at hi
   by_cases e : i = es.length
   ·subst e
    simp only [List.getElem?_concat_length, Option.some.injEq, Prod.mk.injEq] at hi
    obtain ⟨rfl, rfl⟩ := hi
    simpa using keepP _ _ hzr
   have hlt : i < es.length := by
     have := (List.getElem?_eq_some_iff.1 hi).1
     simp at this; omega
   rw [List.getElem?_append_left hlt] at hi
   simpa [e] using keepP _ _ (h6 i k' p' hi)
  have hfind := MapKept.run_findKey (P := P) (w := w) (kt := kt) hd h1
  have hj : r[0 + j]? = some m := by simpa using h2
  have hstay : (Instr.keyThatStays kv kv).run P w = .ok kv w := by simp [Instr.keyThatStays, hsame kv hkv]
  refine ⟨ρ, { w with heap := w.heap.setIfInBounds b (.map (r.modify (0 + j) fun e => { e with key := kv, val := a.eval z }) ck) }, ?_, ?_⟩
  ·simp only [execOp, ho, hv, ev_val h hy, Instr.mapUpdate, Sem.run_bind, run_underlying hu, MapKept.run_getObj_map h3, hkey, hfind, Result.andThen_ok, hj, Option.map_some, Option.getD_some, h3', hstay, hset]
   rfl
  refine h.write hρ hk trivial hR rfl rfl rfl (by simp) (fun j hj => by simp [Ne.symm hj]) fun keep keepP => ?_
  have hjl : j < es.length := (List.getElem?_eq_some_iff.1 h4').1
  refine .map _ (r.modify (0 + j) fun e => { e with key := kv, val := a.eval z }) ck (fun i => if i = j then a.eval z else u i) (by simp [hb]) (by simp [h7, h4]) (fun i k' p' hi => ?_) fun i k' p' hi => ?_
  ·rw [h7] at hi
   by_cases e : i = j
   ·subst e
    rw [List.getElem?_set_self hjl] at hi
    cases hi
    refine ⟨{ m with key := kv, val := a.eval z }, ?_, rfl, by simp⟩
    simp only [Nat.zero_add, Array.getElem?_modify, if_true] at hj ⊢
    rw [hj]; rfl
   rw [List.getElem?_set_ne (Ne.symm e)] at hi
   obtain ⟨m', hm', e1, e2⟩ := h5 i k' p' hi
   refine ⟨m', ?_, e1, by simp [e, e2]⟩
   simp only [Nat.zero_add, Array.getElem?_modify, if_neg (Ne.symm e)]
   exact hm'
  rw [h7] at hi
  by_cases e : i = j
  ·subst e
   rw [List.getElem?_set_self hjl] at hi
   cases hi
   simpa using keepP _ _ hzr
  rw [List.getElem?_set_ne (Ne.symm e)] at hi
  simpa [e] using keepP _ _ (h6 i k' p' hi)
theorem ok_insert {t kt et : TypeId} {d : TypeDesc} {x y z : Operand} {k : Nat} {es : List (Value × PV)} {kv : Value} {p : PV} (ho : o.op = .insert t x y z) (hx : fr.ev x = some (.mp k)) (hy : fr.ev y = some (.pv (.val kv))) (hz : fr.ev z = some (.pv p)) (hk : look hp k = some (.map es))
    (hR : ¬ c.R k) (hu : P.underlying t = some (.map kt et)) (hd : P.underlying kt = some d) (hkv : isKeyB d kv = true) (hes : ∀ e ∈ es, isKeyB d e.1 = true) : Ok P c o fr (look hp) (.pv (.val undef)) (look ((k, some (.map (mput kv p es))) :: hp)) := by
  refine ok_skip fun ρ w a h => ?_
  obtain ⟨b, cc, r, ck, u, hv, hρ, h3, h4, h5, h6⟩ := h.mapAt hx hk
  have hzr : RepP (owned c.F ρ) w p (a.eval z) := by
    have := h.ev hz
    generalize a.eval z = vz at this
    cases this with
    | pv _ _ hp => exact hp
  have hkey := MapKept.run_checkKey (w := w) hd (isKeyB_key hkv) false 9999
  have hset : ∀ o', (setObj b o').run P w = .ok () { w with heap := w.heap.setIfInBounds b o' } := fun o' => MapKept.run_setObj_map o' h3
  have hb : b < w.heap.size := (Array.getElem?_eq_some_iff.1 h3).1
  have hsame : ∀ v : Value, isKeyB d v = true → Instr.sameBits 10000 v v = true := by
    intro v hv
    cases d <;> cases v <;> simp_all [isKeyB, Instr.sameBits, MapKept.bytes_beq]
  rcases find_map hkv es r.toList 0 (by simpa using h4) hes (fun j a p hj => by obtain ⟨m, hm, e, _⟩ := h5 j a p hj; exact ⟨m, by simpa using hm, e⟩) with ⟨h1, h2, h7⟩ | ⟨j, m, q, h1, h2, h3', h4', h5', h7⟩
  ·have hfind := MapKept.run_findKey (P := P) (w := w) (kt := kt) hd h1
   refine ⟨ρ, { w with heap := w.heap.setIfInBounds b (.map (r.push ⟨kv, a.eval z, ck⟩) (ck + 1)) }, by simp [execOp, ho, hv, ev_val h hy, Instr.mapUpdate, Sem.run_bind, run_underlying hu, MapKept.run_getObj_map h3, hkey, hfind, hset], ?_⟩
   refine h.write hρ hk trivial hR rfl rfl rfl (by simp) (fun j hj => by simp [Ne.symm hj]) fun keep keepP => ?_
   refine .map _ (r.push ⟨kv, a.eval z, ck⟩) (ck + 1) (fun i => if i = es.length then a.eval z else u i) (by simp [hb]) (by simp [h7, h4]) (fun i k' p' hi => ?_) fun i k' p' hi => ?_
   ·rw [h7] at hi
    by_cases e : i = es.length
    ·subst e
     simp only [List.getElem?_concat_length, Option.some.injEq, Prod.mk.injEq] at hi
     obtain ⟨rfl, rfl⟩ := hi
     exact ⟨⟨kv, a.eval z, ck⟩, by rw [← h4]; simp, rfl, by simp⟩
    have hlt : i < es.length := by
      have := (List.getElem?_eq_some_iff.1 hi).1
      simp at this; omega
    rw [List.getElem?_append_left hlt] at hi
    obtain ⟨m, hm, e1, e2⟩ := h5 i k' p' hi
    refine ⟨m, ?_, e1, by simp [e, e2]⟩
    rw [Array.getElem?_push, if_neg (by omega)]
    exact hm
   rw [h7] at hi
   by_cases e : i = es.length
   ·subst e
    simp only [List.getElem?_concat_length, Option.some.injEq, Prod.mk.injEq] at hi
    obtain ⟨rfl, rfl⟩ := hi
    simpa using keepP _ _ hzr
   have hlt : i < es.length := by
     have := (List.getElem?_eq_some_iff.1 hi).1
     simp at this; omega
   rw [List.getElem?_append_left hlt] at hi
   simpa [e] using keepP _ _ (h6 i k' p' hi)
  have hfind := MapKept.run_findKey (P := P) (w := w) (kt := kt) hd h1
  have hj : r[0 + j]? = some m := by simpa using h2
  have hstay : (Instr.keyThatStays kv kv).run P w = .ok kv w := by simp [Instr.keyThatStays, hsame kv hkv]
  refine ⟨ρ, { w with heap := w.heap.setIfInBounds b (.map (r.modify (0 + j) fun e => { e with key := kv, val := a.eval z }) ck) }, ?_, ?_⟩
  ·simp only [execOp, ho, hv, ev_val h hy, Instr.mapUpdate, Sem.run_bind, run_underlying hu, MapKept.run_getObj_map h3, hkey, hfind, Result.andThen_ok, hj, Option.map_some, Option.getD_some, h3', hstay, hset]
   rfl
  refine h.write hρ hk trivial hR rfl rfl rfl (by simp) (fun j hj => by simp [Ne.symm hj]) fun keep keepP => ?_
  have hjl : j < es.length := (List.getElem?_eq_some_iff.1 h4').1
  refine .map _ (r.modify (0 + j) fun e => { e with key := kv, val := a.eval z }) ck (fun i => if i = j then a.eval z else u i) (by simp [hb]) (by simp [h7, h4]) (fun i k' p' hi => ?_) fun i k' p' hi => ?_
  ·rw [h7] at hi
   by_cases e : i = j
   ·subst e
    rw [List.getElem?_set_self hjl] at hi
    cases hi
    refine ⟨{ m with key := kv, val := a.eval z }, ?_, rfl, by simp⟩
    simp only [Nat.zero_add, Array.getElem?_modify, if_true] at hj ⊢
    rw [hj]; rfl
   rw [List.getElem?_set_ne (Ne.symm e)] at hi
   obtain ⟨m', hm', e1, e2⟩ := h5 i k' p' hi
   refine ⟨m', ?_, e1, by simp [e, e2]⟩
   simp only [Nat.zero_add, Array.getElem?_modify, if_neg (Ne.symm e)]
   exact hm'
  rw [h7] at hi
  by_cases e : i = j
  ·subst e
   rw [List.getElem?_set_self hjl] at hi
   cases hi
   simpa using keepP _ _ hzr
  rw [List.getElem?_set_ne (Ne.symm e)] at hi
  simpa [e] using keepP _ _ (h6 i k' p' hi)
theorem run_lookup {t kt et : TypeId} {d : TypeDesc} {b ck : Nat} {r : Array MapEntry} {kv z : Value} {es : List (Value × PV)} (commaOk : Bool) (hl : r.size = es.length) (h5 : ∀ (j : Nat) (a : Value) (p : PV), es[j]? = some (a, p) → ∃ m : MapEntry, r[j]? = some m ∧ m.key = a)
    (hu : P.underlying t = some (.map kt et)) (hd : P.underlying kt = some d) (hkv : isKeyB d kv = true) (hes : ∀ e ∈ es, isKeyB d e.1 = true) (hzv : ((P.info? et).bind (·.zero)) = some z) :
    (mfind kv es = none ∧ ∀ w : World, w.heap[b]? = some (.map r ck) → (Instr.lookup t (.map (some b)) kv commaOk).run P w = .ok (if commaOk then .tuple #[z, .bool false] else z) w) ∨
    ∃ (j : Nat) (m : MapEntry) (p : PV), r[j]? = some m ∧ es[j]? = some (kv, p) ∧ mfind kv es = some p ∧ ∀ w : World, w.heap[b]? = some (.map r ck) → (Instr.lookup t (.map (some b)) kv commaOk).run P w = .ok (if commaOk then .tuple #[m.val, .bool true] else m.val) w := by
  have hz : ∀ w, (zeroValue et).run P w = .ok z w := by
    intro w
    cases hq : P.info? et with
    | none => simp [hq] at hzv
    | some i => simp [hq] at hzv; simp [zeroValue, typeInfo, hq, hzv]
  rcases find_map hkv es r.toList 0 (by simpa using hl) hes (fun j a p hj => by obtain ⟨m, hm, e⟩ := h5 j a p hj; exact ⟨m, by simpa using hm, e⟩) with ⟨h1, h2, h7⟩ | ⟨j, m, q, h1, h2, h3', h4', h5', h7⟩
  ·refine .inl ⟨h2, fun w hb => ?_⟩
   have hkey := MapKept.run_checkKey (w := w) hd (isKeyB_key hkv) r.isEmpty 9999
   have hfind := MapKept.run_findKey (P := P) (w := w) (kt := kt) hd h1
   simp only [Instr.lookup, Sem.run_bind, run_underlying hu, MapKept.run_getObj_map hb, Sem.run_pure, hkey, hfind, hz, Result.andThen_ok]
  refine .inr ⟨j, m, q, by simpa using h2, h4', h5', fun w hb => ?_⟩
  have hkey := MapKept.run_checkKey (w := w) hd (isKeyB_key hkv) r.isEmpty 9999
  have hfind := MapKept.run_findKey (P := P) (w := w) (kt := kt) hd h1
  simp only [Instr.lookup, Sem.run_bind, run_underlying hu, MapKept.run_getObj_map hb, Sem.run_pure, hkey, hfind, hz, Result.andThen_ok]
theorem ok_lookup {t kt et : TypeId} {d : TypeDesc} {x y : Operand} {k : Nat} {es : List (Value × PV)} {kv z : Value} (ho : o.op = .lookup t x y false) (hx : fr.ev x = some (.mp k)) (hy : fr.ev y = some (.pv (.val kv))) (hk : look hp k = some (.map es))
    (hu : P.underlying t = some (.map kt et)) (hd : P.underlying kt = some d) (hkv : isKeyB d kv = true) (hes : ∀ e ∈ es, isKeyB d e.1 = true) (hzv : ((P.info? et).bind (·.zero)) = some z) (hR : R1 k) : OkV P c R1 o fr (look hp) (.pv ((mfind kv es).getD (.val z))) := by
  intro ρ w a h
  obtain ⟨b, cc, r, ck, u, hv, hρ, h3, h4, h5, h6⟩ := h.mapAt hx hk
  have h3' : ∀ w2, SameFor c.F R1 ρ w w2 → w2.heap[b]? = some (.map r ck) := fun w2 h2 => (h2 b (h.rel.lt hρ) (.inr ⟨k, cc, hR, hρ⟩)).trans h3
  rcases run_lookup (b := b) (ck := ck) false h4 (fun j a p hj => by obtain ⟨m, h1, h2, _⟩ := h5 j a p hj; exact ⟨m, h1, h2⟩) hu hd hkv hes hzv with ⟨h1, h2⟩ | ⟨j, m, p, h1, h2, h7, h8⟩
  ·refine ⟨z, fun w2 hw2 => ?_, by rw [h1]; exact mkVal _⟩
   simp [execOp, ho, hv, ev_val h hy, Sem.run_bind, h2 w2 (h3' w2 hw2)]
  obtain ⟨m', hm', _, e2⟩ := h5 j kv p h2
  rw [h1] at hm'; cases hm'
  refine ⟨m.val, fun w2 hw2 => by simp [execOp, ho, hv, ev_val h hy, Sem.run_bind, h8 w2 (h3' w2 hw2)], ?_⟩
  rw [h7, e2]
  exact .pv _ _ (h6 j kv p h2)
theorem ok_lookup2 {t kt et : TypeId} {d : TypeDesc} {x y : Operand} {k : Nat} {es : List (Value × PV)} {kv z : Value} (ho : o.op = .lookup t x y true) (hx : fr.ev x = some (.mp k)) (hy : fr.ev y = some (.pv (.val kv))) (hk : look hp k = some (.map es))
    (hu : P.underlying t = some (.map kt et)) (hd : P.underlying kt = some d) (hkv : isKeyB d kv = true) (hes : ∀ e ∈ es, isKeyB d e.1 = true) (hzv : ((P.info? et).bind (·.zero)) = some z) (hR : R1 k) : OkV P c R1 o fr (look hp) (.tup [.pv ((mfind kv es).getD (.val z)), iBool (mfind kv es).isSome]) := by
  intro ρ w a h
  obtain ⟨b, cc, r, ck, u, hv, hρ, h3, h4, h5, h6⟩ := h.mapAt hx hk
  have h3' : ∀ w2, SameFor c.F R1 ρ w w2 → w2.heap[b]? = some (.map r ck) := fun w2 h2 => (h2 b (h.rel.lt hρ) (.inr ⟨k, cc, hR, hρ⟩)).trans h3
  have two : ∀ {p : PV} {v : Value} {g : Bool}, RepP (owned c.F ρ) w p v → RepI c.F ρ (look hp) w (.tup [.pv p, iBool g]) (.tuple #[v, .bool g]) := fun {p v g} hp => .tup _ _ (fun j => if j = 0 then v else .bool g) rfl (fun j x hj => by
      match j, hj with
      | 0, hj => rfl
      | 1, hj => rfl
      | j + 2, hj => simp at hj) fun j x hj => by
      match j, hj with
      | 0, hj => cases hj; exact .pv _ _ hp
      | 1, hj => cases hj; exact mkVal _
      | j + 2, hj => simp at hj
  rcases run_lookup (b := b) (ck := ck) true h4 (fun j a p hj => by obtain ⟨m, h1, h2, _⟩ := h5 j a p hj; exact ⟨m, h1, h2⟩) hu hd hkv hes hzv with ⟨h1, h2⟩ | ⟨j, m, p, h1, h2, h7, h8⟩
  ·refine ⟨.tuple #[z, .bool false], fun w2 hw2 => ?_, by rw [h1]; exact two (.val _)⟩
   simp [execOp, ho, hv, ev_val h hy, Sem.run_bind, h2 w2 (h3' w2 hw2)]
  obtain ⟨m', hm', _, e2⟩ := h5 j kv p h2
  rw [h1] at hm'; cases hm'
  refine ⟨.tuple #[m.val, .bool true], fun w2 hw2 => by simp [execOp, ho, hv, ev_val h hy, Sem.run_bind, h8 w2 (h3' w2 hw2)], ?_⟩
  rw [h7, e2]
  exact two (h6 j kv p h2)
theorem ok_len_map {t kt et : TypeId} {x : Operand} {k : Nat} {es : List (Value × PV)} (ho : o.op = .call { callee := .builtin .len, args := #[x], argTypes := #[t] }) (hx : fr.ev x = some (.mp k)) (hk : look hp k = some (.map es)) (hu : P.underlying t = some (.map kt et)) (hR : R1 k) :
    OkV P c R1 o fr (look hp) (.pv (vInt es.length)) := by
  intro ρ w a h
  obtain ⟨b, cc, r, ck, u, hv, hρ, h3, h4, h5, h6⟩ := h.mapAt hx hk
  refine ⟨_, fun w2 h2 => ?_, mkVal _⟩
  have h3' := (h2 b (h.rel.lt hρ) (.inr ⟨k, cc, hR, hρ⟩)).trans h3
  simp [execOp, ho, hv, resolve, Sem.run_bind, invoke, builtin, Builtin.len_, run_underlying hu, goInt, MapKept.run_getObj_map h3', h4]
end
section
variable {P : Program} {c : Cx} {R1 : Nat → Prop} {o : Oper} {fr : Fr} {hp : Hp}
theorem ok_box1 {t : TypeId} {x : Operand} {p : PV} {σ : Heap'} (ho : o.op = .box t x) (hx : fr.ev x = some (.pv p)) (h1 : p.one = true) : Ok P c o fr σ (.pv (.ept [p] 0)) σ := by
  intro ρ w a K Q h hK
  have hr := h.ev hx
  have hone := RepI.one hr (show (IV.pv p).firm σ from h1)
  generalize hv : a.eval x = v at hr hone
  cases hr with
  | pv _ _ hr =>
    have hcells : v.cells = #[v] := by cases v <;> first | rfl | cases hone
    have hrun : (execOp a.eval o).run P w = .ok (.value (.pointer (some ⟨w.heap.size, 0, none⟩))) (w.alloc (.cells #[v] t)) := by
      have hn : (newVar t v).run P w = .ok ⟨w.heap.size, 0, none⟩ (w.alloc (.cells v.cells t)) := rfl
      rw [hcells] at hn
      simp only [execOp, ho, hv, Instr.box, Sem.run_bind, hn, Result.andThen_ok]
      rfl
    unfold Oper.wp
    rw [hrun]
    obtain ⟨h3, keep⟩ := h.push (.cells #[v] t)
    refine hK ρ _ _ h3 (.pv _ _ (.ept [p] 0 w.heap.size 0 (fun _ => v) ⟨h.fresh, by simp⟩ (fun j z hj => ?_) fun j z hj => ?_))
    ·have h0 : j = 0 := by have := (List.getElem?_eq_some_iff.1 hj).1; simp at this; exact this
     subst h0
     rw [cell_at (heap_new w _)]; rfl
    have h0 : j = 0 := by have := (List.getElem?_eq_some_iff.1 hj).1; simp at this; exact this
    subst h0
    simp only [List.getElem?_cons_zero, Option.some.injEq] at hj
    subst hj
    exact keep _ _ hr
theorem ok_boxOwn1 {t : TypeId} {x : Operand} {k : Nat} {z : IV} (ho : o.op = .box t x) (hx : fr.ev x = some z) (hz : z.firm (look hp)) (hσ : look hp k = none) (hc : c.σ k = none) (hfr : nmFr k fr = false) (hhp : nmHp k hp = false) (hcs : nm k z = false) :
    Ok P c o fr (look hp) (.ptr k 0) (look ((k, some (.box [z])) :: hp)) := by
  intro ρ w a K Q h hK
  have hr := h.ev hx
  have hone := RepI.one hr hz
  generalize hv : a.eval x = v at hr hone
  have hcells : v.cells = #[v] := by cases v <;> first | rfl | cases hone
  have hrun : (execOp a.eval o).run P w = .ok (.value (.pointer (some ⟨w.heap.size, 0, none⟩))) (w.alloc (.cells #[v] t)) := by
    have hn : (newVar t v).run P w = .ok ⟨w.heap.size, 0, none⟩ (w.alloc (.cells v.cells t)) := rfl
    rw [hcells] at hn
    simp only [execOp, ho, hv, Instr.box, Sem.run_bind, hn, Result.andThen_ok]
    rfl
  unfold Oper.wp
  rw [hrun]
  refine hK (locUpd ρ k (some (w.heap.size, 1))) _ _ (h.alloc hσ hc hfr hhp 1 _ _ fun keep _ => ?_) (.ptr _ _ _ fun cs' _ => ⟨w.heap.size, 1, locUpd_same, rfl⟩)
  refine .box _ t #[v] (fun _ => v) (heap_new w _) (Nat.le_refl _) (fun j x hj => ?_) fun j x hj => ?_
  ·have h0 : j = 0 := by have := (List.getElem?_eq_some_iff.1 hj).1; simp at this; exact this
   subst h0; rfl
  have h0 : j = 0 := by have := (List.getElem?_eq_some_iff.1 hj).1; simp at this; exact this
  subst h0
  simp only [List.getElem?_cons_zero, Option.some.injEq] at hj
  subst hj
  exact keep _ _ hr hcs
theorem look_app {l r : Hp} {k : Nat} : look (l ++ r) k = if k ∈ l.map (·.1) then look l k else look r k := by
  induction l with
  | nil => simp
  | cons a l ih =>
    obtain ⟨j, q⟩ := a
    simp only [List.cons_append, look, ih]
    by_cases e : j = k
    ·subst e; simp
    have : (k ∈ List.map (fun (x : Nat × Option HO) => x.1) ((j, q) :: l)) ↔ k ∈ List.map (fun (x : Nat × Option HO) => x.1) l := by simp [Ne.symm e]
    simp only [beq_ne e, cond_false, this]
theorem look_none {l : Hp} {k : Nat} (h : k ∉ l.map (·.1)) : look l k = none := by
  induction l with
  | nil => rfl
  | cons a l ih =>
    obtain ⟨j, q⟩ := a
    simp only [List.map_cons, List.mem_cons, not_or] at h
    simp only [look, beq_ne (Ne.symm h.1), cond_false]
    exact ih h.2
theorem look_app_same {l r : List (Nat × HO)} (h : l.map (·.1) = r.map (·.1)) : look (up l ++ up r) = look (up l) := by
  have hu : ∀ l : List (Nat × HO), (up l).map (·.1) = l.map (·.1) := fun l => by simp [up]
  funext k
  rw [look_app]
  split
  ·rfl
  rename_i hk
  rw [look_none (by rw [hu, ← h, ← hu]; exact hk), look_none hk]
theorem post_same {l r : List (Nat × HO)} (h : l.map (·.1) = r.map (·.1)) (k : Nat) (o : HO) (hk : look (up l) k = some o) : look (up l ++ up r) k = some o := by
  rw [look_app_same h]; exact hk
theorem ok_index_box {t e : TypeId} {x y : Operand} {k off n s i : Nat} {m : Int} {cs : List IV} {kk : IntKind} (ho : o.op = .indexAddr t x y) (hx : fr.ev x = some (.ptr k off)) (hy : fr.ev y = some (.pv (.val (.int kk m)))) (hk : look hp k = some (.box cs))
    (hu : P.underlying t = some (.array n e)) (hs : (P.info? e).map (·.size) = some s) (hm : m = i) (hi : i < n) : OkV P c R1 o fr (look hp) (.ptr k (off + i * s)) := by
  subst hm
  intro ρ w a h
  obtain ⟨b, cc, e', r, u, hv, hρ, h3, h4, h5, h6⟩ := h.box hx hk
  refine ⟨.pointer (some ⟨b, off + i * s, none⟩), fun w2 _ => ?_, .ptr _ _ _ fun cs' _ => ⟨b, cc, hρ, rfl⟩⟩
  have hs' := run_sizeOf hs w2
  have h0 : (0 : Int) ≤ i ∧ (i : Int) < n := by omega
  simp [execOp, ho, hv, ev_val h hy, Instr.indexAt, Sem.run_bind, asIntOf, run_underlying hu, Instr.sureAddr, h0, hi, hs', Addr.add]
theorem ok_build_arr {t e : TypeId} {n s : Nat} {parts : Array (Nat × Operand)} {xs : List (Nat × IV)} {z : Value} {out : List IV} {σ : Heap'} (ho : o.op = .build t parts) (hx : evParts fr parts.toList = some xs)
    (hz : ((P.info? t).bind (·.zero)) = some z) (hu : P.underlying t = some (.array n e)) (hs : (P.info? e).map (·.size) = some s) (hf : fillIV (fun i => some (i * s, s)) (zerosIV z) xs = some out) (hfirm : firmParts σ xs) : OkV P c R1 o fr σ (.agg out) := by
  intro ρ w a h
  have hzv : ∀ w, (zeroValue t).run P w = .ok z w := fun w => by
    cases hq : P.info? t with
    | none => simp [hq] at hz
    | some i => simp [hq] at hz; simp [zeroValue, typeInfo, hq, hz]
  obtain ⟨hl, hv⟩ := evParts_rep h hx
  obtain ⟨vs, h1, h2⟩ := fill_rep (zeros_rep c.F ρ σ w z) hl (fun j i x hj => by
    obtain ⟨v, h3, h4⟩ := hv j i x hj
    exact ⟨v, h3, h4, hfirm _ (List.mem_of_getElem? hj)⟩) hf
  have hparts : (parts.map fun (i, x) => (i, a.eval x)).toList = parts.toList.map fun p => (p.1, a.eval p.2) := by simp
  refine ⟨.agg vs, fun w2 _ => ?_, .agg _ _ (fun j => vs.getD j undef) h2.1 (fun j x hj => ?_) fun j x hj => ?_⟩
  ·have hso := run_sizeOf hs w2
   simp only [execOp, ho, Instr.build, Sem.run_bind, hzv, run_underlying hu, hso, Result.andThen_ok, hparts, h1]
   rfl
  ·obtain ⟨v, h3, _⟩ := h2.2 j x hj
   simp [h3, Array.getD_eq_getD_getElem?]
  obtain ⟨v, h3, h4⟩ := h2.2 j x hj
  simp only [Array.getD_eq_getD_getElem?, h3, Option.getD_some]
  exact h4
end
section
variable {P : Program} {c : Cx} {R1 : Nat → Prop} {o : Oper} {fr : Fr} {hp : Hp}
def ResC (P : Program) (fr : Fr) (σ : Heap') (a : Tmp) (t : TypeId) (x : IV) : Prop := ∀ (c : Cx) (o : Oper), o.op = .load t (.tmp a) → OkV P c (fun _ => True) o fr σ x
theorem resC_ok {ρ : Loc} {σ : Heap'} {w : World} {a : Act} {q : Tmp} {t : TypeId} {x : IV} (h : All c ρ σ w fr a) (hr : ResC P fr σ q t x) : ∃ v ad, (asAddr ((a.tmps[q]?).getD undef)).run P w = .ok ad w ∧ (loadVar t ad).run P w = .ok v w ∧ RepI c.F ρ σ w x v := by
  obtain ⟨v, h1, h2⟩ := hr c { (default : Oper) with op := .load t (.tmp q) } rfl ρ w a h
  have h3 := h1 w (SameFor.refl _ _ _ _)
  simp only [execOp, Instr.loadAt, Sem.run_bind] at h3
  have hev : a.eval (.tmp q) = (a.tmps[q]?).getD undef := by simp [Act.eval]
  rw [hev] at h3
  generalize (a.tmps[q]?).getD undef = p at h3 ⊢
  cases p with
  | pointer ad =>
    cases ad with
    | none => simp [Instr.sureAddr] at h3
    | some ad =>
      refine ⟨v, ad, rfl, ?_, h2⟩
      simp only [Instr.sureAddr, Sem.run_bind, Sem.run_pure, Result.andThen_ok] at h3
      generalize (loadVar t ad).run P w = res at h3 ⊢
      cases res with
      | ok v' w' => simpa [Result.andThen] using h3
      | _ => simp [Result.andThen] at h3
  | _ => simp [Instr.sureAddr] at h3
theorem look_row_snoc2 {α : Type} {k : Nat} {s : RT} {f : α → List PV} {l : List α} {x : α} {q : Option HO} {pre : List (Nat × HO)} :
    look ((k, some (.row s (l.map f ++ [f x]))) :: (up pre ++ ((k, q) :: up pre))) = look ((k, some (.row s ((l ++ [x]).map f))) :: up pre) := by
  funext j
  simp only [look, List.map_append, List.map_cons, List.map_nil]
  by_cases e : k = j
  ·subst e; simp
  simp only [beq_ne e, cond_false]
  rw [look_app]
  split
  ·rfl
  simp only [look, beq_ne e, cond_false]
theorem ok_boxOwnP {t : TypeId} {x : Operand} {k : Nat} {ps : List PV} (ho : o.op = .box t x) (hx : fr.ev x = some (.pv (.agg ps))) (hσ : look hp k = none) (hc : c.σ k = none) (hfr : nmFr k fr = false) (hhp : nmHp k hp = false) :
    Ok P c o fr (look hp) (.ptr k 0) (look ((k, some (.box (ps.map .pv))) :: hp)) := by
  intro ρ w a K Q h hK
  have hr := h.ev hx
  generalize hv : a.eval x = v at hr
  cases hr with
  | pv _ _ hr =>
    cases hr with
    | agg _ vs u hl hvu hr =>
      have hrun : (execOp a.eval o).run P w = .ok (.value (.pointer (some ⟨w.heap.size, 0, none⟩))) (w.alloc (.cells vs t)) := by
        have hn : (newVar t (.agg vs)).run P w = .ok ⟨w.heap.size, 0, none⟩ (w.alloc (.cells vs t)) := rfl
        simp only [execOp, ho, hv, Instr.box, Sem.run_bind, hn, Result.andThen_ok]
        rfl
      unfold Oper.wp
      rw [hrun]
      refine hK (locUpd ρ k (some (w.heap.size, 1))) _ _ (h.alloc hσ hc hfr hhp 1 _ _ fun keep keepP => ?_) (.ptr _ _ _ fun cs' _ => ⟨w.heap.size, 1, locUpd_same, rfl⟩)
      refine .box _ t vs u (heap_new w _) (by simp [hl]) (fun j x hj => ?_) fun j x hj => ?_
      ·rw [List.getElem?_map] at hj
       obtain ⟨p, hp, rfl⟩ := Option.map_eq_some_iff.1 hj
       exact hvu j p hp
      rw [List.getElem?_map] at hj
      obtain ⟨p, hp, rfl⟩ := Option.map_eq_some_iff.1 hj
      exact .pv _ _ (keepP _ _ (hr j p hp))
theorem ok_field_pure {t : TypeId} {x : Operand} {f : Nat} {ps : List PV} {p : PV} {fs : Array Field} {fd : Field} {d : TypeDesc} {σ : Heap'} (ho : o.op = .field t x f) (hx : fr.ev x = some (.pv (.agg ps)))
    (hu : P.underlying t = some (.struct fs)) (hf : fs[f]? = some fd) (hd : P.underlying fd.type = some d) (hrow : d.isRow = false) (hp : ps[fd.offset]? = some p) : OkV P c R1 o fr σ (.pv p) := by
  intro ρ w a h
  have hr := h.ev hx
  generalize hv : a.eval x = v at hr
  cases hr with
  | pv _ _ hr =>
    cases hr with
    | agg _ vs u hl hvu hr =>
      refine ⟨u fd.offset, fun w2 _ => ?_, .pv _ _ (hr _ _ hp)⟩
      simp [execOp, ho, hv, Instr.field, Sem.run_bind, run_underlying hu, hf, part, asAgg, run_isAgg hd, hrow, hvu _ _ hp]
def retC (P : Program) (a : Tmp) (t : TypeId) (r : IV) (post : List (Nat × HO)) : Exit → Fr → Heap' → Prop
  | .ret, fr, σ | .normal, fr, σ => (∃ x, ResC P fr σ a t x ∧ ∀ F ρ w v, RepI F ρ σ w x v → RepI F ρ σ w r v) ∧ ∀ k o, look (up post) k = some o → σ k = some o
  | _, _, _ => False
theorem SC.start {f : FuncId} {fn : Func} {code : Code} {args : List IV} {pre post : List (Nat × HO)} {R : Nat → Prop} {r : IV} {Q : Exit → Fr → Heap' → Prop} (hf : P.funcs[f]? = some fn) (hb : fn.body = some code) (hn : args.length ≤ fn.ntmps)
    (hQ : ∀ (c : Cx) (e : Exit) (fr : Fr) (σ : Heap'), Q e fr σ → (e = .ret ∨ e = .normal) ∧ (∀ k o, look (up post) k = some o → σ k = some o) ∧ ∀ ρ w a, All c ρ σ w fr a → ∃ v, (results fn a.tmps).run P w = .ok v w ∧ RepI c.F ρ σ w r v)
    (h : ∀ F ρ w, Tr P ⟨F, R, ρ, look (up pre), w, fn.ntmps⟩ code (frOf 0 args) (look (up pre)) Q) : SC P f args pre R r post := by
  intro F ρ w vs hkept hrel hargs
  refine calls_of_wp hf hb ?_
  have ha : All ⟨F, R, ρ, look (up pre), w, fn.ntmps⟩ ρ (look (up pre)) w (frOf 0 args) { tmps := vs.toArray ++ Array.replicate (fn.ntmps - vs.toArray.size) undef, defers := [] } := by
    refine ⟨hrel, fun t x hx => ?_, .refl _ _ _ _ _, rfl, ?_, hkept⟩
    ·obtain ⟨v, hv, hr⟩ := hargs.2 t x (by simpa using (frOf_get hx).2)
     refine ⟨v, ?_, hr⟩
     rw [Array.getElem?_append_left (by simpa using (List.getElem?_eq_some_iff.1 hv).1)]
     simpa using hv
    have := hargs.1
    simp; omega
  refine wp_mono (h F ρ w ρ w _ ha) fun e a' w' hq => ?_
  obtain ⟨ρ', σ', fr', ha', hq⟩ := hq
  obtain ⟨he, hσ, hres⟩ := hQ ⟨F, R, ρ, look (up pre), w, fn.ntmps⟩ e fr' σ' hq
  obtain ⟨v, hv, h1⟩ := hres ρ' w' a' ha'
  obtain ⟨ρ'', ha'', keep⟩ := ha'.restrict hσ
  rcases he with rfl | rfl
  ·exact ⟨ha'.df, v, hv, ρ'', v, rfl, keep _ _ h1, ha''.rel, ha''.tr⟩
  exact ⟨ha'.df, v, hv, ρ'', v, rfl, keep _ _ h1, ha''.rel, ha''.tr⟩
theorem SC.ofC {f : FuncId} {fn : Func} {code : Code} {args : List IV} {pre post : List (Nat × HO)} {R : Nat → Prop} {r : IV} {q : Tmp} {t : TypeId} (hf : P.funcs[f]? = some fn) (hb : fn.body = some code) (hn : args.length ≤ fn.ntmps) (hrs : fn.results = #[.cell q t])
    (h : ∀ F ρ w, Tr P ⟨F, R, ρ, look (up pre), w, fn.ntmps⟩ code (frOf 0 args) (look (up pre)) (retC P q t r post)) : SC P f args pre R r post := by
  refine SC.start hf hb hn (fun c e fr σ hq => ?_) h
  have key : (∃ x, ResC P fr σ q t x ∧ ∀ F ρ w v, RepI F ρ σ w x v → RepI F ρ σ w r v) → ∀ ρ w a, All c ρ σ w fr a → ∃ v, (results fn a.tmps).run P w = .ok v w ∧ RepI c.F ρ σ w r v := by
    rintro ⟨x, hx, hs⟩ ρ w a ha
    obtain ⟨v, ad, hv, hv2, h1⟩ := resC_ok ha hx
    refine ⟨v, ?_, hs _ _ _ _ h1⟩
    simp [results, hrs, hv, hv2, Sem.run_bind]
  cases e with
  | ret => exact ⟨.inl rfl, hq.2, key hq.1⟩
  | normal => exact ⟨.inr rfl, hq.2, key hq.1⟩
  | _ => exact hq.elim
theorem retC_ok {q : Tmp} {t : TypeId} {x r : IV} {post : List (Nat × HO)} {σ : Heap'} {e : Exit} (he : e = .ret ∨ e = .normal) (hx : ResC P fr σ q t x) (hr : x = r) (hσ : ∀ k o, look (up post) k = some o → σ k = some o) : retC P q t r post e fr σ := by
  rcases he with rfl | rfl <;> exact ⟨⟨x, hx, fun _ _ _ _ h => hr ▸ h⟩, hσ⟩
end
section
variable {P : Program} {c : Cx} {R1 : Nat → Prop} {o : Oper} {fr : Fr} {hp : Hp} {σ : Heap'} {Q : Exit → Fr → Heap' → Prop}
theorem RepP.keepIt {own : Nat → Prop} {w w' : World} {b0 : Nat} {p : PV} {v : Value} (h : RepP own w p v) (hs : w.heap.size ≤ w'.heap.size) (h0 : ∀ off sp, w.cell? ⟨b0, off, sp⟩ = none)
    (hk : ∀ b, b ≠ b0 → w'.heap[b]? = w.heap[b]?) : RepP own w' p v := by
  have key : ∀ (b off : Nat) (x : Value), w.cell? ⟨b, off, none⟩ = some x → w'.cell? ⟨b, off, none⟩ = some x := by
    intro b off x hx
    by_cases e : b = b0
    ·subst e; rw [h0] at hx; cases hx
    rw [← hx]; exact World.cell?_of_block (a := ⟨b, off, none⟩) (hk b e)
  induction h with
  | val v => exact .val v
  | seq els a cap b off u ha hb hl hm hc _ ih => exact .seq els a cap b off u ha (fun hne => ⟨(hb hne).1, Nat.lt_of_lt_of_le (hb hne).2 hs⟩) hl hm (fun i el hi j c hj => key _ _ _ (hc i el hi j c hj)) ih
  | agg cs vs u hl hv _ ih => exact .agg cs vs u hl hv ih
  | ept cs off b o u hb hc _ ih => exact .ept cs off b o u ⟨hb.1, Nat.lt_of_lt_of_le hb.2 hs⟩ (fun j c hj => key _ _ _ (hc j c hj)) ih
theorem RepI.mapP {F : Nat → Prop} {ρ : Loc} {w w' : World} {x : IV} {v : Value} (hk : ∀ p v, RepP (owned F ρ) w p v → RepP (owned F ρ) w' p v) (h : RepI F ρ σ w x v) : RepI F ρ σ w' x v := by
  induction h with
  | pv p v h => exact .pv p v (hk _ _ h)
  | ptr k off v h => exact .ptr k off v h
  | sl k len v h => exact .sl k len v h
  | rpt k len off v h => exact .rpt k len off v h
  | bs k n v h => exact .bs k n v h
  | mp k v h => exact .mp k v h
  | tnil k T v h => exact .tnil k T v h
  | agg cs vs u hl hv _ ih => exact .agg cs vs u hl hv ih
  | tup cs vs u hl hv _ ih => exact .tup cs vs u hl hv ih
  | fn f xs ys vs ws u t hl hv _ hl' hv' _ ih ih' => exact .fn f xs ys vs ws u t hl hv ih hl' hv' ih'
theorem RepO.mapP {F : Nat → Prop} {ρ : Loc} {w w' : World} {b cc : Nat} {o : HO} (hb : w'.heap[b]? = w.heap[b]?) (hk : ∀ p v, RepP (owned F ρ) w p v → RepP (owned F ρ) w' p v) (h : RepO F ρ σ w b cc o) : RepO F ρ σ w' b cc o := by
  cases h with
  | box cs e a u h hl hv hr => exact .box cs e a u (hb.trans h) hl hv fun j x hj => (hr j x hj).mapP hk
  | row s els a u h hs hl hm hw hv hr => exact .row s els a u (hb.trans h) hs hl hm hw hv fun i el hi j x hj => hk _ _ (hr i el hi j x hj)
  | map es a t u h hl hv hr => exact .map es a t u (hb.trans h) hl hv fun i k p hi => hk _ _ (hr i k p hi)
theorem stringIter_nocell {w : World} {b0 : Nat} {s : ByteArray} {k : Nat} (h : w.heap[b0]? = some (.stringIter s k)) : ∀ off sp, w.cell? ⟨b0, off, sp⟩ = none := by
  intro off sp
  simp [World.cell?, h]
theorem All.iterSet {ρ : Loc} {w : World} {a : Act} {b0 k k' : Nat} {s : ByteArray} (h : All c ρ σ w fr a) (hit : w.heap[b0]? = some (.stringIter s k)) (hge : c.w.heap.size ≤ b0) (hun : ∀ j cc, ρ j ≠ some (b0, cc)) :
    All c ρ σ { w with heap := w.heap.setIfInBounds b0 (.stringIter s k') } fr a := by
  have hlt : b0 < w.heap.size := (Array.getElem?_eq_some_iff.1 hit).1
  have hoth : ∀ b, b ≠ b0 → (w.heap.setIfInBounds b0 (Obj.stringIter s k'))[b]? = w.heap[b]? := fun b hb => by simp [Ne.symm hb]
  have hP : ∀ p v, RepP (owned c.F ρ) w p v → RepP (owned c.F ρ) { w with heap := w.heap.setIfInBounds b0 (.stringIter s k') } p v := fun p v hp => hp.keepIt (by simp) (stringIter_nocell hit) hoth
  refine ⟨⟨h.rel.inj, h.rel.apart, fun b hb => by simpa using h.rel.old b hb, fun j b cc hj => ?_, h.rel.real⟩, fun t x hx => ?_, ?_, h.df, h.sz, h.kk⟩
  ·obtain ⟨o, h1, h2⟩ := h.rel.obj j b cc hj
   exact ⟨o, h1, h2.mapP (hoth b fun e => hun j cc (e ▸ hj)) hP⟩
  ·obtain ⟨v, hv, hr⟩ := h.fr t x hx
   exact ⟨v, hv, hr.mapP hP⟩
  have t := h.tr
  exact { t with
    size := by simpa using t.size
    blk := fun b hb hall => (hoth b (by omega)).trans (t.blk b hb hall) }
theorem All.rebase {ρ : Loc} {w : World} {a : Act} (h : All c ρ σ w fr a) : All ⟨c.F, c.R, ρ, σ, w, c.n⟩ ρ σ w fr a := ⟨h.rel, h.fr, .refl _ _ _ _ _, h.df, h.sz, h.kept⟩
theorem All.unbase {ρ ρ' : Loc} {σ' : Heap'} {w w' : World} {fr' : Fr} {a a' : Act} (h : All c ρ σ w fr a) (h' : All ⟨c.F, c.R, ρ, σ, w, c.n⟩ ρ' σ' w' fr' a') (hc : ∀ k, σ k = none → c.σ k = none) : All c ρ' σ' w' fr' a' :=
  ⟨h'.rel, h'.fr, h.tr.trans h'.tr (fun _ h => h) (fun k h1 _ => hc k h1), h'.df, h'.sz, h.kk⟩
abbrev itv (b0 : Nat) : IV := .pv (.val (.pointer (some ⟨b0, 0, none⟩)))
theorem decode_pos (s : ByteArray) (i : Nat) : 1 ≤ (Utf8.decode s i).2 := by
  unfold Utf8.decode
  simp only
  repeat' split
  all_goals simp
def itPos (w : World) (b0 : Nat) : Nat := match w.heap[b0]? with
  | some (.stringIter _ k) => k
  | _ => 0
theorem Sub.cons {fr' : Fr} {d : Nat} {x : IV} (h : Sub σ fr fr') : Sub σ ((d, x) :: fr) ((d, x) :: fr') := by
  intro t y hy
  simp only [Fr.get] at hy ⊢
  cases hb : Nat.beq d t with
  | true => rw [hb] at hy; cases hy; exact ⟨_, rfl, fun _ _ _ _ h => h⟩
  | false => rw [hb] at hy; exact h t y hy
theorem Tr.strRange {id1 i2 bid : Nat} {ops1 ops2 : Array Oper} {rest : Code} {m g nx ex : Oper} {d0 d1 e1 e2 : Nat} {x0 : Operand} {ty : TypeId} {s : ByteArray}
    (h1 : ops1.toList = [m, g]) (hmo : m.op = .move x0) (hmd : m.dst = some d0) (hmg : m.guard = none) (hgo : g.op = .range ty (.tmp d0)) (hgd : g.dst = some d1) (hgg : g.guard = none)
    (hx0 : fr.ev x0 = some (iStr s)) (hty : P.underlying ty = some .string)
    (h2 : ops2.toList = [nx, ex]) (hno : nx.op = .next (.tmp d1) true) (hnd : nx.dst = some e1) (hng : nx.guard = none) (heo : ex.op = .extract (.tmp e1) 0) (hed : ex.dst = some e2) (heg : ex.guard = none)
    (hb0 : Nat.blt d0 c.n = true) (hb1 : Nat.blt d1 c.n = true) (hb2 : Nat.blt e1 c.n = true) (hb3 : Nat.blt e2 c.n = true)
    (hcσ : ∀ k, σ k = none → c.σ k = none)
    (I : Nat → Fr → Prop) (h0 : ∃ fr0, Sub σ ((d0, iStr s) :: fr) fr0 ∧ I 0 fr0)
    (hdone : ∀ b0 k fr', s.size ≤ k → I k fr' → Q .normal ((e2, iBool false) :: (e1, .tup [iBool false]) :: (d1, itv b0) :: fr') σ)
    (round : ∀ (ρ2 : Loc) (w2 : World) (b0 k : Nat) (fr' : Fr), k < s.size → I k fr' →
      Tr P ⟨c.F, c.R, ρ2, σ, w2, c.n⟩ rest ((e2, iBool true) :: (e1, .tup [iBool true, iInt k, .pv (.val (.int .i32 (Utf8.decode s k).1))]) :: (d1, itv b0) :: fr') σ (fun e fr1 σ1 => match e with
        | .normal => σ1 = σ ∧ ∃ fr'', Sub σ fr1 ((d1, itv b0) :: fr'') ∧ I (k + (Utf8.decode s k).2) fr''
        | .exit _ => False
        | e => Q e fr1 σ1)) :
    Tr P c (.seq (.region id1 ops1 false) (.block bid (.loop (.seq (.region i2 ops2 false) (.seq (.cond (.tmp e2) .skip (.exit bid)) rest))))) fr σ Q := by
  obtain ⟨fr0, hs0, hI0⟩ := h0
  intro ρ w a ha
  refine wp_seq (wp_region_list ?_)
  rw [h1]
  refine wpList_plain hmg fun K hK => ?_
  obtain ⟨v1, hr1, hv1⟩ := (ok_move (R1 := fun _ => True) hmo hx0) ρ w a ha
  unfold Oper.wp
  rw [hr1 w (.refl _ _ _ _), Oper.upon_value]
  refine hK _ _ ?_
  clear hK K
  have ha2 : All c ρ σ w ((d0, iStr s) :: fr) (a.put m.dst v1) := by
    have := ha.put (d := m.dst) hv1 (by rw [hmd]; intro t ht; cases ht; simpa using hb0)
    rwa [hmd] at this ⊢
  generalize a.put m.dst v1 = a2 at ha2 ⊢
  refine wpList_plain hgg fun K2 hK2 => ?_
  have hevs : a2.eval (.tmp d0) = .string s := ev_val ha2 (show Fr.ev ((d0, iStr s) :: fr) (.tmp d0) = _ by simp [Fr.ev, Fr.get])
  have hrun : (execOp a2.eval g).run P w = .ok (.value (.pointer (some ⟨w.heap.size, 0, none⟩))) (w.iter s 0) := by
    simp [execOp, hgo, hevs, Sem.run_bind, run_range_string w ty s hty]
  unfold Oper.wp
  rw [hrun, Oper.upon_value]
  refine hK2 _ _ ?_
  obtain ⟨ha3, _⟩ := ha2.push (.stringIter s 0)
  have hfresh := ha2.fresh
  have ha4 : All c ρ σ (w.iter s 0) ((d1, itv w.heap.size) :: (d0, iStr s) :: fr) (a2.put g.dst (.pointer (some ⟨w.heap.size, 0, none⟩))) := by
    have := ha3.put (d := g.dst) (mkVal (.pointer (some ⟨w.heap.size, 0, none⟩))) (by rw [hgd]; intro t ht; cases ht; simpa using hb1)
    rwa [hgd] at this ⊢
  have hge : c.w.heap.size ≤ w.heap.size := ha2.tr.size
  generalize hb : w.heap.size = b0 at *
  generalize a2.put g.dst (.pointer (some ⟨b0, 0, none⟩)) = a4 at ha4 ⊢
  show (Code.block _ _).wp P _ a4 (w.iter s 0)
  refine wp_block <| wp_loop (fun a' w' => ∃ k ρ' fr', All c ρ' σ w' ((d1, itv b0) :: fr') a' ∧ I k fr' ∧ w'.heap[b0]? = some (.stringIter s k) ∧ ∀ j cc, ρ' j ≠ some (b0, cc)) (fun _ w' => s.size - itPos w' b0) ⟨0, ρ, fr0, ha4.sub (hs0.cons), hI0, by rw [← hb]; exact World.iter_heap w s 0, fun j cc hj => hfresh (.inr ⟨j, cc, hj⟩)⟩ ?_
  rintro a5 w5 ⟨k, ρ5, fr', ha5, hI, hit, hun⟩
  refine wp_seq (wp_region_list ?_)
  rw [h2]
  have hevp : a5.eval (.tmp d1) = .pointer (some ⟨b0, 0, none⟩) := ev_val ha5 (show Fr.ev ((d1, itv b0) :: fr') (.tmp d1) = _ by simp [Fr.ev, Fr.get])
  have hpos : itPos w5 b0 = k := by simp [itPos, hit]
  have hlt0 : b0 < w5.heap.size := (Array.getElem?_eq_some_iff.1 hit).1
  by_cases hk : k < s.size
  ·have hrun5 : (execOp a5.eval nx).run P w5 = .ok (.value (.tuple #[.bool true, .int .i64 k, .int .i32 (Utf8.decode s k).1])) { w5 with heap := w5.heap.setIfInBounds b0 (.stringIter s (k + (Utf8.decode s k).2)) } := by
     simp [execOp, hno, hevp, Instr.next, getObj, setObj, Sem.run_bind, Sem.run, hit, hk, goInt, Result.andThen]
   refine wpList_plain hng fun K3 hK3 => ?_
   unfold Oper.wp
   rw [hrun5, Oper.upon_value]
   refine hK3 _ _ ?_
   have ha6 := ha5.iterSet (k' := k + (Utf8.decode s k).2) hit (by rw [← hb] at hge ⊢; exact hge) hun
   have htup : RepI c.F ρ5 σ { w5 with heap := w5.heap.setIfInBounds b0 (.stringIter s (k + (Utf8.decode s k).2)) } (.tup [iBool true, iInt k, .pv (.val (.int .i32 (Utf8.decode s k).1))]) (.tuple #[.bool true, .int .i64 k, .int .i32 (Utf8.decode s k).1]) := tup_three (mkVal _) (mkVal _) (mkVal _)
   have ha7 : All c ρ5 σ { w5 with heap := w5.heap.setIfInBounds b0 (.stringIter s (k + (Utf8.decode s k).2)) } ((e1, .tup [iBool true, iInt k, .pv (.val (.int .i32 (Utf8.decode s k).1))]) :: (d1, itv b0) :: fr') (a5.put nx.dst (.tuple #[.bool true, .int .i64 k, .int .i32 (Utf8.decode s k).1])) := by
     have := ha6.put (d := nx.dst) htup (by rw [hnd]; intro t ht; cases ht; simpa using hb2)
     rwa [hnd] at this ⊢
   generalize a5.put nx.dst (.tuple #[.bool true, .int .i64 k, .int .i32 (Utf8.decode s k).1]) = a7 at ha7 ⊢
   generalize hw7 : ({ w5 with heap := w5.heap.setIfInBounds b0 (.stringIter s (k + (Utf8.decode s k).2)) } : World) = w7 at ha7 ⊢
   have hit7 : w7.heap[b0]? = some (.stringIter s (k + (Utf8.decode s k).2)) := by rw [← hw7]; simp [hlt0]
   refine wpList_plain heg fun K4 hK4 => ?_
   obtain ⟨v8, hr8, hv8⟩ := (ok_extract (R1 := fun _ => True) (vs := [iBool true, iInt k, .pv (.val (.int .i32 (Utf8.decode s k).1))]) (z := iBool true) heo (show Fr.ev ((e1, _) :: _) (.tmp e1) = _ by simp [Fr.ev, Fr.get]) rfl) ρ5 w7 a7 ha7
   unfold Oper.wp
   rw [hr8 w7 (.refl _ _ _ _), Oper.upon_value]
   refine hK4 _ _ ?_
   have ha8 : All c ρ5 σ w7 ((e2, iBool true) :: (e1, .tup [iBool true, iInt k, .pv (.val (.int .i32 (Utf8.decode s k).1))]) :: (d1, itv b0) :: fr') (a7.put ex.dst v8) := by
     have := ha7.put (d := ex.dst) hv8 (by rw [hed]; intro t ht; cases ht; simpa using hb3)
     rwa [hed] at this ⊢
   generalize a7.put ex.dst v8 = a8 at ha8 ⊢
   show (Code.seq _ _).wp P _ a8 w7
   refine wp_seq <| wp_cond (t := true) (ev_val ha8 (show Fr.ev ((e2, iBool true) :: _) (.tmp e2) = _ by simp [Fr.ev, Fr.get])) ?_
   rw [if_pos rfl]
   refine wp_skip ?_
   show rest.wp P _ a8 w7
   refine wp_mono (round ρ5 w7 b0 k fr' hk hI ρ5 w7 a8 ha8.rebase) ?_
   rintro e a9 w9 ⟨ρ9, σ9, fr9, ha9, hq⟩
   have hlt7 : b0 < w7.heap.size := (Array.getElem?_eq_some_iff.1 hit7).1
   cases e with
   | normal =>
     obtain ⟨rfl, fr2, hsub, hI2⟩ := hq
     have hit9 : w9.heap[b0]? = some (.stringIter s (k + (Utf8.decode s k).2)) := (ha9.tr.blk b0 hlt7 fun j cc hj => absurd hj (hun j cc)).trans hit7
     refine ⟨⟨_, ρ9, fr2, (ha8.unbase ha9 hcσ).sub hsub, hI2, hit9, fun j cc hj => hun j cc (ha9.tr.own j b0 cc hj hlt7)⟩, ?_⟩
     have := decode_pos s k
     rw [hpos]
     simp only [itPos, hit9]
     omega
   | exit id => exact hq.elim
   | _ => exact ⟨ρ9, σ9, fr9, ha8.unbase ha9 hcσ, hq⟩
  have hrun5 : (execOp a5.eval nx).run P w5 = .ok (.value (.tuple #[.bool false])) w5 := by
    simp [execOp, hno, hevp, Instr.next, getObj, Sem.run_bind, Sem.run, hit, hk, Result.andThen]
  refine wpList_plain hng fun K3 hK3 => ?_
  unfold Oper.wp
  rw [hrun5, Oper.upon_value]
  refine hK3 _ _ ?_
  have htup : RepI c.F ρ5 σ w5 (.tup [iBool false]) (.tuple #[.bool false]) := .tup _ _ (fun _ => .bool false) rfl (fun j x hj => by
    match j, hj with
    | 0, _ => rfl
    | j + 1, hj => simp at hj) fun j x hj => by
    match j, hj with
    | 0, hj => cases hj; exact mkVal _
    | j + 1, hj => simp at hj
  have ha7 : All c ρ5 σ w5 ((e1, .tup [iBool false]) :: (d1, itv b0) :: fr') (a5.put nx.dst (.tuple #[.bool false])) := by
    have := ha5.put (d := nx.dst) htup (by rw [hnd]; intro t ht; cases ht; simpa using hb2)
    rwa [hnd] at this ⊢
  generalize a5.put nx.dst (.tuple #[.bool false]) = a7 at ha7 ⊢
  refine wpList_plain heg fun K4 hK4 => ?_
  obtain ⟨v8, hr8, hv8⟩ := (ok_extract (R1 := fun _ => True) (vs := [iBool false]) (z := iBool false) heo (show Fr.ev ((e1, _) :: _) (.tmp e1) = _ by simp [Fr.ev, Fr.get]) rfl) ρ5 w5 a7 ha7
  unfold Oper.wp
  rw [hr8 w5 (.refl _ _ _ _), Oper.upon_value]
  refine hK4 _ _ ?_
  have ha8 : All c ρ5 σ w5 ((e2, iBool false) :: (e1, .tup [iBool false]) :: (d1, itv b0) :: fr') (a7.put ex.dst v8) := by
    have := ha7.put (d := ex.dst) hv8 (by rw [hed]; intro t ht; cases ht; simpa using hb3)
    rwa [hed] at this ⊢
  generalize a7.put ex.dst v8 = a8 at ha8 ⊢
  show (Code.seq _ _).wp P _ a8 w5
  refine wp_seq <| wp_cond (t := false) (ev_val ha8 (show Fr.ev ((e2, iBool false) :: _) (.tmp e2) = _ by simp [Fr.ev, Fr.get])) ?_
  rw [if_neg (by simp)]
  refine wp_exit ?_
  show (if bid = bid then _ else _)
  rw [if_pos rfl]
  exact ⟨ρ5, σ, _, ha8, hdone b0 k fr' (by omega) hI⟩
end
section
variable {P : Program} {c : Cx} {R1 : Nat → Prop} {o : Oper} {fr : Fr} {hp : Hp} {σ : Heap'} {Q : Exit → Fr → Heap' → Prop}
open Classical in
theorem SC.step1 {k0 : Nat} {f : FuncId} {args : List IV} {pre post : List (Nat × HO)} {R : Nat → Prop} {r : IV} {hp : Hp} {ρ : Loc} {w : World} {a : Act} {vs : List Value} (hsc : SC P f args pre R r post)
    (h : All c ρ (look hp) w fr a) (hargs : RepL c.F ρ (look hp) w args vs) (hpre : ∀ k o, look (up pre) k = some o → look hp k = some o) (hdom : post.map (·.1) = k0 :: pre.map (·.1)) (hσ0 : look hp k0 = none) (hc0 : c.σ k0 = none) (hfr0 : nmFr k0 fr = false) (hhp0 : nmHp k0 hp = false)
    (hR : ∀ k, c.R k → look (up pre) k = none ∨ R k) (hr : only (post.map (·.1)) r = true) (hpost : onlyHp (post.map (·.1)) post = true) :
    Calls P f vs.toArray w fun e w' => ∃ ρ' v, e = .returned v ∧ All c ρ' (look (up post ++ hp)) w' fr a ∧ RepI c.F ρ' (look (up post ++ hp)) w' r v := by
  have hp0 : look (up pre) k0 = none := by
    cases h0 : look (up pre) k0 with
    | none => rfl
    | some o => rw [hpre k0 o h0] at hσ0; cases hσ0
  have hd : ∀ k, look (up post) k = none ↔ look (up pre) k = none ∧ k ≠ k0 := fun k => by
    rw [look_up_none, look_up_none, hdom, List.mem_cons, not_or]
    exact And.comm
  have hpp : ∀ k, look (up post) k ≠ none → look hp k ≠ none → look (up pre) k ≠ none := fun k e e1 e2 => by
    by_cases e3 : k = k0
    ·subst e3; exact e1 hσ0
    exact e ((hd k).2 ⟨e2, e3⟩)
  let ρ1 : Loc := fun k => if look (up pre) k = none then none else ρ k
  let F1 : Nat → Prop := fun b => c.F b ∨ ∃ k cc, ρ k = some (b, cc) ∧ look (up pre) k = none
  have h1in : ∀ k, look (up pre) k ≠ none → ρ1 k = ρ k := fun k hk => if_neg hk
  have h1out : ∀ k, look (up pre) k = none → ρ1 k = none := fun k hk => if_pos hk
  have h1 : ∀ k l, ρ1 k = some l → look (up pre) k ≠ none ∧ ρ k = some l := fun k l hk => by
    by_cases e : look (up pre) k = none
    ·rw [h1out k e] at hk; cases hk
    exact ⟨e, (h1in k e) ▸ hk⟩
  have hown1 : ∀ b, owned F1 ρ1 b → owned c.F ρ b := fun b hb => by
    rcases hb with (hb | ⟨k, cc, hk, _⟩) | ⟨k, cc, hk⟩
    ·exact .inl hb
    ·exact .inr ⟨k, cc, hk⟩
    exact .inr ⟨k, cc, (h1 k _ hk).2⟩
  have hconv : ∀ x : IV, ¬ Names (fun k => ¬ ∀ o, look (up pre) k = some o → look hp k = some o ∧ ρ1 k = ρ k) x := fun x hx => by
    obtain ⟨k, hk⟩ := hx.some
    exact hk fun o ho => ⟨hpre k o ho, h1in k (by simp [ho])⟩
  have hrel1 : RelH F1 ρ1 (look (up pre)) w := by
    refine ⟨fun k k' b cc cc' hk hk' => h.rel.inj k k' b cc cc' (h1 _ _ hk).2 (h1 _ _ hk').2, fun k b cc hk hb => ?_, fun b hb => ?_, fun k b cc hk => ?_, fun k o hk hρ => ?_⟩
    ·rcases hb with hb | ⟨k', cc', hk', hn⟩
     ·exact h.rel.apart k b cc (h1 _ _ hk).2 hb
     obtain rfl := h.rel.inj _ _ _ _ _ (h1 _ _ hk).2 hk'
     exact (h1 _ _ hk).1 hn
    ·rcases hb with hb | ⟨k', cc', hk', _⟩
     ·exact h.rel.old b hb
     exact h.rel.lt hk'
    ·obtain ⟨hne, hk2⟩ := h1 _ _ hk
     obtain ⟨o1, ho1, ho2⟩ := h.rel.obj k b cc hk2
     cases hl : look (up pre) k with
     | none => exact absurd hl hne
     | some o2 =>
       rw [hpre k o2 hl] at ho1; cases ho1
       exact ⟨_, rfl, ho2.conv hown1 fun x _ => hconv x⟩
    rw [h1in k (by simp [hk])] at hρ
    exact h.rel.real k o (hpre k o hk) hρ
  refine (hsc F1 ρ1 w vs (h.kept.mono hown1) hrel1 ⟨hargs.1, fun j x hj => ?_⟩).mono ?_
  ·obtain ⟨v, hv, hx⟩ := hargs.2 j x hj
   exact ⟨v, hv, hx.conv hown1 (hconv x)⟩
  rintro e w' ⟨ρ2, v, rfl, hv, hrel2, t⟩
  let ρ' : Loc := fun k => if look (up post) k = none then ρ k else ρ2 k
  have h2in : ∀ k, look (up post) k ≠ none → ρ' k = ρ2 k := fun k hk => if_neg hk
  have h2out : ∀ k, look (up post) k = none → ρ' k = ρ k := fun k hk => if_pos hk
  have h2none : ∀ k, look (up post) k = none → ρ2 k = none := fun k hk => by
    cases h3 : ρ2 k with
    | none => rfl
    | some l =>
      obtain ⟨o1, ho1, _⟩ := hrel2.obj k l.1 l.2 h3
      rw [hk] at ho1; cases ho1
  have hσin : ∀ k, look (up post) k ≠ none → look (up post ++ hp) k = look (up post) k := fun k hk => by
    rw [look_append]
    cases h3 : look (up post) k with
    | none => exact absurd h3 hk
    | some o => rfl
  have hσout : ∀ k, look (up post) k = none → look (up post ++ hp) k = look hp k := fun k hk => by
    rw [look_append, hk]; rfl
  have hown2 : ∀ b, owned c.F ρ' b → owned F1 ρ2 b := fun b hb => by
    rcases hb with hb | ⟨k, cc, hk⟩
    ·exact .inl (.inl hb)
    by_cases e : look (up post) k = none
    ·rw [h2out k e] at hk; exact .inl (.inr ⟨k, cc, hk, ((hd k).1 e).1⟩)
    rw [h2in k e] at hk; exact .inr ⟨k, cc, hk⟩
  have hconv2 : ∀ x : IV, only (post.map (·.1)) x = true → ¬ Names (fun k => ¬ ∀ o, look (up post ++ hp) k = some o → look (up post) k = some o ∧ ρ' k = ρ2 k) x := fun x hx hn => by
    refine only_names hx (hn.imp fun k hk hmem => hk fun o ho => ?_)
    have hne : look (up post) k ≠ none := fun e => (look_up_none.1 e) hmem
    rw [hσin k hne] at ho
    exact ⟨ho, h2in k hne⟩
  have T : Trans c.F (fun k => look (up pre) k = none ∨ R k) ρ (look hp) w ρ' (look (up post ++ hp)) w' := by
    refine ⟨t.os, t.tape, t.output, t.size, fun b hb hall => t.blk b hb fun k cc hk => ?_, fun k b cc hk hb => ?_, fun k cs cs' e1 e2 => ?_, fun k cs cs' e1 e2 => ?_, fun k s s' els els' e1 e2 hl => ?_, fun k s s' els els' e1 e2 => ?_, fun k cs' e2 => ?_, fun k cs' e2 => ?_, fun k s els' e2 => ?_⟩
    ·obtain ⟨hne, hk2⟩ := h1 _ _ hk
     exact (hall k cc hk2).resolve_left hne
    ·by_cases e : look (up post) k = none
     ·rwa [h2out k e] at hk
     rw [h2in k e] at hk; exact (h1 _ _ (t.own k b cc hk hb)).2
    all_goals by_cases e : look (up post) k = none
    ·exact h2out k e
    ·cases h3 : look (up pre) k with
     | none => exact absurd h3 (hpp k e (by simp [e1]))
     | some o =>
       rw [hpre k o h3] at e1; cases e1
       rw [hσin k e] at e2
       rw [h2in k e, t.box k _ _ h3 e2, h1in k (by simp [h3])]
    ·exact h2out k e
    ·cases h3 : look (up pre) k with
     | none => exact absurd h3 (hpp k e (by simp [e1]))
     | some o =>
       rw [hpre k o h3] at e1; cases e1
       rw [hσin k e] at e2
       rw [h2in k e, t.map k _ _ h3 e2, h1in k (by simp [h3])]
    ·exact h2out k e
    ·cases h3 : look (up pre) k with
     | none => exact absurd h3 (hpp k e (by simp [e1]))
     | some o =>
       rw [hpre k o h3] at e1; cases e1
       rw [hσin k e] at e2
       rw [h2in k e, t.row k _ _ _ _ h3 e2 hl, h1in k (by simp [h3])]
    ·rw [hσout k e, e1] at e2; cases e2; exact Nat.le_refl _
    ·cases h3 : look (up pre) k with
     | none => exact absurd h3 (hpp k e (by simp [e1]))
     | some o =>
       rw [hpre k o h3] at e1; cases e1
       rw [hσin k e] at e2
       exact t.grow k _ _ _ _ h3 e2
    ·rw [hσout k e] at e2; exact .inr ⟨_, e2⟩
    ·rw [hσin k e] at e2
     rcases t.kindB k _ e2 with h3 | ⟨cs, h3⟩
     ·by_cases e3 : k = k0
      ·subst e3; exact .inl hσ0
      exact absurd ((hd k).2 ⟨h3, e3⟩) e
     exact .inr ⟨cs, hpre k _ h3⟩
    ·rw [hσout k e] at e2; exact .inr ⟨_, e2⟩
    ·rw [hσin k e] at e2
     rcases t.kindM k _ e2 with h3 | ⟨cs, h3⟩
     ·by_cases e3 : k = k0
      ·subst e3; exact .inl hσ0
      exact absurd ((hd k).2 ⟨h3, e3⟩) e
     exact .inr ⟨cs, hpre k _ h3⟩
    ·rw [hσout k e] at e2; exact .inr ⟨_, e2⟩
    rw [hσin k e] at e2
    rcases t.kindR k _ _ e2 with h3 | ⟨cs, h3⟩
    ·by_cases e3 : k = k0
     ·subst e3; exact .inl hσ0
     exact absurd ((hd k).2 ⟨h3, e3⟩) e
    exact .inr ⟨cs, hpre k _ h3⟩
  have hnone : ∀ k, (look hp k = none ∧ look (up post ++ hp) k ≠ none) → k = k0 := fun k hk => by
    by_cases e : look (up post) k = none
    ·rw [hσout k e] at hk; exact absurd hk.1 hk.2
    refine Classical.byContradiction fun e3 => ?_
    have e4 : look (up pre) k ≠ none := fun h3 => e ((hd k).2 ⟨h3, e3⟩)
    cases h3 : look (up pre) k with
    | none => exact e4 h3
    | some o => rw [hpre k o h3] at hk; cases hk.1
  have hnn : ∀ x : IV, nm k0 x = false → ¬ Names (fun k => look hp k = none ∧ look (up post ++ hp) k ≠ none) x := fun x hx hn => by
    rw [nm_names (hn.imp hnone)] at hx; cases hx
  refine ⟨ρ', v, rfl, h.step T hR ⟨fun k k' b cc cc' hk hk' => ?_, fun k b cc hk hb => ?_, fun b hb => Nat.lt_of_lt_of_le (h.rel.old b hb) t.size, fun k b cc hk => ?_, fun k o hk hρ => ?_⟩ (fun k e1 e2 => hnone k ⟨e1, e2⟩ ▸ hc0) fun _ x hx => hnn x (nmFr_get hfr0 hx), hv.conv hown2 (hconv2 r hr)⟩
  ·by_cases e : look (up post) k = none <;> by_cases e' : look (up post) k' = none
   ·rw [h2out k e] at hk; rw [h2out k' e'] at hk'; exact h.rel.inj _ _ _ _ _ hk hk'
   ·rw [h2out k e] at hk; rw [h2in k' e'] at hk'
    exact absurd (.inr ⟨k, cc, hk, ((hd k).1 e).1⟩) (hrel2.apart _ _ _ hk')
   ·rw [h2in k e] at hk; rw [h2out k' e'] at hk'
    exact absurd (.inr ⟨k', cc', hk', ((hd k').1 e').1⟩) (hrel2.apart _ _ _ hk)
   rw [h2in k e] at hk; rw [h2in k' e'] at hk'; exact hrel2.inj _ _ _ _ _ hk hk'
  ·by_cases e : look (up post) k = none
   ·rw [h2out k e] at hk; exact h.rel.apart _ _ _ hk hb
   rw [h2in k e] at hk; exact hrel2.apart _ _ _ hk (.inl hb)
  ·by_cases e : look (up post) k = none
   ·rw [h2out k e] at hk
    obtain ⟨o1, ho1, ho2⟩ := h.rel.obj k b cc hk
    refine ⟨o1, (hσout k e).trans ho1, ho2.keep T (t.blk b (h.rel.lt hk) fun k' cc' hk' => ?_) fun x ⟨cs, h3, h4⟩ => hnn x (by subst h3; exact nms_mem (nmHp_look hhp0 ho1) h4)⟩
    obtain ⟨hne, hk2⟩ := h1 _ _ hk'
    obtain rfl := h.rel.inj _ _ _ _ _ hk hk2
    exact absurd ((hd _).1 e).1 hne
   rw [h2in k e] at hk
   obtain ⟨o1, ho1, ho2⟩ := hrel2.obj k b cc hk
   refine ⟨o1, (hσin k e).trans ho1, ho2.conv hown2 fun x ⟨cs, h3, h4⟩ => hconv2 x ?_⟩
   subst h3
   exact onlys_mem (onlyHp_mem hpost (look_up_mem ho1)) h4
  by_cases e : look (up post) k = none
  ·rw [hσout k e] at hk; rw [h2out k e] at hρ; exact h.rel.real k o hk hρ
  rw [hσin k e] at hk; rw [h2in k e] at hρ; exact hrel2.real k o hk hρ
theorem ok_calln {k0 : Nat} {f : FuncId} {os : Array Operand} {tys : Array TypeId} {xs args : List IV} {pre post : List (Nat × HO)} {R : Nat → Prop} {r : IV} {hp : Hp} (hsc : SC P f args pre R r post) (hf : enters P f)
    (ho : o.op = .call { callee := .value (.func f), args := os, argTypes := tys }) (hx : evs fr os.toList = some xs) (hs : Subs (look hp) xs args) (hpre : ∀ k o, look (up pre) k = some o → look hp k = some o) (hdom : post.map (·.1) = k0 :: pre.map (·.1)) (hσ0 : look hp k0 = none) (hc0 : c.σ k0 = none) (hfr0 : nmFr k0 fr = false) (hhp0 : nmHp k0 hp = false)
    (hR : ∀ k, c.R k → look (up pre) k = none ∨ R k) (hr : only (post.map (·.1)) r = true) (hpost : onlyHp (post.map (·.1)) post = true) : Ok P c o fr (look hp) r (look (up post ++ hp)) := by
  intro ρ w a K Q h hK
  obtain ⟨fn, hfn, hname, hbody⟩ := hf
  have hargs := hs _ _ _ _ (evs_rep h hx)
  have hrun : (execOp a.eval o).run P w = .ok (.enter f (os.toList.map a.eval).toArray) w := by
    have hcall : (callFunc f (os.toList.map a.eval).toArray).run P w = .ok (.enter f (os.toList.map a.eval).toArray) w := by
      unfold callFunc
      simp only [Sem.run_bind]
      show (Result.andThen (.ok P w) _) = _
      simp only [Result.andThen_ok, hfn, hname, hbody]
      rfl
    simp only [execOp, ho, resolve, Act.eval, Deferred.ofValue, Sem.run_bind, Sem.run_pure, Result.andThen_ok, invoke]
    rw [← hcall]
    congr 2
    apply Array.ext'
    simp
  unfold Oper.wp
  rw [hrun, Oper.upon_enter]
  refine (hsc.step1 h hargs hpre hdom hσ0 hc0 hfr0 hhp0 hR hr hpost).mono ?_
  rintro e w' ⟨ρ', v, rfl, h1, h2⟩
  exact hK ρ' w' v h1 h2
theorem ok_cap_nil {t e : TypeId} {x : Operand} (ho : o.op = .call { callee := .builtin .cap, args := #[x], argTypes := #[t] }) (hx : fr.ev x = some (.pv (.val (.slice none 0 0)))) (hu : P.underlying t = some (.slice e)) : OkV P c R1 o fr σ (iInt 0) := by
  intro ρ w a h
  refine ⟨.int .i64 0, fun w2 _ => ?_, mkVal _⟩
  simp [execOp, ho, ev_val h hx, resolve, Sem.run_bind, invoke, builtin, Builtin.cap_, run_underlying hu, goInt]
theorem Sub.cons2 {fr' : Fr} {d : Nat} {x y : IV} (hx : ∀ F ρ w v, RepI F ρ σ w x v → RepI F ρ σ w y v) (h : Sub σ fr fr') : Sub σ ((d, x) :: fr) ((d, y) :: fr') := by
  intro t z hz
  simp only [Fr.get] at hz ⊢
  cases hb : Nat.beq d t with
  | true => rw [hb] at hz; cases hz; exact ⟨_, rfl, hx⟩
  | false => rw [hb] at hz; exact h t z hz
theorem Sub.rfl' : Sub σ fr fr := fun _ y hy => ⟨y, hy, fun _ _ _ _ h => h⟩
theorem All.freezeCell {ρ : Loc} {w : World} {a : Act} {k k2 j n : Nat} {s : RT} {els : List (List PV)} {cs : List IV} (h : All c ρ (look hp) w fr a) (hk : look hp k = some (.row s els)) (hn : els.length = n) (hk2 : look hp k2 = some (.box cs)) (hj : cs[j]? = some (.sl k n)) (hne : k ≠ k2) :
    All c (locUpd ρ k none) (look ((k2, some (.box (cs.set j (.pv (.seq els))))) :: (k, none) :: hp)) w fr a := by
  have h' := h.drop (k := k)
  have hown : ∀ b, owned c.F (locUpd ρ k none) b → owned c.F ρ b := fun b hb => by
    rcases hb with hb | ⟨i, cc, hi⟩
    ·exact .inl hb
    by_cases e : i = k
    ·subst e; rw [locUpd_same] at hi; cases hi
    rw [locUpd_ne (Ne.symm e)] at hi; exact .inr ⟨i, cc, hi⟩
  have hlk : ∀ i, i ≠ k2 → look ((k2, some (.box (cs.set j (.pv (.seq els))))) :: (k, none) :: hp) i = look ((k, none) :: hp) i := fun i hi => look_ne (Ne.symm hi)
  have hlk2 : look ((k2, some (.box (cs.set j (.pv (.seq els))))) :: (k, none) :: hp) k2 = some (.box (cs.set j (.pv (.seq els)))) := look_hd
  have hk2' : look ((k, none) :: hp) k2 = some (.box cs) := look_tl hne hk2
  have hnew : ∀ v, RepI c.F ρ (look hp) w (.sl k n) v → RepP (owned c.F (locUpd ρ k none)) w (.seq els) v := by
    intro v hv
    cases hv with
    | sl _ _ _ hv =>
      obtain ⟨_, h2⟩ := hv s els hk
      rcases h2 hn with ⟨b, cc, hρ, rfl⟩ | ⟨_, hz, rfl⟩
      ·obtain ⟨o1, h3, h4⟩ := h.rel.obj k b cc hρ
       rw [hk] at h3; cases h3
       cases h4 with
       | row _ _ r u h3 hs hl hm hwe hcells hu =>
         rw [← hn]
         refine .seq els _ cc b 0 u (fun _ => rfl) (fun _ => ⟨fun ho => ?_, h.rel.lt hρ⟩) (by omega) hm (fun i el hi q x hq => ?_) fun i el hi q x hq => (hu i el hi q x hq).own hown
         ·rcases ho with ho | ⟨i, cc', hi⟩
          ·exact h.rel.apart _ _ _ hρ ho
          by_cases e : i = k
          ·subst e; rw [locUpd_same] at hi; cases hi
          rw [locUpd_ne (Ne.symm e)] at hi; exact e (h.rel.inj _ _ _ _ _ hi hρ)
         rw [cell_at h3, Nat.zero_add, hwe el (List.mem_of_getElem? hi)]
         exact hcells i el hi q x hq
      have hnil : els = [] := List.eq_nil_of_length_eq_zero (by omega)
      subst hnil
      exact .seq [] none 0 0 0 (fun _ _ => undef) (by simp) (by simp) (by simp) (by simp [maxLen]) (by simp) (by simp)
  have hconv : ∀ x v, RepI c.F (locUpd ρ k none) (look ((k, none) :: hp)) w x v → RepI c.F (locUpd ρ k none) (look ((k2, some (.box (cs.set j (.pv (.seq els))))) :: (k, none) :: hp)) w x v := by
    intro x v hx
    induction hx with
    | pv p v hp => exact .pv p v hp
    | ptr i off v hi =>
      refine .ptr i off v fun cs' h2 => ?_
      by_cases e : i = k2
      ·subst e; exact hi _ hk2'
      rw [hlk i e] at h2; exact hi _ h2
    | sl i len v hi =>
      refine .sl i len v fun s' els' h2 => ?_
      by_cases e : i = k2
      ·subst e; rw [hlk2] at h2; cases h2
      rw [hlk i e] at h2; exact hi _ _ h2
    | rpt i len off v hi =>
      refine .rpt i len off v fun s' els' h2 => ?_
      by_cases e : i = k2
      ·subst e; rw [hlk2] at h2; cases h2
      rw [hlk i e] at h2; exact hi _ _ h2
    | bs i n v hi =>
      refine .bs i n v fun cs' h2 => ?_
      by_cases e : i = k2
      ·subst e; exact hi _ hk2'
      rw [hlk i e] at h2; exact hi _ h2
    | mp i v hi =>
      refine .mp i v fun es h2 => ?_
      by_cases e : i = k2
      ·subst e; rw [hlk2] at h2; cases h2
      rw [hlk i e] at h2; exact hi _ h2
    | tnil i T v hi =>
      refine .tnil i T v fun cs' h2 => ?_
      by_cases e : i = k2
      ·subst e; exact hi _ hk2'
      rw [hlk i e] at h2; exact hi _ h2
    | agg cs vs u hl hv _ ih => exact .agg cs vs u hl hv ih
    | tup cs vs u hl hv _ ih => exact .tup cs vs u hl hv ih
    | fn f xs ys vs ws u t hl hv _ hl' hv' _ ih ih' => exact .fn f xs ys vs ws u t hl hv ih hl' hv' ih'
  refine ⟨⟨h'.rel.inj, h'.rel.apart, h'.rel.old, fun i b cc hi => ?_, fun i o h1 h2 => ?_⟩, fun t x hx => ?_, ?_, h'.df, h'.sz, h.kk⟩
  ·obtain ⟨o1, h1, h2⟩ := h'.rel.obj i b cc hi
   by_cases e : i = k2
   ·subst e
    rw [hk2'] at h1; cases h1
    refine ⟨_, hlk2, ?_⟩
    have hρi : ρ i = some (b, cc) := by rwa [locUpd_ne hne] at hi
    obtain ⟨o3, h3, h4⟩ := h.rel.obj i b cc hρi
    rw [hk2] at h3; cases h3
    cases h2 with
    | box _ e' r u h5 hl hv hr =>
      cases h4 with
      | box _ e2 r2 u2 h6 hl2 hv2 hr2 =>
        rw [h5] at h6; cases h6
        refine .box _ e' r u h5 (by simpa using hl) (fun q x hq => ?_) fun q x hq => ?_
        ·by_cases eq : q = j
         ·subst eq
          exact hv q _ hj
         rw [List.getElem?_set_ne (Ne.symm eq)] at hq; exact hv q x hq
        by_cases eq : q = j
        ·subst eq
         have hlt : q < cs.length := (List.getElem?_eq_some_iff.1 hj).1
         rw [List.getElem?_set_self hlt] at hq; cases hq
         have e3 : u q = u2 q := by
           have a1 := hv q _ hj; have a2 := hv2 q _ hj
           rw [a1] at a2; exact Option.some.inj a2
         rw [e3]
         exact .pv _ _ (hnew _ (hr2 q _ hj))
        rw [List.getElem?_set_ne (Ne.symm eq)] at hq; exact hconv _ _ (hr q x hq)
   refine ⟨o1, (hlk i e).trans h1, ?_⟩
   cases h2 with
   | box cs' e' r u h hl hv hr => exact .box cs' e' r u h hl hv fun q x hq => hconv _ _ (hr q x hq)
   | row s' els' r u h hs hl hm hw hv hr => exact .row s' els' r u h hs hl hm hw hv hr
   | map es r t u h hl hv hr => exact .map es r t u h hl hv hr
  ·by_cases e : i = k2
   ·subst e
    rw [locUpd_ne hne] at h2
    obtain ⟨s', h3⟩ := h.rel.real i _ hk2 h2
    cases h3
   rw [hlk i e] at h1; exact h'.rel.real i o h1 h2
  ·obtain ⟨v, hv, hr⟩ := h'.fr t x hx
   exact ⟨v, hv, hconv _ _ hr⟩
  have t := h'.tr
  refine ⟨t.os, t.tape, t.output, t.size, t.blk, t.own, fun i a1 a2 e1 e2 => ?_, fun i a1 a2 e1 e2 => ?_, fun i s1 s2 a1 a2 e1 e2 hl => ?_, fun i s1 s2 a1 a2 e1 e2 => ?_, fun i a2 e2 => ?_, fun i a2 e2 => ?_, fun i s1 a2 e2 => ?_⟩
  all_goals by_cases e : i = k2
  ·subst e; exact t.box i _ _ e1 hk2'
  ·rw [hlk i e] at e2; exact t.box i _ _ e1 e2
  ·subst e; rw [hlk2] at e2; cases e2
  ·rw [hlk i e] at e2; exact t.map i _ _ e1 e2
  ·subst e; rw [hlk2] at e2; cases e2
  ·rw [hlk i e] at e2; exact t.row i _ _ _ _ e1 e2 hl
  ·subst e; rw [hlk2] at e2; cases e2
  ·rw [hlk i e] at e2; exact t.grow i _ _ _ _ e1 e2
  ·subst e; exact t.kindB i _ hk2'
  ·rw [hlk i e] at e2; exact t.kindB i _ e2
  ·subst e; rw [hlk2] at e2; cases e2
  ·rw [hlk i e] at e2; exact t.kindM i _ e2
  ·subst e; rw [hlk2] at e2; cases e2
  rw [hlk i e] at e2; exact t.kindR i _ _ e2
theorem Tr.freezeCell {x : Code} {k k2 j n : Nat} {s : RT} {els : List (List PV)} {cs : List IV} (hk : look hp k = some (.row s els)) (hn : els.length = n) (hk2 : look hp k2 = some (.box cs)) (hj : cs[j]? = some (.sl k n)) (hne : k ≠ k2)
    (h : Tr P c x fr (look ((k2, some (.box (cs.set j (.pv (.seq els))))) :: (k, none) :: hp)) Q) : Tr P c x fr (look hp) Q := fun _ w a ha => h _ w a (ha.freezeCell hk hn hk2 hj hne)
theorem SC.sameR {f : FuncId} {args : List IV} {pre post : List (Nat × HO)} {R R' : Nat → Prop} {r : IV} (h : SC P f args pre R r post) (hR : ∀ k, look (up pre) k ≠ none → R' k → R k) : SC P f args pre R' r post := by
  intro F ρ w vs hkept hrel hargs
  refine (h F ρ w vs hkept hrel hargs).mono ?_
  rintro e w' ⟨ρ', v, he, hv, hrel', t⟩
  refine ⟨ρ', v, he, hv, hrel', { t with blk := fun b hb hall => t.blk b hb fun k cc hk => hR k ?_ (hall k cc hk) }⟩
  obtain ⟨o, ho, _⟩ := hrel.obj k b cc hk
  rw [ho]; simp
theorem Tr.growCell {x : Code} {k k2 j : Nat} {cs : List IV} (s : RT) (hk2 : look hp k2 = some (.box cs)) (hj : cs[j]? = some (.pv (.val (.slice none 0 0)))) (hσ : look hp k = none) (hc : c.σ k = none) (hfr : nmFr k fr = false) (hhp : nmHp k hp = false)
    (h : Tr P c x fr (look ((k2, some (.box (cs.set j (.sl k 0)))) :: (k, some (.row s [])) :: hp)) Q) : Tr P c x fr (look hp) Q := by
  intro ρ w a ha
  obtain ⟨hk, h'⟩ := ha.ghost hσ hc hfr hhp s
  refine h ρ w a ?_
  have hne : k ≠ k2 := fun e => by subst e; rw [hσ] at hk2; cases hk2
  have hk2' : look ((k, some (.row s [])) :: hp) k2 = some (.box cs) := look_tl hne hk2
  have hlk : ∀ i, i ≠ k2 → look ((k2, some (.box (cs.set j (.sl k 0)))) :: (k, some (.row s [])) :: hp) i = look ((k, some (.row s [])) :: hp) i := fun i hi => look_ne (Ne.symm hi)
  have hlk2 : look ((k2, some (.box (cs.set j (.sl k 0)))) :: (k, some (.row s [])) :: hp) k2 = some (.box (cs.set j (.sl k 0))) := look_hd
  have hconv : ∀ x v, RepI c.F ρ (look ((k, some (.row s [])) :: hp)) w x v → RepI c.F ρ (look ((k2, some (.box (cs.set j (.sl k 0)))) :: (k, some (.row s [])) :: hp)) w x v := by
    intro x v hx
    induction hx with
    | pv p v hp => exact .pv p v hp
    | ptr i off v hi =>
      refine .ptr i off v fun cs' h2 => ?_
      by_cases e : i = k2
      ·subst e; exact hi _ hk2'
      rw [hlk i e] at h2; exact hi _ h2
    | sl i len v hi =>
      refine .sl i len v fun s' els' h2 => ?_
      by_cases e : i = k2
      ·subst e; rw [hlk2] at h2; cases h2
      rw [hlk i e] at h2; exact hi _ _ h2
    | rpt i len off v hi =>
      refine .rpt i len off v fun s' els' h2 => ?_
      by_cases e : i = k2
      ·subst e; rw [hlk2] at h2; cases h2
      rw [hlk i e] at h2; exact hi _ _ h2
    | bs i n v hi =>
      refine .bs i n v fun cs' h2 => ?_
      by_cases e : i = k2
      ·subst e; exact hi _ hk2'
      rw [hlk i e] at h2; exact hi _ h2
    | mp i v hi =>
      refine .mp i v fun es h2 => ?_
      by_cases e : i = k2
      ·subst e; rw [hlk2] at h2; cases h2
      rw [hlk i e] at h2; exact hi _ h2
    | tnil i T v hi =>
      refine .tnil i T v fun cs' h2 => ?_
      by_cases e : i = k2
      ·subst e; exact hi _ hk2'
      rw [hlk i e] at h2; exact hi _ h2
    | agg cs vs u hl hv _ ih => exact .agg cs vs u hl hv ih
    | tup cs vs u hl hv _ ih => exact .tup cs vs u hl hv ih
    | fn f xs ys vs ws u t hl hv _ hl' hv' _ ih ih' => exact .fn f xs ys vs ws u t hl hv ih hl' hv' ih'
  refine ⟨⟨h'.rel.inj, h'.rel.apart, h'.rel.old, fun i b cc hi => ?_, fun i o h1 h2 => ?_⟩, fun t x hx => ?_, ?_, h'.df, h'.sz, h'.kk⟩
  ·obtain ⟨o1, h1, h2⟩ := h'.rel.obj i b cc hi
   by_cases e : i = k2
   ·subst e
    rw [hk2'] at h1; cases h1
    refine ⟨_, hlk2, ?_⟩
    cases h2 with
    | box _ e' r u h5 hl hv hr =>
      refine .box _ e' r u h5 (by simpa using hl) (fun q x hq => ?_) fun q x hq => ?_
      ·by_cases eq : q = j
       ·subst eq; exact hv q _ hj
       rw [List.getElem?_set_ne (Ne.symm eq)] at hq; exact hv q x hq
      by_cases eq : q = j
      ·subst eq
       have hlt : q < cs.length := (List.getElem?_eq_some_iff.1 hj).1
       rw [List.getElem?_set_self hlt] at hq; cases hq
       have hnil := (hr q _ hj).val
       rw [hnil]
       refine .sl _ _ _ fun s1 els1 h1 => ?_
       rw [hlk _ hne, look_hd] at h1
       cases h1
       exact ⟨Nat.zero_le _, fun _ => .inr ⟨hk, rfl, rfl⟩⟩
      rw [List.getElem?_set_ne (Ne.symm eq)] at hq; exact hconv _ _ (hr q x hq)
   refine ⟨o1, (hlk i e).trans h1, ?_⟩
   cases h2 with
   | box cs' e' r u h hl hv hr => exact .box cs' e' r u h hl hv fun q x hq => hconv _ _ (hr q x hq)
   | row s' els' r u h hs hl hm hw hv hr => exact .row s' els' r u h hs hl hm hw hv hr
   | map es r t u h hl hv hr => exact .map es r t u h hl hv hr
  ·by_cases e : i = k2
   ·subst e
    obtain ⟨s', h3⟩ := h'.rel.real i _ hk2' h2
    cases h3
   rw [hlk i e] at h1; exact h'.rel.real i o h1 h2
  ·obtain ⟨v, hv, hr⟩ := h'.fr t x hx
   exact ⟨v, hv, hconv _ _ hr⟩
  have t := h'.tr
  refine ⟨t.os, t.tape, t.output, t.size, t.blk, t.own, fun i a1 a2 e1 e2 => ?_, fun i a1 a2 e1 e2 => ?_, fun i s1 s2 a1 a2 e1 e2 hl => ?_, fun i s1 s2 a1 a2 e1 e2 => ?_, fun i a2 e2 => ?_, fun i a2 e2 => ?_, fun i s1 a2 e2 => ?_⟩
  all_goals by_cases e : i = k2
  ·subst e; exact t.box i _ _ e1 hk2'
  ·rw [hlk i e] at e2; exact t.box i _ _ e1 e2
  ·subst e; rw [hlk2] at e2; cases e2
  ·rw [hlk i e] at e2; exact t.map i _ _ e1 e2
  ·subst e; rw [hlk2] at e2; cases e2
  ·rw [hlk i e] at e2; exact t.row i _ _ _ _ e1 e2 hl
  ·subst e; rw [hlk2] at e2; cases e2
  ·rw [hlk i e] at e2; exact t.grow i _ _ _ _ e1 e2
  ·subst e; exact t.kindB i _ hk2'
  ·rw [hlk i e] at e2; exact t.kindB i _ e2
  ·subst e; rw [hlk2] at e2; cases e2
  ·rw [hlk i e] at e2; exact t.kindM i _ e2
  ·subst e; rw [hlk2] at e2; cases e2
  rw [hlk i e] at e2; exact t.kindR i _ _ e2
end
section
variable {P : Program} {c : Cx} {fr : Fr} {hp : Hp} {Q : Exit → Fr → Heap' → Prop}
def ISub (x y : IV) : Prop := ∀ F ρ σ w v, RepI F ρ σ w x v → RepI F ρ σ w y v
theorem ISub.refl (x : IV) : ISub x x := fun _ _ _ _ _ h => h
theorem ISub.pv {p q : PV} (h : PSub p q) : ISub (.pv p) (.pv q) := fun _ _ _ _ _ hv => sub_pv h hv
def ISubs : List IV → List IV → Prop
  | [], [] => True
  | x :: xs, y :: ys => ISub x y ∧ ISubs xs ys
  | _, _ => False
theorem ISubs.length : ∀ {xs ys : List IV}, ISubs xs ys → xs.length = ys.length
  | [], [], _ => rfl
  | _ :: _, _ :: _, h => congrArg (· + 1) (ISubs.length h.2)
theorem ISubs.at : ∀ {xs ys : List IV}, ISubs xs ys → ∀ {j : Nat} {y : IV}, ys[j]? = some y → ∃ x, xs[j]? = some x ∧ ISub x y
  | [], [], _, _, _, hj => by simp at hj
  | x :: xs, y :: ys, h, 0, y', hj => by simp at hj; subst hj; exact ⟨x, rfl, h.1⟩
  | x :: xs, y :: ys, h, j + 1, y', hj => by simpa using ISubs.at h.2 (by simpa using hj)
theorem All.subBox {ρ : Loc} {w : World} {a : Act} {k : Nat} {cs cs' : List IV} (h : All c ρ (look hp) w fr a) (hk : look hp k = some (.box cs)) (hs : ISubs cs cs') (hR : ¬ c.R k) : All c ρ (look ((k, some (.box cs')) :: hp)) w fr a := by
  cases hρ : ρ k with
  | none => obtain ⟨s, hs⟩ := h.rel.real k _ hk hρ; cases hs
  | some bc =>
    obtain ⟨b, cc⟩ := bc
    obtain ⟨o, ho, hro⟩ := h.rel.obj k b cc hρ
    rw [hk] at ho; cases ho
    refine h.write hρ hk trivial hR rfl rfl rfl rfl (fun _ _ => rfl) fun hI _ => ?_
    cases hro with
    | box _ e a' u h1 h2 h3 h4 =>
      refine .box _ e a' u h1 (hs.length ▸ h2) (fun j x hj => ?_) fun j x hj => ?_
      ·obtain ⟨x0, h5, _⟩ := hs.at hj
       exact h3 j x0 h5
      obtain ⟨x0, h5, h6⟩ := hs.at hj
      exact h6 _ _ _ _ _ (hI _ _ (h4 j x0 h5))
theorem Tr.subBox {x : Code} {k : Nat} {cs : List IV} (cs' : List IV) (hk : look hp k = some (.box cs)) (hs : ISubs cs cs') (hR : ¬ c.R k) (h : Tr P c x fr (look ((k, some (.box cs')) :: hp)) Q) : Tr P c x fr (look hp) Q :=
  fun _ w a ha => h _ w a (ha.subBox hk hs hR)
theorem ok_max {R1 : Nat → Prop} {o : Oper} {σ : Heap'} {t : TypeId} {x y : Operand} {k : IntKind} {m n : Int} (ho : o.op = .call { callee := .builtin .max, args := #[x, y], argTypes := #[t, t] }) (hx : fr.ev x = some (.pv (.val (.int k m)))) (hy : fr.ev y = some (.pv (.val (.int k n)))) :
    OkV P c R1 o fr σ (.pv (.val (.int k (if m < n then n else m)))) := by
  intro ρ w a h
  refine ⟨.int k (if m < n then n else m), fun w2 _ => ?_, mkVal _⟩
  simp [execOp, ho, ev_val h hx, ev_val h hy, resolve, invoke, builtin, Builtin.max_, Builtin.max2]
end
section
def sw (a b k : Nat) : Nat := bif Nat.beq k a then b else bif Nat.beq k b then a else k
theorem sw_sw (a b k : Nat) : sw a b (sw a b k) = k := by
  unfold sw
  by_cases h1 : k = a
  ·subst h1
   have e1 : Nat.beq k k = true := Nat.beq_refl k
   simp only [e1, cond_true]
   by_cases h2 : b = k
   ·subst h2; simp
   have e2 : Nat.beq b k = false := beq_ne h2
   have e3 : Nat.beq b b = true := Nat.beq_refl b
   simp [e2, e3]
  have e1 : Nat.beq k a = false := beq_ne h1
  simp only [e1, cond_false]
  by_cases h2 : k = b
  ·subst h2
   simp
  have e2 : Nat.beq k b = false := beq_ne h2
  simp [e1, e2]
mutual
def IV.ren (p : Nat → Nat) : IV → IV
  | .pv x => .pv x
  | .ptr k off => .ptr (p k) off
  | .sl k len => .sl (p k) len
  | .rpt k len off => .rpt (p k) len off
  | .bs k n => .bs (p k) n
  | .mp k => .mp (p k)
  | .tnil k T => .tnil (p k) T
  | .agg cs => .agg (renL p cs)
  | .tup cs => .tup (renL p cs)
  | .fn f xs ys => .fn f (renL p xs) (renL p ys)
def renL (p : Nat → Nat) : List IV → List IV
  | [] => []
  | x :: r => x.ren p :: renL p r
end
theorem renL_map (p : Nat → Nat) : ∀ xs : List IV, renL p xs = xs.map (IV.ren p)
  | [] => rfl
  | x :: r => by simp [renL, renL_map p r]
theorem renL_get {p : Nat → Nat} {xs : List IV} {j : Nat} {c : IV} (h : (renL p xs)[j]? = some c) : ∃ x, xs[j]? = some x ∧ c = x.ren p := by
  rw [renL_map, List.getElem?_map, Option.map_eq_some_iff] at h
  obtain ⟨x, h1, rfl⟩ := h
  exact ⟨x, h1, rfl⟩
theorem renL_len (p : Nat → Nat) (xs : List IV) : (renL p xs).length = xs.length := by rw [renL_map, List.length_map]
def HO.ren (p : Nat → Nat) : HO → HO
  | .box cs => .box (renL p cs)
  | .row s els => .row s els
  | .map es => .map es
def renP (p : Nat → Nat) (l : List (Nat × HO)) : List (Nat × HO) := l.map fun x => (p x.1, x.2.ren p)
section
variable {p : Nat → Nat} (hp : ∀ k, p (p k) = k) {F : Nat → Prop} {ρ : Loc} {σ σ' : Heap'} {w : World}
include hp
theorem owned_ren {b : Nat} : owned F (fun k => ρ (p k)) b ↔ owned F ρ b := by
  constructor
  ·rintro (h | ⟨k, c, h⟩)
   ·exact .inl h
   exact .inr ⟨p k, c, h⟩
  rintro (h | ⟨k, c, h⟩)
  ·exact .inl h
  exact .inr ⟨p k, c, by show ρ (p (p k)) = _; rw [hp]; exact h⟩
theorem repI_ren (hσ : ∀ k, σ' (p k) = (σ k).map (HO.ren p)) {x : IV} {v : Value} (h : RepI F ρ σ w x v) : RepI F (fun k => ρ (p k)) σ' w (x.ren p) v := by
  induction h with
  | pv q v h => exact .pv q v (h.own fun b hb => (owned_ren hp).1 hb)
  | ptr k off v h =>
    refine .ptr _ off v fun cs' h' => ?_
    rw [hσ, Option.map_eq_some_iff] at h'
    obtain ⟨o, h1, h2⟩ := h'
    cases o with
    | box cs => obtain ⟨b, c, h3, h4⟩ := h cs h1; exact ⟨b, c, by rw [hp]; exact h3, h4⟩
    | row => cases h2
    | map => cases h2
  | sl k len v h =>
    refine .sl _ len v fun s els h' => ?_
    rw [hσ, Option.map_eq_some_iff] at h'
    obtain ⟨o, h1, h2⟩ := h'
    cases o with
    | row s' els' => cases h2; rw [hp]; exact h _ _ h1
    | box => cases h2
    | map => cases h2
  | rpt k len off v h =>
    refine .rpt _ len off v fun s els h' => ?_
    rw [hσ, Option.map_eq_some_iff] at h'
    obtain ⟨o, h1, h2⟩ := h'
    cases o with
    | row s' els' => cases h2; rw [hp]; exact h _ _ h1
    | box => cases h2
    | map => cases h2
  | bs k n v h =>
    refine .bs _ n v fun cs' h' => ?_
    rw [hσ, Option.map_eq_some_iff] at h'
    obtain ⟨o, h1, h2⟩ := h'
    cases o with
    | box cs => obtain ⟨b, c, h3, h4⟩ := h cs h1; exact ⟨b, c, by rw [hp]; exact h3, h4⟩
    | row => cases h2
    | map => cases h2
  | tnil k T v h =>
    refine .tnil _ T v fun cs' h' => ?_
    rw [hσ, Option.map_eq_some_iff] at h'
    obtain ⟨o, h1, h2⟩ := h'
    cases o with
    | box cs => obtain ⟨b, h3, h4⟩ := h cs h1; exact ⟨b, by rw [hp]; exact h3, h4⟩
    | row => cases h2
    | map => cases h2
  | mp k v h =>
    refine .mp _ v fun es h' => ?_
    rw [hσ, Option.map_eq_some_iff] at h'
    obtain ⟨o, h1, h2⟩ := h'
    cases o with
    | map es' => cases h2; rw [hp]; exact h _ h1
    | row => cases h2
    | box => cases h2
  | agg cs vs u hl hv _ ih =>
    refine .agg _ vs u (by rw [renL_len]; exact hl) (fun j c hj => ?_) fun j c hj => ?_
    ·obtain ⟨x, h1, rfl⟩ := renL_get hj; exact hv j x h1
    obtain ⟨x, h1, rfl⟩ := renL_get hj; exact ih j x h1
  | tup cs vs u hl hv _ ih =>
    refine .tup _ vs u (by rw [renL_len]; exact hl) (fun j c hj => ?_) fun j c hj => ?_
    ·obtain ⟨x, h1, rfl⟩ := renL_get hj; exact hv j x h1
    obtain ⟨x, h1, rfl⟩ := renL_get hj; exact ih j x h1
  | fn f xs ys vs ws u t hl hv _ hl' hv' _ ih ih' =>
    refine .fn f _ _ vs ws u t (by rw [renL_len]; exact hl) (fun j c hj => ?_) (fun j c hj => ?_) (by rw [renL_len]; exact hl') (fun j c hj => ?_) fun j c hj => ?_
    ·obtain ⟨x, h1, rfl⟩ := renL_get hj; exact hv j x h1
    ·obtain ⟨x, h1, rfl⟩ := renL_get hj; exact ih j x h1
    ·obtain ⟨x, h1, rfl⟩ := renL_get hj; exact hv' j x h1
    obtain ⟨x, h1, rfl⟩ := renL_get hj; exact ih' j x h1
mutual
theorem ren_ren : ∀ x : IV, (x.ren p).ren p = x
  | .pv _ => rfl
  | .ptr k off => by simp only [IV.ren, hp]
  | .sl k len => by simp only [IV.ren, hp]
  | .rpt k len off => by simp only [IV.ren, hp]
  | .bs k n => by simp only [IV.ren, hp]
  | .mp k => by simp only [IV.ren, hp]
  | .tnil k T => by simp only [IV.ren, hp]
  | .agg cs => by simp only [IV.ren, renL_renL cs]
  | .tup cs => by simp only [IV.ren, renL_renL cs]
  | .fn f xs ys => by simp only [IV.ren, renL_renL xs, renL_renL ys]
theorem renL_renL : ∀ xs : List IV, renL p (renL p xs) = xs
  | [] => rfl
  | x :: r => by simp only [renL, ren_ren x, renL_renL r]
end
theorem HO.ren_ren (o : HO) : (o.ren p).ren p = o := by cases o <;> simp [HO.ren, renL_renL hp]
theorem repO_ren (hσ : ∀ k, σ' (p k) = (σ k).map (HO.ren p)) {b c : Nat} {o : HO} (h : RepO F ρ σ w b c o) : RepO F (fun k => ρ (p k)) σ' w b c (o.ren p) := by
  cases h with
  | box cs e a u h1 h2 h3 h4 =>
    refine .box _ e a u h1 (by rw [renL_len]; exact h2) (fun j x hj => ?_) fun j x hj => ?_
    ·obtain ⟨y, h5, rfl⟩ := renL_get hj; exact h3 j y h5
    obtain ⟨y, h5, rfl⟩ := renL_get hj; exact repI_ren hp hσ (h4 j y h5)
  | row s els a u h1 h2 h3 h4 h5 h6 h7 => exact .row s els a u h1 h2 h3 h4 h5 h6 fun i el hi j x hj => (h7 i el hi j x hj).own fun b hb => (owned_ren hp).1 hb
  | map es a t u h1 h2 h3 h4 => exact .map es a t u h1 h2 h3 fun i k q hi => (h4 i k q hi).own fun b hb => (owned_ren hp).1 hb
theorem relH_ren (hσ : ∀ k, σ' (p k) = (σ k).map (HO.ren p)) (h : RelH F ρ σ w) : RelH F (fun k => ρ (p k)) σ' w where
  inj k k' b c c' h1 h2 := by
    have := h.inj _ _ _ _ _ h1 h2
    rw [← hp k, this, hp]
  apart k b c h1 := h.apart _ _ _ h1
  old := h.old
  obj k b c h1 := by
    obtain ⟨o, h2, h3⟩ := h.obj _ _ _ h1
    refine ⟨o.ren p, ?_, repO_ren hp hσ h3⟩
    have := hσ (p k)
    rw [hp, h2] at this
    exact this
  real k o h1 h2 := by
    have h3 := hσ (p k)
    rw [hp, h1] at h3
    obtain ⟨o', h4, h5⟩ := Option.map_eq_some_iff.1 h3.symm
    obtain ⟨s, rfl⟩ := h.real _ _ h4 h2
    exact ⟨s, h5.symm⟩
end
theorem trans_ren {p : Nat → Nat} (hp : ∀ k, p (p k) = k) {F R : Nat → Prop} {ρ ρ1 : Loc} {σ σ1 τ τ1 : Heap'} {w w' : World} (hσ : ∀ k, τ (p k) = (σ k).map (HO.ren p)) (hσ1 : ∀ k, τ1 (p k) = (σ1 k).map (HO.ren p)) (t : Trans F R ρ σ w ρ1 σ1 w') :
    Trans F (fun k => R (p k)) (fun k => ρ (p k)) τ w (fun k => ρ1 (p k)) τ1 w' where
  os := t.os
  tape := t.tape
  output := t.output
  size := t.size
  blk b hb h := t.blk b hb fun k c hk => by
    have := h (p k) c (by rw [hp]; exact hk)
    rwa [hp] at this
  own k b c h hb := t.own _ b c h hb
  box k cs cs' h h' := by
    have e := hσ (p k); have e' := hσ1 (p k)
    rw [hp, h] at e; rw [hp, h'] at e'
    obtain ⟨o, h1, h2⟩ := Option.map_eq_some_iff.1 e.symm
    obtain ⟨o', h3, h4⟩ := Option.map_eq_some_iff.1 e'.symm
    cases o with
    | box cs0 => cases o' with
      | box cs1 => exact t.box _ _ _ h1 h3
      | row => cases h4
      | map => cases h4
    | row => cases h2
    | map => cases h2
  map k cs cs' h h' := by
    have e := hσ (p k); have e' := hσ1 (p k)
    rw [hp, h] at e; rw [hp, h'] at e'
    obtain ⟨o, h1, h2⟩ := Option.map_eq_some_iff.1 e.symm
    obtain ⟨o', h3, h4⟩ := Option.map_eq_some_iff.1 e'.symm
    cases o with
    | map cs0 => cases o' with
      | map cs1 => exact t.map _ _ _ h1 h3
      | row => cases h4
      | box => cases h4
    | row => cases h2
    | box => cases h2
  row k s s' els els' h h' hl := by
    have e := hσ (p k); have e' := hσ1 (p k)
    rw [hp, h] at e; rw [hp, h'] at e'
    obtain ⟨o, h1, h2⟩ := Option.map_eq_some_iff.1 e.symm
    obtain ⟨o', h3, h4⟩ := Option.map_eq_some_iff.1 e'.symm
    cases o with
    | row s0 cs0 => cases o' with
      | row s1 cs1 => cases h2; cases h4; exact t.row _ _ _ _ _ h1 h3 hl
      | map => cases h4
      | box => cases h4
    | map => cases h2
    | box => cases h2
  grow k s s' els els' h h' := by
    have e := hσ (p k); have e' := hσ1 (p k)
    rw [hp, h] at e; rw [hp, h'] at e'
    obtain ⟨o, h1, h2⟩ := Option.map_eq_some_iff.1 e.symm
    obtain ⟨o', h3, h4⟩ := Option.map_eq_some_iff.1 e'.symm
    cases o with
    | row s0 cs0 => cases o' with
      | row s1 cs1 => cases h2; cases h4; exact t.grow _ _ _ _ _ h1 h3
      | map => cases h4
      | box => cases h4
    | map => cases h2
    | box => cases h2
  kindB k cs' h' := by
    have e' := hσ1 (p k); have e := hσ (p k)
    rw [hp, h'] at e'; rw [hp] at e
    obtain ⟨o', h3, h4⟩ := Option.map_eq_some_iff.1 e'.symm
    cases o' with
    | box cs1 =>
      rcases t.kindB _ _ h3 with h5 | ⟨cs, h5⟩
      ·rw [h5] at e; exact .inl e
      rw [h5] at e; exact .inr ⟨_, e⟩
    | row => cases h4
    | map => cases h4
  kindM k cs' h' := by
    have e' := hσ1 (p k); have e := hσ (p k)
    rw [hp, h'] at e'; rw [hp] at e
    obtain ⟨o', h3, h4⟩ := Option.map_eq_some_iff.1 e'.symm
    cases o' with
    | map cs1 =>
      rcases t.kindM _ _ h3 with h5 | ⟨cs, h5⟩
      ·rw [h5] at e; exact .inl e
      rw [h5] at e; exact .inr ⟨_, e⟩
    | row => cases h4
    | box => cases h4
  kindR k s cs' h' := by
    have e' := hσ1 (p k); have e := hσ (p k)
    rw [hp, h'] at e'; rw [hp] at e
    obtain ⟨o', h3, h4⟩ := Option.map_eq_some_iff.1 e'.symm
    cases o' with
    | row s1 cs1 =>
      cases h4
      rcases t.kindR _ _ _ h3 with h5 | ⟨cs, h5⟩
      ·rw [h5] at e; exact .inl e
      rw [h5] at e; exact .inr ⟨_, e⟩
    | map => cases h4
    | box => cases h4
theorem beq_ren {p : Nat → Nat} (hp : ∀ k, p (p k) = k) (a k : Nat) : Nat.beq (p a) (p k) = Nat.beq a k := by
  by_cases h : a = k
  ·subst h; simp
  rw [beq_ne h, beq_ne fun e => h (by rw [← hp a, e, hp])]
theorem look_ren {p : Nat → Nat} (hp : ∀ k, p (p k) = k) : ∀ (l : List (Nat × HO)) (k : Nat), look (up (renP p l)) (p k) = (look (up l) k).map (HO.ren p)
  | [], _ => rfl
  | (a, o) :: r, k => by
    simp only [renP, up, List.map_cons, look]
    rw [beq_ren hp]
    cases Nat.beq a k with
    | true => rfl
    | false => exact look_ren hp r k
theorem SC.ren {P : Program} {p : Nat → Nat} (hp : ∀ k, p (p k) = k) {f : FuncId} {args : List IV} {pre post : List (Nat × HO)} {R : Nat → Prop} {r : IV} (h : SC P f args pre R r post) : SC P f (renL p args) (renP p pre) (fun k => R (p k)) (r.ren p) (renP p post) := by
  intro F ρ w vs hkept hrel hargs
  have hb : ∀ (l : List (Nat × HO)) (k : Nat), look (up l) (p k) = (look (up (renP p l)) k).map (HO.ren p) := by
    intro l k
    have := look_ren hp l (p k)
    rw [hp] at this
    rw [this]
    cases look (up l) (p k) with
    | none => rfl
    | some o => exact congrArg some (HO.ren_ren hp o).symm
  have h1 : RelH F (fun k => ρ (p k)) (look (up pre)) w := relH_ren hp (hb pre) hrel
  have h2 : RepL F (fun k => ρ (p k)) (look (up pre)) w args vs := by
    refine ⟨by rw [← hargs.1, renL_len], fun j x hj => ?_⟩
    obtain ⟨v, h3, h4⟩ := hargs.2 j (x.ren p) (by rw [renL_map, List.getElem?_map, hj]; rfl)
    have h5 := repI_ren hp (hb pre) h4
    rw [ren_ren hp] at h5
    exact ⟨v, h3, h5⟩
  refine Calls.mono (h F _ w vs (hkept.mono fun b hb => hb.elim .inl fun ⟨k, c, hk⟩ => .inr ⟨p k, c, hk⟩) h1 h2) fun e w' hq => ?_
  obtain ⟨ρ', v, h3, h4, h5, h6⟩ := hq
  refine ⟨fun k => ρ' (p k), v, h3, repI_ren hp (look_ren hp post) h4, relH_ren hp (look_ren hp post) h5, ?_⟩
  have := trans_ren hp (look_ren hp pre) (look_ren hp post) h6
  simpa only [hp] using this
theorem SC.sw {P : Program} {f : FuncId} {args : List IV} {pre post : List (Nat × HO)} {R : Nat → Prop} {r : IV} (a b : Nat) (h : SC P f args pre R r post) : SC P f (renL (sw a b) args) (renP (sw a b) pre) (fun k => R (Proofs.YtahpinmlgnfklaaGreatDoor.sw a b k)) (r.ren (Proofs.YtahpinmlgnfklaaGreatDoor.sw a b)) (renP (Proofs.YtahpinmlgnfklaaGreatDoor.sw a b) post) := h.ren (sw_sw a b)
end
def eqS (x y : ByteArray) : Bool := x.toList == y.toList
def r8Ender (k : Int) : Bool := decide (k ≥ 12) && decide (k ≤ 15)
def r8last (l : List Nd) : Int :=
  match l.getLast? with
  | some x => if r8Ender x.kind then x.kind else 0
  | none => 0
mutual
def r8LeavesN : Nd → Bool
  | .mk kind _ _ _ _ _ _ ks => kind == 14 || (kind == 10 && r8LeavesK ks)
def r8Leaves : List Nd → Bool
  | [] => false
  | x :: r => r8LeavesN x || r8Leaves r
def r8LeavesK : List (List Nd) → Bool
  | [] => false
  | l :: r => r8Leaves l || r8LeavesK r
end
theorem r8LeavesN_eq (x : Nd) : r8LeavesN x = (x.kind == 14 || (x.kind == 10 && r8LeavesK x.kids)) := by cases x; simp [r8LeavesN, Nd.kind, Nd.kids]
def kid0 (ks : List (List Nd)) : List Nd := (ks[0]?).getD []
def kid1 (ks : List (List Nd)) : List Nd := (ks[1]?).getD []
def r8Closed (x : Nd) : Bool :=
  if x.kind == 10 && (x.kids.length : Int) == 2 then (r8last (kid0 x.kids) != 12) && (r8last (kid1 x.kids) != 12)
  else if x.kind == 11 && (x.kids.length : Int) == 1 then !r8Leaves (kid0 x.kids)
  else r8Ender x.kind
def r8Place (name : ByteArray) : List Fl → Int → Int
  | [], _ => -1
  | f :: r, i => if eqS f.name name then i else r8Place name r (i + 1)
def r8Array (name : ByteArray) : List Ar → Int → Int
  | [], _ => -1
  | f :: r, i => if eqS f.name name then i else r8Array name r (i + 1)
theorem kid_lt {x : Nd} {l : List Nd} {ks : List (List Nd)} (hx : x ∈ l) (hk : x.kids = ks) {q : List Nd} (hq : q ∈ ks) : SizeOf.sizeOf q < SizeOf.sizeOf l := by
  have h1 := List.sizeOf_lt_of_mem hx
  have h2 := List.sizeOf_lt_of_mem hq
  subst hk
  cases x
  simp only [Nd.kids, Nd.mk.sizeOf_spec] at *
  omega
def r8op (x : Nd) : Bool := x.kind == 3 || x.kind == 4
def r8num (x : Nd) : Bool := x.kind == 1 || x.kind == 2
def r8name (x : Nd) : Bool := x.kind == 5 || x.kind == 6 || x.kind == 7
def r8kn (x : Nd) : Int := if x.kind == 11 then 1 else if x.kind == 10 then 2 else 0
def r8bare (x : Nd) : Bool := (r8op x || x.op == 0) && (r8num x || x.n == 0) && (r8name x || x.name.toList == []) && (x.kids.length : Int) == r8kn x && (x.kind == 11 || (x.params.length : Int) == 0)
def r8use (tys seen : List Int) (v w : Int) : Bool := !(decide (v < 0) || decide (v ≥ tys.length) || !seen.contains v || (w != 0 && (tys.getD v.toNat 0 != w)))
def r8typesGo (tys seen : List Int) : List Int → List Int → Bool
  | v :: r, w :: ws => r8use tys seen v w && r8typesGo tys seen r ws
  | _, _ => true
def r8types (tys seen l want : List Int) : Bool := (l.length : Int) == want.length && r8typesGo tys seen l want
def r8bad (tys : List Int) (set : List Bool) (v w : Int) : Bool := decide (v < 0) || decide (v ≥ tys.length) || set.getD v.toNat false || (w != 0 && (tys.getD v.toNat 0 != w))
def r8setsGo (tys : List Int) : List Bool → List Int → List Int → Bool × List Bool
  | set, v :: r, w :: ws => if r8bad tys set v w then (false, set) else r8setsGo tys (set.set v.toNat true) r ws
  | set, _, _ => (true, set)
def r8sets (tys : List Int) (set : List Bool) (l want : List Int) : Bool × List Bool :=
  if (l.length : Int) == want.length then r8setsGo tys set l want else (false, set)
def r8inr (tys : List Int) (v : Int) : Bool := decide (0 ≤ v) && decide (v < tys.length)
def r8of (tys l : List Int) : List Int := if l.all (r8inr tys) then l.map fun v => tys.getD v.toNat 0 else []
structure Wh where
  If : Bool
  Loop : Bool
  Yield : List Int
  Next : List Int
  Left : List Int
abbrev whv (w : Wh) : PV := .agg [vBool w.If, vBool w.Loop, ints w.Yield, ints w.Next, ints w.Left]
def ckBox (u : Un) (f : Fl) (n : Nat) : List IV := [.pv (arrs u.arrays), .pv (flws u.flows), iStr f.name, iInt f.ty, iInt f.params, .pv (ints f.types), .pv (nodes f.body), .sl 4 n]
def r1IsOne (op : Int) : Bool := decide (op ≥ 20) && decide (op ≤ 28)
def r1IsTwo (op : Int) : Bool := decide (op ≥ 1) && decide (op ≤ 17)
def r5Operand (op : Int) : Int × Int :=
  if op == 18 || op == 19 || op == 22 then (2, 2) else if op == 16 || op == 17 then (0, 2)
  else if decide (op ≥ 12) && decide (op ≤ 15) then (1, 2) else (1, 1)
def r8ofGo (tys acc : List Int) : List Int → List Int
  | [] => acc
  | v :: r => if r8inr tys v then r8ofGo tys (acc ++ [tys.getD v.toNat 0]) r else []
theorem r8ofGo_eq (tys : List Int) : ∀ (l acc : List Int), r8ofGo tys acc l = if l.all (r8inr tys) then acc ++ l.map (fun v => tys.getD v.toNat 0) else []
  | [], acc => by simp [r8ofGo]
  | v :: r, acc => by
    simp only [r8ofGo, List.all_cons, List.map_cons]
    cases h : r8inr tys v <;> simp [r8ofGo_eq tys r]
theorem r8of_eq (tys l : List Int) : r8of tys l = r8ofGo tys [] l := by rw [r8ofGo_eq]; simp [r8of]
def andS (b : Bool) (set : List Bool) (r : Bool × List Bool) : Bool × List Bool := if b then r else (false, set)
def r8call (u : Un) (f : Fl) (set : List Bool) (x : Nd) (seen : List Int) : Bool × List Bool :=
  if decide (r8Place x.name u.flows 0 ≥ 0) = true then
    match u.flows[(r8Place x.name u.flows 0).toNat]? with
    | some g => andS (r8types f.types seen x.args (g.types.take g.params.toNat)) set (r8sets f.types set x.outs [g.ty])
    | none => (false, set)
  else (false, set)
def r8simple (u : Un) (f : Fl) (set : List Bool) (x : Nd) (seen : List Int) (w : Wh) : Bool × List Bool :=
  if x.kind == 1 then andS (r8types f.types seen x.args []) set (r8sets f.types set x.outs [1])
  else if x.kind == 2 then andS ((x.n == 0 || x.n == 1) && r8types f.types seen x.args []) set (r8sets f.types set x.outs [2])
  else if x.kind == 3 then andS (r1IsOne x.op && r8types f.types seen x.args [(r5Operand x.op).1]) set (r8sets f.types set x.outs [(r5Operand x.op).2])
  else if x.kind == 4 then andS (r1IsTwo x.op && r8types f.types seen x.args [(r5Operand x.op).1, (r5Operand x.op).1] && f.types.getD (x.args.getD 0 0).toNat 0 == f.types.getD (x.args.getD 1 0).toNat 0) set (r8sets f.types set x.outs [(r5Operand x.op).2])
  else if x.kind == 5 then andS (decide (r8Array x.name u.arrays 0 ≥ 0) && r8types f.types seen x.args [1]) set (r8sets f.types set x.outs [1])
  else if x.kind == 6 then (decide (r8Array x.name u.arrays 0 ≥ 0) && r8types f.types seen x.args [1, 1] && (x.outs.length : Int) == 0, set)
  else if x.kind == 7 then r8call u f set x seen
  else if x.kind == 8 then andS ((x.args.length : Int) == 0) set (r8sets f.types set x.outs [1])
  else if x.kind == 9 then (r8types f.types seen x.args [1] && (x.outs.length : Int) == 0, set)
  else if x.kind == 12 then (w.If && r8types f.types seen x.args w.Yield && (x.outs.length : Int) == 0, set)
  else if x.kind == 13 then (w.Loop && r8types f.types seen x.args w.Next && (x.outs.length : Int) == 0, set)
  else if x.kind == 14 then (w.Loop && r8types f.types seen x.args w.Left && (x.outs.length : Int) == 0, set)
  else if x.kind == 15 then (r8types f.types seen x.args [f.ty] && (x.outs.length : Int) == 0, set)
  else (false, set)
theorem r8Place_some (name : ByteArray) : ∀ (l : List Fl) (i : Int), r8Place name l i ≠ -1 → i ≥ 0 → i ≤ r8Place name l i ∧ ∃ g, l[(r8Place name l i - i).toNat]? = some g ∧ eqS g.name name = true
  | [], i, h, _ => absurd rfl h
  | g :: r, i, h, h0 => by
    simp only [r8Place] at h ⊢
    split
    ·rename_i hq
     exact ⟨Int.le_refl _, g, by simp, hq⟩
    rename_i hq
    rw [if_neg hq] at h
    obtain ⟨h1, g', h2, h3⟩ := r8Place_some name r (i + 1) h (by omega)
    refine ⟨by omega, g', ?_, h3⟩
    rw [show (r8Place name r (i + 1) - i).toNat = (r8Place name r (i + 1) - (i + 1)).toNat + 1 by omega]
    simpa using h2
theorem r8Place_at {name : ByteArray} {l : List Fl} (h : r8Place name l 0 ≥ 0) : ∃ g, l[(r8Place name l 0).toNat]? = some g ∧ eqS g.name name = true := by
  obtain ⟨_, g, h2, h3⟩ := r8Place_some name l 0 (by omega) (by omega)
  exact ⟨g, by simpa using h2, h3⟩
theorem r8use_range {tys seen : List Int} {v w : Int} (h : r8use tys seen v w = true) : 0 ≤ v ∧ v.toNat < tys.length := by
  simp [r8use] at h
  omega
def andT (r : Bool × List Bool) (k : List Bool → Bool × List Bool) : Bool × List Bool := if r.1 then k r.2 else (false, r.2)
def ne (l : List Nd) (r : Bool × List Bool) : Bool × List Bool := if l.isEmpty then (false, r.2) else r
mutual
def ndW : Nd → Nat
  | .mk _ _ _ _ args outs params kids => 1 + args.length + outs.length + params.length + kdW kids
def lsW : List Nd → Nat
  | [] => 0
  | x :: r => ndW x + lsW r
def kdW : List (List Nd) → Nat
  | [] => 0
  | l :: r => 1 + lsW l + kdW r
end
def r8end (f : Fl) (x : Nd) (set : List Bool) : Bool × List Bool :=
  andS ((x.outs.length : Int) == 0 || !r8Closed x) set (r8sets f.types set x.outs (List.replicate x.outs.length 0))
mutual
def r8node (u : Un) (f : Fl) (deep : Int) (w : Wh) (seen : List Int) (set : List Bool) : Nd → Bool × List Bool
  | .mk kind op n name args outs params kids =>
    if !r8bare (.mk kind op n name args outs params kids) then (false, set)
    else if kind == 10 then
      if r8types f.types seen args [2] then
        match kids with
        | a :: b :: _ =>
          andT (ne a (r8go u f (deep + 1) ⟨true, w.Loop, r8of f.types outs, w.Next, w.Left⟩ seen set a)) fun s1 =>
          andT (ne b (r8go u f (deep + 1) ⟨true, w.Loop, r8of f.types outs, w.Next, w.Left⟩ seen s1 b)) fun s2 =>
          r8end f (.mk kind op n name args outs params kids) s2
        | _ => (false, set)
      else (false, set)
    else if kind == 11 then
      if r8types f.types seen args (r8of f.types params) then
        andT (r8sets f.types set params (List.replicate params.length 0)) fun s1 =>
        match kids with
        | a :: _ =>
          andT (ne a (r8go u f (deep + 1) ⟨false, true, [], r8of f.types params, r8of f.types outs⟩ (seen ++ params) s1 a)) fun s2 =>
          r8end f (.mk kind op n name args outs params kids) s2
        | _ => (false, s1)
      else (false, set)
    else r8simple u f set (.mk kind op n name args outs params kids) seen w
def r8go (u : Un) (f : Fl) (deep : Int) (w : Wh) (all : List Int) (set : List Bool) : List Nd → Bool × List Bool
  | [] => (true, set)
  | x :: r =>
    if deep > 100 then (false, set)
    else andT (r8node u f deep w all set x) fun s1 =>
      if r8Closed x != r.isEmpty then (false, s1)
      else r8go u f deep w (all ++ x.outs) s1 r
end
def r8list (u : Un) (f : Fl) (deep : Int) (w : Wh) (all : List Int) (set : List Bool) (l : List Nd) : Bool × List Bool := ne l (r8go u f deep w all set l)
theorem r8bare_kids {x : Nd} (h : r8bare x = true) : (x.kids.length : Int) = r8kn x := by
  simp only [r8bare, Bool.and_eq_true, beq_iff_eq] at h
  exact h.1.2
theorem r8bare_if {x : Nd} (h : r8bare x = true) (hk : x.kind = 10) : ∃ a b, x.kids = [a, b] := by
  have := r8bare_kids h
  simp [r8kn, hk] at this
  match hx : x.kids with
  | [] => simp [hx] at this
  | [a] => simp [hx] at this
  | [a, b] => exact ⟨a, b, rfl⟩
  | a :: b :: c :: r => simp [hx] at this; omega
theorem r8bare_loop {x : Nd} (h : r8bare x = true) (hk : x.kind = 11) : ∃ a, x.kids = [a] := by
  have := r8bare_kids h
  simp [r8kn, hk] at this
  match hx : x.kids with
  | [] => simp [hx] at this
  | [a] => exact ⟨a, rfl⟩
  | a :: b :: r => simp [hx] at this; omega
theorem r8node_bare (u : Un) (f : Fl) (deep : Int) (w : Wh) (seen : List Int) (set : List Bool) {x : Nd} (h : r8bare x = false) : r8node u f deep w seen set x = (false, set) := by
  cases x; unfold r8node; simp [h]
theorem r8node_if (u : Un) (f : Fl) (deep : Int) (w : Wh) (seen : List Int) (set : List Bool) {x : Nd} {a b : List Nd} (h : r8bare x = true) (hk : x.kind = 10) (hx : x.kids = [a, b]) :
    r8node u f deep w seen set x = if r8types f.types seen x.args [2] then
        andT (r8list u f (deep + 1) ⟨true, w.Loop, r8of f.types x.outs, w.Next, w.Left⟩ seen set a) fun s1 =>
        andT (r8list u f (deep + 1) ⟨true, w.Loop, r8of f.types x.outs, w.Next, w.Left⟩ seen s1 b) fun s2 => r8end f x s2
      else (false, set) := by
  cases x; simp only [Nd.kind, Nd.kids, Nd.args, Nd.outs] at *; subst hk hx; unfold r8node; simp [h, r8list]; rfl
theorem r8node_loop (u : Un) (f : Fl) (deep : Int) (w : Wh) (seen : List Int) (set : List Bool) {x : Nd} {a : List Nd} (h : r8bare x = true) (hk : x.kind = 11) (hx : x.kids = [a]) :
    r8node u f deep w seen set x = if r8types f.types seen x.args (r8of f.types x.params) then
        andT (r8sets f.types set x.params (List.replicate x.params.length 0)) fun s1 =>
        andT (r8list u f (deep + 1) ⟨false, true, [], r8of f.types x.params, r8of f.types x.outs⟩ (seen ++ x.params) s1 a) fun s2 => r8end f x s2
      else (false, set) := by
  cases x; simp only [Nd.kind, Nd.kids, Nd.args, Nd.outs, Nd.params] at *; subst hk hx; unfold r8node; simp [h, r8list]; rfl
theorem r8node_simple (u : Un) (f : Fl) (deep : Int) (w : Wh) (seen : List Int) (set : List Bool) {x : Nd} (h : r8bare x = true) (h1 : (x.kind == 10) = false) (h2 : (x.kind == 11) = false) :
    r8node u f deep w seen set x = r8simple u f set x seen w := by
  cases x; simp only [Nd.kind] at *; unfold r8node; simp [h, h1, h2]
theorem ndW_eq (x : Nd) : ndW x = 1 + x.args.length + x.outs.length + x.params.length + kdW x.kids := by cases x; simp [ndW, Nd.args, Nd.outs, Nd.params, Nd.kids]
theorem drop_isEmpty {l : List Nd} {k : Nat} (h : k < l.length) : (l.drop (k + 1)).isEmpty = ((k : Int) == (l.length : Int) - 1) := by
  by_cases e : k + 1 = l.length
  ·rw [List.drop_eq_nil_of_le (by omega)]
   have : (k : Int) = (l.length : Int) - 1 := by omega
   simp [this]
  have h1 : l.drop (k + 1) ≠ [] := fun h0 => by have := congrArg List.length h0; simp at this; omega
  have h2 : ¬ (k : Int) = (l.length : Int) - 1 := by omega
  rw [beq_eq_false_iff_ne.2 h2]
  cases hq : l.drop (k + 1) with
  | nil => exact absurd hq h1
  | cons => rfl
theorem ba_sz (s : ByteArray) : s.data.toList.length = s.size := rfl
theorem ba_loop (s : ByteArray) : ∀ (n i : Nat) (acc : List UInt8), s.size - i = n → ByteArray.toList.loop s i acc = acc.reverse ++ s.data.toList.drop i
  | 0, i, acc, h => by
    rw [ByteArray.toList.loop]
    have : ¬ i < s.size := by omega
    rw [if_neg this, List.drop_eq_nil_of_le (by rw [ba_sz]; omega)]
    simp
  | n + 1, i, acc, h => by
    rw [ByteArray.toList.loop]
    have hi : i < s.size := by omega
    rw [if_pos hi, ba_loop s n (i + 1) _ (by omega)]
    have hi2 : i < s.data.toList.length := by rw [ba_sz]; exact hi
    rw [List.drop_eq_getElem_cons hi2]
    have hget : s.get! i = s.data.toList[i] := by
      show s.data[i]! = _
      rw [getElem!_pos s.data i hi]
      rfl
    simp [hget]
theorem ba_toList (s : ByteArray) : s.toList = s.data.toList := by
  rw [ByteArray.toList, ba_loop s _ 0 [] rfl]; simp
theorem ba_len (s : ByteArray) : s.toList.length = s.size := by rw [ba_toList]; rfl
theorem ba_get {s : ByteArray} {i : Nat} (h : i < s.toList.length) : s[i]? = some (s.toList[i]) := by
  have h2 : i < s.size := by rwa [ba_len] at h
  rw [getElem?_pos s i h2]
  congr 1
  simp only [ba_toList]
  rfl
def isLetter (n : Int) : Bool := (decide (n ≥ 97) && decide (n ≤ 122)) || (decide (n ≥ 65) && decide (n ≤ 90)) || n == 95
def isDigit (n : Int) : Bool := decide (n ≥ 48) && decide (n ≤ 57)
def isLD (b : UInt8) : Bool := isLetter b.toNat || isDigit b.toNat
def isWord (s : ByteArray) : Bool := s.toList == ByteArray.toList ⟨#[105, 110, 116]⟩ || s.toList == ByteArray.toList ⟨#[98, 111, 111, 108]⟩ || s.toList == ByteArray.toList ⟨#[105, 102]⟩ || s.toList == ByteArray.toList ⟨#[101, 108, 115, 101]⟩ || s.toList == ByteArray.toList ⟨#[119, 104, 105, 108, 101]⟩ || s.toList == ByteArray.toList ⟨#[98, 114, 101, 97, 107]⟩ || s.toList == ByteArray.toList ⟨#[99, 111, 110, 116, 105, 110, 117, 101]⟩ || s.toList == ByteArray.toList ⟨#[114, 101, 116, 117, 114, 110]⟩ || s.toList == ByteArray.toList ⟨#[112, 114, 105, 110, 116]⟩ || s.toList == ByteArray.toList ⟨#[114, 101, 97, 100]⟩ || s.toList == ByteArray.toList ⟨#[116, 114, 117, 101]⟩ || s.toList == ByteArray.toList ⟨#[102, 97, 108, 115, 101]⟩ || s.toList == ByteArray.toList ⟨#[105, 56]⟩ || s.toList == ByteArray.toList ⟨#[105, 49, 54]⟩ || s.toList == ByteArray.toList ⟨#[105, 51, 50]⟩ || s.toList == ByteArray.toList ⟨#[117, 56]⟩ || s.toList == ByteArray.toList ⟨#[117, 49, 54]⟩ || s.toList == ByteArray.toList ⟨#[117, 51, 50]⟩
def isName (s : ByteArray) : Bool := !(s.toList == []) && decide ((s.size : Int) ≤ 20) && isLetter (s.toList.headD 0).toNat && !isWord s && s.toList.all isLD
mutual
def wtN : Nd → Nat
  | .mk _ _ _ name args outs params kids => args.length + outs.length + params.length + name.size + wtK kids
def wtL : List Nd → Nat
  | [] => 0
  | x :: r => wtN x + wtL r
def wtK : List (List Nd) → Nat
  | [] => 0
  | l :: r => 1 + (l.length + wtL l) + wtK r
end
theorem wtN_eq (x : Nd) : wtN x = x.args.length + x.outs.length + x.params.length + x.name.size + wtK x.kids := by cases x; simp [wtN, Nd.args, Nd.outs, Nd.params, Nd.kids, Nd.name]
def r8nodes (l : List Nd) : Nat := l.length + wtL l
def wtA : List Ar → Nat
  | [] => 0
  | a :: r => a.name.size + wtA r
def wtF : List Fl → Nat
  | [] => 0
  | f :: r => f.name.size + f.types.length + r8nodes f.body + wtF r
def r8Weight (u : Un) : Nat := u.arrays.length + u.flows.length + wtA u.arrays + wtF u.flows
mutual
def sameN : Nd → Nd → Bool
  | .mk k o n s a u p ks, .mk k' o' n' s' a' u' p' ks' => k == k' && o == o' && n == n' && s.toList == s'.toList && ks.length == ks'.length && a == a' && u == u' && p == p' && sameK ks ks'
def sameL : List Nd → List Nd → Bool
  | [], [] => true
  | x :: a, y :: b => sameN x y && sameL a b
  | _, _ => false
def sameK : List (List Nd) → List (List Nd) → Bool
  | [], [] => true
  | x :: a, y :: b => sameL x y && sameK a b
  | _, _ => false
end
def sameH (x y : Nd) : Bool := x.kind == y.kind && x.op == y.op && x.n == y.n && x.name.toList == y.name.toList && x.kids.length == y.kids.length && x.args == y.args && x.outs == y.outs && x.params == y.params
theorem sameN_eq (x y : Nd) : sameN x y = (sameH x y && sameK x.kids y.kids) := by cases x; cases y; simp [sameN, sameH, Nd.kind, Nd.op, Nd.n, Nd.name, Nd.args, Nd.outs, Nd.params, Nd.kids]
theorem sameL_len : ∀ {a b : List Nd}, a.length ≠ b.length → sameL a b = false
  | [], [], h => absurd rfl h
  | [], _ :: _, _ => by simp [sameL]
  | _ :: _, [], _ => by simp [sameL]
  | x :: a, y :: b, h => by simp [sameL, sameL_len (a := a) (b := b) (by simpa using h)]
def sameF (f g : Fl) : Bool := f.name.toList == g.name.toList && f.ty == g.ty && f.params == g.params && f.types == g.types && sameL f.body g.body
def sameFs : List Fl → List Fl → Bool
  | [], [] => true
  | x :: a, y :: b => sameF x y && sameFs a b
  | _, _ => false
def sameA (f g : Ar) : Bool := f.name.toList == g.name.toList && f.size == g.size
def sameAs : List Ar → List Ar → Bool
  | [], [] => true
  | x :: a, y :: b => sameA x y && sameAs a b
  | _, _ => false
def r8Same (u v : Un) : Bool := u.arrays.length == v.arrays.length && u.flows.length == v.flows.length && sameAs u.arrays v.arrays && sameFs u.flows v.flows
theorem look_two {a b : Nat} {x y : Option HO} {hp : Hp} {f : Nat → Option HO} (h1 : f a = x) (h2 : f b = y) (h3 : ∀ k, k ≠ a → k ≠ b → f k = look hp k) (hab : a ≠ b) : f = look ((a, x) :: (b, y) :: hp) := by
  funext k
  simp only [look]
  by_cases ha : a = k
  · subst ha; simp [h1]
  · by_cases hb : b = k
    · subst hb; simp [beq_ne hab, h2]
    · simp [beq_ne ha, beq_ne hb, h3 k (Ne.symm ha) (Ne.symm hb)]
def mainName : ByteArray := ⟨#[109, 97, 105, 110]⟩
def gArr (u : Un) (a : Ar) (i : Int) : Bool := isName a.name && !decide (a.size < 1) && !decide (a.size > 1000) && (r8Array a.name u.arrays 0 == i) && !decide (r8Place a.name u.flows 0 ≥ 0)
def r8gA (u : Un) : List Ar → Int → Bool
  | [], _ => true
  | a :: r, i => gArr u a i && r8gA u r (i + 1)
def gFlw (u : Un) (f : Fl) (i : Int) : Bool := isName f.name && (r8Place f.name u.flows 0 == i) && (f.ty == 1 || f.ty == 2) && !decide (f.params < 0) && !decide (f.params > f.types.length)
def r8gF (u : Un) : List Fl → Int → Bool
  | [], _ => true
  | f :: r, i => gFlw u f i && r8gF u r (i + 1)
def flDef : Fl := ⟨⟨#[]⟩, 0, 0, [], []⟩
def r8main (u : Un) : Bool := decide (r8Place mainName u.flows 0 ≥ 0) && (u.flows.getD (r8Place mainName u.flows 0).toNat flDef).ty == 1 && (u.flows.getD (r8Place mainName u.flows 0).toNat flDef).params == 0
def r8globals (u : Un) : Bool := r8gA u u.arrays 0 && r8gF u u.flows 0 && r8main u
theorem r8gF_all {u : Un} : ∀ {l : List Fl} {i : Int}, r8gF u l i = true → ∀ g ∈ l, 0 ≤ g.params ∧ g.params ≤ g.types.length
  | [], _, _, g, hg => by simp at hg
  | f :: r, i, h, g, hg => by
    simp only [r8gF, Bool.and_eq_true] at h
    rcases List.mem_cons.1 hg with rfl | hg
    · have := h.1
      simp only [gFlw, Bool.and_eq_true, Bool.not_eq_true', decide_eq_false_iff_not] at this
      omega
    · exact r8gF_all h.2 g hg
theorem r8globals_params {u : Un} (h : r8globals u = true) : ∀ g ∈ u.flows, 0 ≤ g.params ∧ g.params ≤ g.types.length := by
  simp only [r8globals, Bool.and_eq_true] at h
  exact r8gF_all h.1.2
def r8where0 : Wh := ⟨false, false, [], [], []⟩
def iota (n : Nat) : List Int := (List.range n).map fun (i : Nat) => (i : Int)
def firsts (k n : Nat) : List Bool := List.replicate k true ++ List.replicate (n - k) false
def r8Flow (u : Un) (f : Fl) : Bool := !decide (f.params < 0) && !decide (f.params > 8) && !decide (f.params > f.types.length) && !decide ((f.types.length : Int) > 20000) && f.types.all (fun t => t == 1 || t == 2) &&
  (r8list u f 1 r8where0 (iota f.params.toNat) (firsts f.params.toNat f.types.length) f.body).1
theorem firsts_length {k n : Nat} (h : k ≤ n) : (firsts k n).length = n := by simp [firsts]; omega
def r8flows (u : Un) : List Fl → Int → Int × Int
  | [], _ => (0, 0)
  | f :: r, i => if r8Flow u f then r8flows u r (i + 1) else (80, i)
def r8Check (u : Un) : Int × Int := if r8globals u then r8flows u u.flows 0 else (1, 0)
mutual
theorem ndW_le : ∀ x : Nd, ndW x ≤ 1 + wtN x
  | .mk k o n s a t p ks => by
    have := kdW_le ks
    simp only [ndW, wtN]
    omega
theorem lsW_le : ∀ l : List Nd, lsW l ≤ l.length + wtL l
  | [] => by simp [lsW]
  | x :: r => by
    have h1 := ndW_le x
    have h2 := lsW_le r
    simp only [lsW, wtL, List.length_cons]
    omega
theorem kdW_le : ∀ l : List (List Nd), kdW l ≤ wtK l
  | [] => by simp [kdW]
  | x :: r => by
    have h1 := lsW_le x
    have h2 := kdW_le r
    simp only [kdW, wtK]
    omega
end
theorem wtF_mem : ∀ {l : List Fl} {f : Fl}, f ∈ l → r8nodes f.body ≤ wtF l
  | g :: r, f, h => by
    rcases List.mem_cons.1 h with rfl | h
    · simp only [wtF]; omega
    · have := wtF_mem h; simp only [wtF]; omega
theorem flow_le {u : Un} (h : r8Weight u ≤ 536870912) {f : Fl} (hf : f ∈ u.flows) : lsW f.body ≤ 536870912 := by
  have h1 := wtF_mem hf
  have h2 := lsW_le f.body
  unfold r8Weight r8nodes at *
  omega
def idxP {α : Type} (p : α → Bool) : List α → Int → Int
  | [], _ => -1
  | x :: r, i => if p x then i else idxP p r (i + 1)
theorem idxP_any {α : Type} (p : α → Bool) : ∀ (l : List α) (i : Int), 0 ≤ i → decide (idxP p l i ≥ 0) = l.any p
  | [], _, _ => rfl
  | x :: r, i, hi => by
    unfold idxP
    cases hx : p x with
    | true => simp [hx, hi]
    | false => simp [hx, idxP_any p r (i + 1) (by omega)]
def eqGo {S : Type} (p : S → Int → Int → Bool × S) : S → List Int → List Int → Bool × S
  | s, x :: a, y :: b => if (p s x y).1 then eqGo p (p s x y).2 a b else (false, (p s x y).2)
  | s, _, _ => (true, s)
def eqf {S : Type} (p : S → Int → Int → Bool × S) (s : S) (a b : List Int) : Bool × S := if (a.length : Int) = b.length then eqGo p s a b else (false, s)
theorem r8Leaves_any : ∀ l : List Nd, r8Leaves l = l.any r8LeavesN
  | [] => rfl
  | x :: r => by simp [r8Leaves, r8Leaves_any r]
theorem r8LeavesK_any : ∀ l : List (List Nd), r8LeavesK l = l.any r8Leaves
  | [] => rfl
  | x :: r => by simp [r8LeavesK, r8LeavesK_any r]
def shYields (l : List Nd) : Bool := match l.getLast? with
  | some x => x.kind == 12
  | none => false
theorem shYields_eq (l : List Nd) : (r8last l != 12) = !shYields l := by
  unfold r8last shYields
  cases l.getLast? with
  | none => rfl
  | some x =>
    simp only [r8Ender]
    by_cases h : x.kind = 12
    ·simp [h]
    have hb : (x.kind == 12) = false := by simpa using h
    by_cases h2 : (decide (x.kind ≥ 12) && decide (x.kind ≤ 15)) = true
    ·simp only [h2, if_true, bne, hb]
    simp [h2, h]
theorem idxP_place (name : ByteArray) : ∀ (l : List Fl) (i : Int), idxP (fun f : Fl => f.name.toList == name.toList) l i = r8Place name l i
  | [], _ => rfl
  | f :: r, i => by
    unfold idxP r8Place eqS
    rw [idxP_place name r]
theorem r8Array_any (name : ByteArray) : ∀ (l : List Ar) (i : Int), 0 ≤ i → decide (r8Array name l i ≥ 0) = l.any (fun a : Ar => a.name.toList == name.toList)
  | [], _, _ => rfl
  | f :: r, i, hi => by
    have ih := r8Array_any name r (i + 1) (by omega)
    rw [List.any_cons, ← ih]
    rw [show r8Array name (f :: r) i = if (f.name.toList == name.toList) = true then i else r8Array name r (i + 1) from rfl]
    by_cases h : (f.name.toList == name.toList) = true
    ·rw [if_pos h, h]; simp [hi]
    rw [if_neg h, (by simpa using h : (f.name.toList == name.toList) = false)]; simp
def isTy (t : Int) : Bool := t == 1 || t == 2
def shOperand (op : Int) : Int × Int :=
  if op == 22 then (2, 2) else if op == 16 || op == 17 then (0, 2) else if decide (op ≥ 12) && decide (op ≤ 15) then (1, 2) else (1, 1)
def wSigns : List ByteArray := [⟨#[]⟩, ⟨#[43]⟩, ⟨#[45]⟩, ⟨#[42]⟩, ⟨#[47]⟩, ⟨#[37]⟩, ⟨#[38]⟩, ⟨#[124]⟩, ⟨#[94]⟩, ⟨#[60, 60]⟩, ⟨#[62, 62]⟩, ⟨#[62, 62, 62]⟩, ⟨#[60]⟩, ⟨#[60, 61]⟩, ⟨#[62]⟩, ⟨#[62, 61]⟩, ⟨#[61, 61]⟩, ⟨#[33, 61]⟩, ⟨#[38, 38]⟩, ⟨#[124, 124]⟩, ⟨#[45]⟩, ⟨#[126]⟩, ⟨#[33]⟩, ⟨#[105, 56]⟩, ⟨#[105, 49, 54]⟩, ⟨#[105, 51, 50]⟩, ⟨#[117, 56]⟩, ⟨#[117, 49, 54]⟩, ⟨#[117, 51, 50]⟩]
def wSign (op : Int) : ByteArray := if op < 0 || op ≥ 29 then ⟨#[]⟩ else wSigns.getD op.toNat ⟨#[]⟩
def levelTab : List Int := [0, 9, 9, 10, 10, 10, 5, 3, 4, 8, 8, 8, 7, 7, 7, 7, 6, 6, 2, 1, 0, 0, 0, 0, 0, 0, 0, 0, 0]
def wLevel (op : Int) : Int := if op < 0 || op ≥ 29 then 0 else levelTab.getD op.toNat 0
theorem below29 {op : Int} (h0 : 0 ≤ op) (h1 : op < 29) : op = 0 ∨ op = 1 ∨ op = 2 ∨ op = 3 ∨ op = 4 ∨ op = 5 ∨ op = 6 ∨ op = 7 ∨ op = 8 ∨ op = 9 ∨ op = 10 ∨ op = 11 ∨ op = 12 ∨ op = 13 ∨ op = 14 ∨ op = 15 ∨ op = 16 ∨ op = 17 ∨ op = 18 ∨ op = 19 ∨ op = 20 ∨ op = 21 ∨ op = 22 ∨ op = 23 ∨ op = 24 ∨ op = 25 ∨ op = 26 ∨ op = 27 ∨ op = 28 := by omega
def ckS (u : Un) (f : Fl) (it : TypeId) (st : List Int) : List (Nat × HO) := [(3, .box (ckBox u f (st.map eInt).length)), (4, .row ⟨it, 1⟩ (st.map eInt))]
def shVal (tys : List Int) (v t : Int) : Bool := decide (0 ≤ v) && decide (v < tys.length) && (t == 0 || tys.getD v.toNat 0 == t)
def shUse (tys : List Int) (st : List Int) (v t : Int) : Bool × List Int := (shVal tys v t && st.getD v.toNat 0 == 1, st)
def shSet1 (tys : List Int) (st : List Int) (v t : Int) : Bool × List Int := if shVal tys v t && st.getD v.toNat 0 == 0 then (true, st.set v.toNat 1) else (false, st)
def shUses (tys st l want : List Int) : Bool := (eqf (shUse tys) st l want).1
def shSets (tys st l want : List Int) : Bool × List Int := eqf (shSet1 tys) st l want
def shHide (st l : List Int) : List Int := l.foldl (fun s v => s.set v.toNat 2) st
theorem shUse_snd (tys : List Int) : ∀ (a b st : List Int), (eqGo (shUse tys) st a b).2 = st
  | [], _, st => by simp [eqGo]
  | _ :: _, [], st => by simp [eqGo]
  | x :: a, y :: b, st => by
    simp only [eqGo]
    split
    ·exact shUse_snd tys a b st
    rfl
theorem shUses_snd (tys st a b : List Int) : (eqf (shUse tys) st a b).2 = st := by
  unfold eqf
  split
  ·exact shUse_snd tys a b st
  rfl
theorem shSet1_length (tys st : List Int) (v t : Int) : (shSet1 tys st v t).2.length = st.length := by
  unfold shSet1; split <;> simp
theorem shSetGo_length (tys : List Int) : ∀ (a b st : List Int), (eqGo (shSet1 tys) st a b).2.length = st.length
  | [], _, st => by simp [eqGo]
  | _ :: _, [], st => by simp [eqGo]
  | x :: a, y :: b, st => by
    simp only [eqGo]
    split
    ·rw [shSetGo_length tys a b, shSet1_length]
    exact shSet1_length ..
theorem shSets_length (tys st a b : List Int) : (shSets tys st a b).2.length = st.length := by
  unfold shSets eqf
  split
  ·exact shSetGo_length ..
  rfl
theorem shHide_length : ∀ (l st : List Int), (shHide st l).length = st.length
  | [], st => rfl
  | v :: r, st => by
    have := shHide_length r (st.set v.toNat 2)
    simpa [shHide] using this
theorem shSetGo_in (tys : List Int) : ∀ (a b st : List Int), a.length = b.length → (eqGo (shSet1 tys) st a b).1 = true → ∀ v ∈ a, 0 ≤ v ∧ v < tys.length
  | [], _, st, _, _, v, hv => by simp at hv
  | _ :: _, [], _, hl, _, _, _ => by simp at hl
  | x :: a, y :: b, st, hl, h, v, hv => by
    simp only [eqGo] at h
    split at h
    ·rename_i h1
     rcases List.mem_cons.1 hv with rfl | hv
     ·unfold shSet1 at h1
      split at h1
      ·rename_i h2
       simp only [shVal, Bool.and_eq_true, decide_eq_true_eq] at h2
       exact ⟨h2.1.1.1, h2.1.1.2⟩
      cases h1
     exact shSetGo_in tys a b _ (by simpa using hl) h v hv
    cases h
theorem shSets_in {tys st a b : List Int} (h : (shSets tys st a b).1 = true) : ∀ v ∈ a, 0 ≤ v ∧ v < tys.length := by
  unfold shSets eqf at h
  split at h
  ·exact shSetGo_in tys a b st (by omega) h
  cases h
def ckSp (u : Un) (f : Fl) (it : TypeId) (q : Nat) (st : List Int) : List (Nat × HO) := (q, .box [.ptr 3 0]) :: ckS u f it st
theorem ckS_set {u : Un} {f : Fl} {it : TypeId} {st : List Int} {i : Nat} {z : Int} : ∀ k, look ((4, some (.row ⟨it, 1⟩ ((st.map eInt).set i [vInt z]))) :: up (ckS u f it st)) k = look (up (ckS u f it (st.set i z))) k := by
  intro k
  simp only [ckS, up, List.map_cons, List.map_nil, look, List.length_map, List.length_set]
  by_cases h4 : 4 = k
  ·subst h4
   simp [List.map_set, eInt, show Nat.beq 3 4 = false from rfl]
  by_cases h3 : 3 = k
  ·subst h3; simp [show Nat.beq 4 3 = false from rfl]
  simp [beq_ne h3, beq_ne h4]
theorem ckS_lend {u : Un} {f : Fl} {it : TypeId} {st st' : List Int} (h : st'.length = st.length) : ∀ k ob, look (up (ckS u f it st')) k = some ob → plainO ob = true ∨ (k = 3 ∧ look (up (ckS u f it st)) k = some ob) := by
  intro k ob hk
  have hm := look_up_mem hk
  simp only [ckS, List.mem_cons, List.not_mem_nil, or_false, Prod.mk.injEq] at hm
  rcases hm with ⟨rfl, rfl⟩ | ⟨rfl, rfl⟩
  ·exact .inr ⟨rfl, by simp [ckS, up, look, h]⟩
  refine .inl ?_
  simp [plainO, eInt, plainP]
theorem set3 {u : Un} {f : Fl} {st : List Int} {i : Nat} {z : Int} {x : Option HO} (h : x = some (.box (ckBox u f (st.map eInt).length))) : x = some (.box (ckBox u f ((st.set i z).map eInt).length)) := by
  rw [h, show ((st.set i z).map eInt).length = (st.map eInt).length by simp]
theorem set4 {it : TypeId} {st : List Int} {i : Nat} {z : Int} {x : Option HO} (h : x = some (.row ⟨it, 1⟩ ((st.map eInt).set i [vInt z]))) : x = some (.row ⟨it, 1⟩ ((st.set i z).map eInt)) := by
  rw [h, List.map_set]; rfl
def andP {S : Type} (b : Bool) (s : S) (r : Bool × S) : Bool × S := if b then r else (false, s)
def andQ {S : Type} (r : Bool × S) (k : S → Bool × S) : Bool × S := if r.1 then k r.2 else (false, r.2)
theorem shUses_len {tys st a b : List Int} (h : shUses tys st a b = true) : a.length = b.length := by
  unfold shUses eqf at h
  split at h
  · omega
  · cases h
theorem shUses_two {tys st l : List Int} {t : Int} (h : shUses tys st l [t, t] = true) : ∃ a b, l = [a, b] ∧ a = (a.toNat : Int) ∧ a.toNat < tys.length ∧ b = (b.toNat : Int) ∧ b.toNat < tys.length := by
  have hl := shUses_len h
  match l, hl with
  | [a, b], _ =>
    unfold shUses eqf at h
    simp only [List.length_cons, List.length_nil, if_true, eqGo] at h
    split at h
    · rename_i h1
      split at h
      · rename_i h2
        simp only [shUse, shVal, Bool.and_eq_true, decide_eq_true_eq] at h1 h2
        exact ⟨a, b, rfl, by omega, by omega, by omega, by omega⟩
      · cases h
    · cases h
def shSum (f : Fl) (st : List Int) (x : Nd) : Bool × List Int :=
  if x.kind == 3 then andP (r1IsOne x.op && shUses f.types st x.args [(shOperand x.op).1]) st (shSets f.types st x.outs [(shOperand x.op).2])
  else andP (decide (wLevel x.op > 0) && decide (x.op ≤ 17) && shUses f.types st x.args [(shOperand x.op).1, (shOperand x.op).1] && f.types.getD (x.args.getD 0 0).toNat 0 == f.types.getD (x.args.getD 1 0).toNat 0) st (shSets f.types st x.outs [(shOperand x.op).2])
def shEnd (f : Fl) (st : List Int) (x : Nd) (w : Wh) : Bool :=
  if x.kind == 12 then (x.outs.length : Int) == 0 && w.If && shUses f.types st x.args w.Yield
  else if x.kind == 13 then (x.outs.length : Int) == 0 && w.Loop && shUses f.types st x.args w.Next
  else if x.kind == 14 then (x.outs.length : Int) == 0 && w.Loop && shUses f.types st x.args w.Left
  else (x.outs.length : Int) == 0 && shUses f.types st x.args [f.ty]
def shCall (u : Un) (f : Fl) (st : List Int) (x : Nd) : Bool × List Int :=
  if r8Place x.name u.flows 0 < 0 then (false, st) else
    match u.flows[(r8Place x.name u.flows 0).toNat]? with
    | some g => andP (shUses f.types st x.args (g.types.take g.params.toNat)) st (shSets f.types st x.outs [g.ty])
    | none => (false, st)
def shSimple (u : Un) (f : Fl) (st : List Int) (x : Nd) : Bool × List Int :=
  if x.kind == 1 then andP (shUses f.types st x.args []) st (shSets f.types st x.outs [1])
  else if x.kind == 2 then andP ((x.n == 0 || x.n == 1) && shUses f.types st x.args []) st (shSets f.types st x.outs [2])
  else if x.kind == 3 || x.kind == 4 then shSum f st x
  else if x.kind == 5 then andP (decide (r8Array x.name u.arrays 0 ≥ 0) && shUses f.types st x.args [1]) st (shSets f.types st x.outs [1])
  else if x.kind == 6 then andP (decide (r8Array x.name u.arrays 0 ≥ 0) && shUses f.types st x.args [1, 1]) st (shSets f.types st x.outs [])
  else if x.kind == 8 then andP (shUses f.types st x.args []) st (shSets f.types st x.outs [1])
  else if x.kind == 9 then andP (shUses f.types st x.args [1]) st (shSets f.types st x.outs [])
  else if x.kind == 7 then shCall u f st x
  else (false, st)
theorem andP_length {b : Bool} {st : List Int} {r : Bool × List Int} (h : r.2.length = st.length) : (andP b st r).2.length = st.length := by
  unfold andP; split
  · exact h
  · rfl
theorem shSum_length (f : Fl) (st : List Int) (x : Nd) : (shSum f st x).2.length = st.length := by
  unfold shSum; split <;> exact andP_length (shSets_length ..)
theorem shCall_length (u : Un) (f : Fl) (st : List Int) (x : Nd) : (shCall u f st x).2.length = st.length := by
  unfold shCall
  split
  · rfl
  · split
    · exact andP_length (shSets_length ..)
    · rfl
theorem shSimple_length (u : Un) (f : Fl) (st : List Int) (x : Nd) : (shSimple u f st x).2.length = st.length := by
  unfold shSimple
  repeat' split
  all_goals first
    | exact andP_length (shSets_length ..)
    | exact shSum_length ..
    | exact shCall_length ..
    | rfl
def shTail (f : Fl) (x : Nd) (st : List Int) : Bool × List Int := andP ((x.outs.length : Int) == 0 || !r8Closed x) st (shSets f.types st x.outs (List.replicate x.outs.length 0))
def shHideAll (st : List Int) (l : List Nd) : List Int := l.foldl (fun s x => shHide s x.outs) st
def shFin (l : List Nd) (s : List Int) : Bool × List Int := (decide ((l.length : Int) > 0), shHideAll s l)
mutual
def shNode (u : Un) (f : Fl) (deep : Int) (w : Wh) (st : List Int) : Nd → Bool × List Int
  | .mk kind op n name args outs params kids =>
    if !r8bare (.mk kind op n name args outs params kids) then (false, st)
    else if kind == 10 then
      match kids with
      | a :: b :: _ =>
        if shUses f.types st args [2] then
          andQ (andQ (shGo u f (deep + 1) ⟨true, w.Loop, r8of f.types outs, w.Next, w.Left⟩ st a) (shFin a)) fun s1 =>
          andQ (andQ (shGo u f (deep + 1) ⟨true, w.Loop, r8of f.types outs, w.Next, w.Left⟩ s1 b) (shFin b)) fun s2 =>
          shTail f (.mk kind op n name args outs params kids) s2
        else (false, st)
      | _ => (false, st)
    else if kind == 11 then
      if shUses f.types st args (r8of f.types params) then
        andQ (shSets f.types st params (List.replicate params.length 0)) fun s1 =>
        match kids with
        | a :: _ =>
          andQ (andQ (shGo u f (deep + 1) ⟨false, true, [], r8of f.types params, r8of f.types outs⟩ s1 a) (shFin a)) fun s2 =>
          shTail f (.mk kind op n name args outs params kids) (shHide s2 params)
        | _ => (false, s1)
      else (false, st)
    else if r8Ender kind then (shEnd f st (.mk kind op n name args outs params kids) w, st)
    else shSimple u f st (.mk kind op n name args outs params kids)
def shGo (u : Un) (f : Fl) (deep : Int) (w : Wh) (st : List Int) : List Nd → Bool × List Int
  | [] => (true, st)
  | x :: r =>
    if deep > 100 then (false, st)
    else andQ (shNode u f deep w st x) fun s1 =>
      if r8Closed x != r.isEmpty then (false, s1)
      else shGo u f deep w s1 r
end
def shList (u : Un) (f : Fl) (deep : Int) (w : Wh) (st : List Int) (l : List Nd) : Bool × List Int := andQ (shGo u f deep w st l) (shFin l)
theorem andQ_length {r : Bool × List Int} {k : List Int → Bool × List Int} {n : Nat} (h1 : r.2.length = n) (h2 : ∀ s, s.length = n → (k s).2.length = n) : (andQ r k).2.length = n := by
  unfold andQ; split
  ·exact h2 _ h1
  exact h1
theorem shHideAll_length : ∀ (l : List Nd) (st : List Int), (shHideAll st l).length = st.length
  | [], _ => rfl
  | x :: r, st => by
    have := shHideAll_length r (shHide st x.outs)
    rw [shHide_length] at this
    simpa [shHideAll] using this
theorem shTail_length {f : Fl} {x : Nd} {st : List Int} {n : Nat} (h : st.length = n) : (shTail f x st).2.length = n := (andP_length (shSets_length ..)).trans h
theorem shFin_length {l : List Nd} {s : List Int} {n : Nat} (h : s.length = n) : (shFin l s).2.length = n := (shHideAll_length l s).trans h
mutual
theorem shNode_length (u : Un) (f : Fl) : ∀ (x : Nd) (deep : Int) (w : Wh) (st : List Int), (shNode u f deep w st x).2.length = st.length
  | .mk kind op n name args outs params kids, deep, w, st => by
    unfold shNode
    split
    ·rfl
    split
    ·match kids with
     | [] => rfl
     | [_] => rfl
     | a :: b :: _ =>
       simp only
       split
       ·exact andQ_length (andQ_length (shGo_length u f a ..) fun s hs => shFin_length hs) fun s hs => andQ_length (andQ_length ((shGo_length u f b ..).trans hs) fun s hs => shFin_length hs) fun s hs => shTail_length hs
       rfl
    split
    ·split
     ·refine andQ_length (shSets_length ..) fun s hs => ?_
      match kids with
      | [] => exact hs
      | a :: _ => exact andQ_length (andQ_length ((shGo_length u f a ..).trans hs) fun s hs => shFin_length hs) fun s hs => shTail_length ((shHide_length ..).trans hs)
     rfl
    split
    ·rfl
    exact shSimple_length ..
theorem shGo_length (u : Un) (f : Fl) : ∀ (l : List Nd) (deep : Int) (w : Wh) (st : List Int), (shGo u f deep w st l).2.length = st.length
  | [], _, _, _ => by simp [shGo]
  | x :: r, deep, w, st => by
    unfold shGo
    split
    ·rfl
    refine andQ_length (shNode_length u f x ..) fun s hs => ?_
    split
    ·exact hs
    exact (shGo_length u f r ..).trans hs
end
theorem shList_length (u : Un) (f : Fl) (deep : Int) (w : Wh) (st : List Int) (l : List Nd) : (shList u f deep w st l).2.length = st.length := andQ_length (shGo_length ..) fun _ h => shFin_length h
theorem shNode_bare (u : Un) (f : Fl) (deep : Int) (w : Wh) (st : List Int) {x : Nd} (h : r8bare x = false) : shNode u f deep w st x = (false, st) := by
  cases x; unfold shNode; simp [h]
theorem shNode_if (u : Un) (f : Fl) (deep : Int) (w : Wh) (st : List Int) {x : Nd} {a b : List Nd} (h : r8bare x = true) (hk : x.kind = 10) (hx : x.kids = [a, b]) :
    shNode u f deep w st x = if shUses f.types st x.args [2] then andQ (shList u f (deep + 1) ⟨true, w.Loop, r8of f.types x.outs, w.Next, w.Left⟩ st a) (fun s1 => andQ (shList u f (deep + 1) ⟨true, w.Loop, r8of f.types x.outs, w.Next, w.Left⟩ s1 b) fun s2 => shTail f x s2) else (false, st) := by
  cases x
  simp only [Nd.kind, Nd.kids] at hk hx
  subst hk hx
  unfold shNode
  simp only [h, Bool.not_true, Bool.false_eq_true, if_false, Nd.args, Nd.outs]
  rfl
theorem shNode_loop (u : Un) (f : Fl) (deep : Int) (w : Wh) (st : List Int) {x : Nd} {a : List Nd} (h : r8bare x = true) (hk : x.kind = 11) (hx : x.kids = [a]) :
    shNode u f deep w st x = if shUses f.types st x.args (r8of f.types x.params) then andQ (shSets f.types st x.params (List.replicate x.params.length 0)) (fun s1 => andQ (shList u f (deep + 1) ⟨false, true, [], r8of f.types x.params, r8of f.types x.outs⟩ s1 a) fun s2 => shTail f x (shHide s2 x.params)) else (false, st) := by
  cases x
  simp only [Nd.kind, Nd.kids] at hk hx
  subst hk hx
  unfold shNode
  simp only [h, Bool.not_true, Bool.false_eq_true, if_false, Nd.args, Nd.outs, Nd.params]
  rfl
theorem shNode_end (u : Un) (f : Fl) (deep : Int) (w : Wh) (st : List Int) {x : Nd} (h : r8bare x = true) (h1 : (x.kind == 10) = false) (h2 : (x.kind == 11) = false) (h3 : r8Ender x.kind = true) : shNode u f deep w st x = (shEnd f st x w, st) := by
  cases x
  simp only [Nd.kind] at h1 h2 h3
  unfold shNode
  simp [h, h1, h2, h3]
theorem shNode_simple (u : Un) (f : Fl) (deep : Int) (w : Wh) (st : List Int) {x : Nd} (h : r8bare x = true) (h1 : (x.kind == 10) = false) (h2 : (x.kind == 11) = false) (h3 : r8Ender x.kind = false) : shNode u f deep w st x = shSimple u f st x := by
  cases x
  simp only [Nd.kind] at h1 h2 h3
  unfold shNode
  simp [h, h1, h2, h3]
theorem andP_true {S : Type} {b : Bool} {s : S} {r : Bool × S} (h : (andP b s r).1 = true) : b = true ∧ r.1 = true := by
  unfold andP at h; split at h
  ·rename_i hb; exact ⟨hb, h⟩
  cases h
theorem andQ_true {S : Type} {r : Bool × S} {k : S → Bool × S} (h : (andQ r k).1 = true) : r.1 = true ∧ (k r.2).1 = true := by
  unfold andQ at h; split at h
  ·rename_i hb; exact ⟨hb, h⟩
  cases h
theorem shTail_outs {f : Fl} {x : Nd} {st : List Int} (h : (shTail f x st).1 = true) : ∀ v ∈ x.outs, 0 ≤ v ∧ v < f.types.length := shSets_in (andP_true h).2
theorem shSimple_outs {u : Un} {f : Fl} {st : List Int} {x : Nd} (h : (shSimple u f st x).1 = true) : ∀ v ∈ x.outs, 0 ≤ v ∧ v < f.types.length := by
  unfold shSimple shSum shCall at h
  repeat' split at h
  all_goals first
    | exact shSets_in (andP_true h).2
    | cases h
theorem shEnd_outs {f : Fl} {st : List Int} {x : Nd} {w : Wh} (h : shEnd f st x w = true) : x.outs = [] := by
  unfold shEnd at h
  have key : ∀ b : Bool, ((x.outs.length : Int) == 0 && b) = true → x.outs = [] := fun b hb => by
    simp only [Bool.and_eq_true, beq_iff_eq] at hb
    exact List.eq_nil_of_length_eq_zero (by omega)
  repeat' split at h
  all_goals first
    | exact key _ h
    | (rw [Bool.and_assoc] at h; exact key _ h)
theorem shNode_outs {u : Un} {f : Fl} {deep : Int} {w : Wh} {st : List Int} {x : Nd} (h : (shNode u f deep w st x).1 = true) : ∀ v ∈ x.outs, 0 ≤ v ∧ v < f.types.length := by
  cases hb : r8bare x with
  | false => rw [shNode_bare _ _ _ _ _ hb] at h; cases h
  | true =>
    by_cases h10 : x.kind = 10
    ·obtain ⟨a, b, hk⟩ := r8bare_if hb h10
     rw [shNode_if _ _ _ _ _ hb h10 hk] at h
     split at h
     ·exact shTail_outs (andQ_true (andQ_true h).2).2
     cases h
    by_cases h11 : x.kind = 11
    ·obtain ⟨a, hk⟩ := r8bare_loop hb h11
     rw [shNode_loop _ _ _ _ _ hb h11 hk] at h
     split at h
     ·exact shTail_outs (andQ_true (andQ_true h).2).2
     cases h
    have e10 : (x.kind == 10) = false := by simpa using h10
    have e11 : (x.kind == 11) = false := by simpa using h11
    cases he : r8Ender x.kind with
    | true => rw [shNode_end _ _ _ _ _ hb e10 e11 he] at h; intro v hv; rw [shEnd_outs h] at hv; simp at hv
    | false => rw [shNode_simple _ _ _ _ _ hb e10 e11 he] at h; exact shSimple_outs h
theorem shGo_outs {u : Un} {f : Fl} {deep : Int} {w : Wh} : ∀ {l : List Nd} {st : List Int}, (shGo u f deep w st l).1 = true → ∀ x ∈ l, ∀ v ∈ x.outs, 0 ≤ v ∧ v < f.types.length
  | [], _, _, x, hx => by simp at hx
  | y :: r, st, h, x, hx => by
    unfold shGo at h
    split at h
    ·cases h
    obtain ⟨h1, h2⟩ := andQ_true h
    split at h2
    ·cases h2
    rcases List.mem_cons.1 hx with rfl | hx
    ·exact shNode_outs h1
    exact shGo_outs h2 x hx
theorem ndW_mem : ∀ {l : List Nd} {x : Nd}, x ∈ l → ndW x ≤ lsW l
  | y :: r, x, h => by
    rcases List.mem_cons.1 h with rfl | h
    ·simp only [lsW]; omega
    have := ndW_mem h; simp only [lsW]; omega
theorem kdW_mem : ∀ {ks : List (List Nd)} {q : List Nd}, q ∈ ks → lsW q ≤ kdW ks
  | y :: r, x, h => by
    rcases List.mem_cons.1 h with rfl | h
    ·simp only [kdW]; omega
    have := kdW_mem h; simp only [kdW]; omega
def seens (k n : Nat) : List Int := List.replicate k 1 ++ List.replicate (n - k) 0
def shFlow (u : Un) (f : Fl) : Bool := !(decide (f.params > 8) || decide ((f.types.length : Int) > 20000) || f.types.any (fun t => !isTy t)) && (shList u f 1 r8where0 (seens f.params.toNat f.types.length) f.body).1
theorem seens_length {k n : Nat} (h : k ≤ n) : (seens k n).length = n := by simp [seens]; omega
theorem seens_set {k n : Nat} (h : k < n) : (seens k n).set k 1 = seens (k + 1) n := by
  unfold seens
  rw [List.set_append_right _ _ (by simp), List.length_replicate, Nat.sub_self]
  have : n - k = (n - (k + 1)) + 1 := by omega
  rw [this, List.replicate_succ, List.set_cons_zero, List.replicate_succ', List.append_assoc]
  rfl
def bump (s : ByteArray) (es : List (Value × PV)) : List (Value × PV) :=
  mput (.string s) (match mfind (.string s) es with | some (.val (.int .i64 n)) => .val (.int .i64 (IntKind.i64.wrap (n + 1))) | _ => .val (.int .i64 1)) es
def shArr (a : Ar) : Bool := isName a.name && !decide (a.size < 1) && !decide (a.size > 1000)
def shFlw (f : Fl) : Bool := isName f.name && isTy f.ty && !decide (f.params < 0) && !decide (f.params > f.types.length)
def countA (es : List (Value × PV)) (l : List Ar) : List (Value × PV) := l.foldl (fun e a => bump a.name e) es
def countF (es : List (Value × PV)) (l : List Fl) : List (Value × PV) := l.foldl (fun e a => bump a.name e) es
def shHead (u : Un) : Bool := u.arrays.all shArr && u.flows.all shFlw && ((countF (countA [] u.arrays) u.flows).length : Int) == u.arrays.length + u.flows.length && r8main u
def shflows (u : Un) : List Fl → Int → Int × Int
  | [], _ => (0, 0)
  | f :: r, i => if shFlow u f then shflows u r (i + 1) else (80, i)
def shCheck (u : Un) : Int × Int := if shHead u then shflows u u.flows 0 else (1, 0)
theorem shHead_params {u : Un} (h : shHead u = true) : ∀ g ∈ u.flows, 0 ≤ g.params ∧ g.params ≤ g.types.length := by
  simp only [shHead, Bool.and_eq_true, List.all_eq_true] at h
  intro g hg
  have := h.1.1.2 g hg
  simp only [shFlw, Bool.and_eq_true, Bool.not_eq_true', decide_eq_false_iff_not] at this
  omega
theorem takeWhile_len {α : Type} {p : α → Bool} : ∀ {l : List α} {k : Nat} {x : α}, (l.take k).all p = true → l[k]? = some x → p x = false → (l.takeWhile p).length = k ∧ l.all p = false
  | [], k, x, _, h, _ => by simp at h
  | a :: r, 0, x, _, h, hx => by
    simp only [List.getElem?_cons_zero, Option.some.injEq] at h
    subst h
    simp [hx]
  | a :: r, k + 1, x, h, hg, hx => by
    simp only [List.take_succ_cons, List.all_cons, Bool.and_eq_true] at h
    obtain ⟨h1, h2⟩ := takeWhile_len h.2 (by simpa using hg) hx
    simp [h.1, h1, h2]
def runOf (s : ByteArray) : ByteArray := if s.toList.all isLD then s else s.extract 0 (s.toList.takeWhile isLD).length
theorem runOf_at {s : ByteArray} {k : Nat} {b : UInt8} (h : (s.toList.take k).all isLD = true) (hb : s.toList[k]? = some b) (hn : isLD b = false) : runOf s = s.extract 0 k := by
  obtain ⟨h1, h2⟩ := takeWhile_len h hb hn
  simp [runOf, h1, h2]
theorem runOf_eq (s : ByteArray) : ((runOf s).toList == s.toList) = s.toList.all isLD := by
  unfold runOf
  cases h : s.toList.all isLD with
  | true => simp
  | false =>
    simp only [Bool.false_eq_true, if_false]
    have hlt : (s.toList.takeWhile isLD).length < s.toList.length := by
      rcases Nat.lt_or_ge (s.toList.takeWhile isLD).length s.toList.length with h1 | h1
      ·exact h1
      have hp := List.takeWhile_prefix (l := s.toList) isLD
      have he := hp.eq_of_length_le h1
      have : s.toList.all isLD = true := by rw [← he]; exact List.all_takeWhile
      rw [h] at this; cases this
    have hne : (s.extract 0 (s.toList.takeWhile isLD).length).toList ≠ s.toList := by
      intro he
      have := congrArg List.length he
      rw [ba_len, ByteArray.size_extract, ba_len] at this
      rw [ba_len] at hlt
      omega
    simpa using hne
theorem decode_low {s : ByteArray} {k : Nat} (h : k < s.toList.length) : ((s.toList[k]).toNat < 128 → Utf8.decode s k = ((s.toList[k]).toNat, 1)) ∧ (128 ≤ (s.toList[k]).toNat → 128 ≤ (Utf8.decode s k).1) := by
  have hk : k < s.size := by rwa [ba_len] at h
  have e0 : s.get! (k + 0) = s.toList[k] := by
    have h2 := ba_get h
    rw [getElem?_pos s k hk] at h2
    rw [← Option.some.inj h2]
    show s.get! k = _
    simp [ByteArray.get!, getElem!_pos, hk]
    rfl
  refine ⟨fun hb => ?_, fun hb => ?_⟩
  ·simp only [Utf8.decode, e0, hb, if_true]
  have hn : ¬ (s.toList[k]).toNat < 128 := by omega
  simp only [Utf8.decode, e0]
  rw [if_neg (by simpa using hn)]
  repeat' split
  all_goals first
    | (simp [Utf8.runeError]; done)
    | (rename_i hc; simp only [ge_iff_le, Bool.and_eq_true, decide_eq_true_eq] at hc; simp only; omega)
def isLDr (r : Int) : Bool := isLetter r || isDigit r
theorem isLDr_low {r : Int} (h : isLDr r = true) : r < 128 := by
  simp only [isLDr, isLetter, isDigit, Bool.or_eq_true, Bool.and_eq_true, decide_eq_true_eq, beq_iff_eq] at h
  omega
theorem decode_ld {s : ByteArray} {k : Nat} (h : k < s.toList.length) : (isLDr (Utf8.decode s k).1 = true → (Utf8.decode s k).2 = 1 ∧ isLD s.toList[k] = true) ∧ (isLDr (Utf8.decode s k).1 = false → isLD s.toList[k] = false) := by
  obtain ⟨h1, h2⟩ := decode_low h
  by_cases hb : (s.toList[k]).toNat < 128
  ·rw [h1 hb]
   exact ⟨fun h => ⟨rfl, h⟩, fun h => h⟩
  have h3 := h2 (by omega)
  refine ⟨fun hl => ?_, fun _ => ?_⟩
  ·have := isLDr_low hl; omega
  cases hd : isLD s.toList[k] with
  | false => rfl
  | true => have := isLDr_low (r := ((s.toList[k]).toNat : Int)) hd; omega
def Cnt (es : List (Value × PV)) : Prop := (∀ e ∈ es, isKeyB .string e.1 = true) ∧ ∀ e ∈ es, ∃ n, e.2 = vInt n
theorem mput_mem {k : Value} {v : PV} : ∀ {es : List (Value × PV)} {e : Value × PV}, e ∈ mput k v es → e = (k, v) ∨ e ∈ es
  | [], e, h => by simp [mput] at h; exact .inl h
  | (a, p) :: r, e, h => by
    simp only [mput] at h
    split at h
    ·rcases List.mem_cons.1 h with rfl | h
     ·exact .inl rfl
     exact .inr (.tail _ h)
    rcases List.mem_cons.1 h with rfl | h
    ·exact .inr (.head _)
    rcases mput_mem h with h | h
    ·exact .inl h
    exact .inr (.tail _ h)
theorem mfind_mem {k : Value} {p : PV} : ∀ {es : List (Value × PV)}, mfind k es = some p → ∃ a, (a, p) ∈ es
  | (a, q) :: r, h => by
    simp only [mfind] at h
    split at h
    ·cases h; exact ⟨a, .head _⟩
    obtain ⟨b, hb⟩ := mfind_mem h; exact ⟨b, .tail _ hb⟩
theorem Cnt.find {es : List (Value × PV)} (h : Cnt es) (k : Value) : ∃ n, (mfind k es).getD (.val (.int .i64 0)) = vInt n := by
  cases hf : mfind k es with
  | none => exact ⟨0, rfl⟩
  | some p => obtain ⟨a, ha⟩ := mfind_mem hf; obtain ⟨n, hn⟩ := h.2 _ ha; exact ⟨n, hn⟩
theorem bump_eq {es : List (Value × PV)} {s : ByteArray} {n : Int} (h : (mfind (.string s) es).getD (.val (.int .i64 0)) = vInt n) : bump s es = mput (.string s) (vInt (IntKind.i64.wrap (n + 1))) es := by
  unfold bump
  cases hf : mfind (.string s) es with
  | none =>
    rw [hf] at h
    simp only [Option.getD_none, vInt, PV.val.injEq, Value.int.injEq, true_and] at h
    subst h
    rfl
  | some p =>
    rw [hf] at h
    simp only [Option.getD_some] at h
    subst h
    rfl
theorem Cnt.bump {es : List (Value × PV)} (h : Cnt es) (s : ByteArray) : Cnt (bump s es) := by
  obtain ⟨n, hn⟩ := h.find (.string s)
  rw [bump_eq hn]
  refine ⟨fun e he => ?_, fun e he => ?_⟩
  ·rcases mput_mem he with rfl | he
   ·rfl
   exact h.1 e he
  rcases mput_mem he with rfl | he
  ·exact ⟨_, rfl⟩
  exact h.2 e he
theorem Cnt.nil : Cnt [] := ⟨fun _ h => by simp at h, fun _ h => by simp at h⟩
structure Rl (n : Nat) (st : List Int) (set : List Bool) (seen : List Int) : Prop where
  l1 : st.length = n
  l2 : set.length = n
  s : ∀ v : Nat, v < n → set.getD v false = !(st.getD v 0 == 0)
  u : ∀ v : Nat, v < n → seen.contains (v : Int) = (st.getD v 0 == 1)
theorem getD_set {α : Type} {l : List α} {i j : Nat} {a d : α} : (l.set i a).getD j d = if i = j ∧ i < l.length then a else l.getD j d := by
  simp only [List.getD_eq_getElem?_getD, List.getElem?_set]
  by_cases h : i = j
  ·subst h
   by_cases h2 : i < l.length
   ·simp [h2]
   simp [h2]
  simp [h]
theorem use_rl {tys st : List Int} {set : List Bool} {seen : List Int} (h : Rl tys.length st set seen) (v w : Int) : r8use tys seen v w = (shUse tys st v w).1 := by
  unfold r8use shUse shVal
  by_cases h0 : 0 ≤ v
  ·by_cases h1 : v < tys.length
   ·have hv : v = (v.toNat : Int) := by omega
    have hu := h.u v.toNat (by omega)
    rw [← hv] at hu
    have e1 : decide (v < 0) = false := by simpa using h0
    have e2 : decide (v ≥ tys.length) = false := by simpa using h1
    have e3 : decide (0 ≤ v) = true := by simpa using h0
    have e4 : decide (v < tys.length) = true := by simpa using h1
    simp only [e1, e2, e3, e4, hu, Bool.false_or, Bool.true_and]
    clear hv e1 e2 e3 e4
    cases hw : (w == 0) <;> cases ht : (tys.getD v.toNat 0 == w) <;> cases hs : (st.getD v.toNat 0 == 1) <;> simp_all [bne]
   have e2 : decide (v ≥ tys.length) = true := by simp; omega
   have e4 : decide (v < tys.length) = false := by simp; omega
   simp [e2, e4]
  have e1 : decide (v < 0) = true := by simp; omega
  have e3 : decide (0 ≤ v) = false := by simp; omega
  simp [e1, e3]
theorem usesGo_rl {tys st : List Int} {set : List Bool} {seen : List Int} (h : Rl tys.length st set seen) : ∀ (a b : List Int), r8typesGo tys seen a b = (eqGo (shUse tys) st a b).1
  | [], _ => by simp [r8typesGo, eqGo]
  | _ :: _, [] => by simp [r8typesGo, eqGo]
  | x :: a, y :: b => by
    simp only [r8typesGo, eqGo, use_rl h x y]
    have h2 : (shUse tys st x y).2 = st := rfl
    cases hx : (shUse tys st x y).1 with
    | true => simp [h2, usesGo_rl h a b]
    | false => simp
theorem uses_rl {tys st : List Int} {set : List Bool} {seen : List Int} (h : Rl tys.length st set seen) (a b : List Int) : r8types tys seen a b = shUses tys st a b := by
  unfold r8types shUses eqf
  by_cases hl : (a.length : Int) = b.length
  ·rw [if_pos hl]
   have : ((a.length : Int) == b.length) = true := by simpa using hl
   rw [this, Bool.true_and, usesGo_rl h]
  rw [if_neg hl]
  have : ((a.length : Int) == b.length) = false := by simpa using hl
  rw [this, Bool.false_and]
theorem set1_rl {tys st : List Int} {set : List Bool} {seen : List Int} (h : Rl tys.length st set seen) (v w : Int) :
    r8bad tys set v w = !(shSet1 tys st v w).1 ∧ ((shSet1 tys st v w).1 = true → Rl tys.length (shSet1 tys st v w).2 (set.set v.toNat true) (seen ++ [v]) ∧ 0 ≤ v ∧ v < tys.length ∧ seen.contains v = false) := by
  unfold r8bad shSet1 shVal
  by_cases h0 : 0 ≤ v
  ·by_cases h1 : v < tys.length
   ·have hv : v = (v.toNat : Int) := by omega
    have hn : v.toNat < tys.length := by omega
    have hs := h.s v.toNat hn
    have hu := h.u v.toNat hn
    rw [← hv] at hu
    have e1 : decide (v < 0) = false := by simpa using h0
    have e2 : decide (v ≥ tys.length) = false := by simpa using h1
    have e3 : decide (0 ≤ v) = true := by simpa using h0
    have e4 : decide (v < tys.length) = true := by simpa using h1
    simp only [e1, e2, e3, e4, hs, Bool.false_or, Bool.true_and]
    refine ⟨by clear hv e1 e2 e3 e4; cases hw : (w == 0) <;> cases ht : (tys.getD v.toNat 0 == w) <;> cases hz : (st.getD v.toNat 0 == 0) <;> simp_all [bne], fun hc => ?_⟩
    split at hc
    ·rename_i hif
     rw [if_pos hif]
     simp only [Bool.and_eq_true] at hif
     have hz : st.getD v.toNat 0 = 0 := by simpa using hif.2
     refine ⟨⟨by simpa using h.l1, by simpa using h.l2, fun j hj => ?_, fun j hj => ?_⟩, h0, h1, by rw [hu, hz]; rfl⟩
     ·rw [getD_set, getD_set]
      by_cases e : v.toNat = j
      ·subst e; simp [h.l1, h.l2, hn]
      simp only [e, false_and, if_false]; exact h.s j hj
     rw [getD_set]
     simp only [List.contains_append, List.contains_cons, List.contains_nil, Bool.or_false]
     by_cases e : v.toNat = j
     ·subst e
      have : ((v.toNat : Int) == v) = true := by simpa using hv.symm
      rw [this, Bool.or_true, if_pos ⟨rfl, by rw [h.l1]; exact hn⟩]; rfl
     have : ((j : Int) == v) = false := by simp; omega
     simp only [e, false_and, if_false, this, Bool.or_false]
     exact h.u j hj
    cases hc
   have e2 : decide (v ≥ tys.length) = true := by simp; omega
   have e4 : decide (v < tys.length) = false := by simp; omega
   simp [e2, e4]
  have e1 : decide (v < 0) = true := by simp; omega
  have e3 : decide (0 ≤ v) = false := by simp; omega
  simp [e1, e3]
theorem setsGo_rl {tys : List Int} : ∀ (a b st : List Int) (set : List Bool) (seen : List Int), a.length = b.length → Rl tys.length st set seen →
    (r8setsGo tys set a b).1 = (eqGo (shSet1 tys) st a b).1 ∧ ((eqGo (shSet1 tys) st a b).1 = true → Rl tys.length (eqGo (shSet1 tys) st a b).2 (r8setsGo tys set a b).2 (seen ++ a) ∧ ∀ v ∈ a, 0 ≤ v ∧ v < tys.length ∧ seen.contains v = false)
  | [], _, st, set, seen, _, h => by simp [r8setsGo, eqGo]; exact h
  | _ :: _, [], _, _, _, hl, _ => by simp at hl
  | x :: a, y :: b, st, set, seen, hl, h => by
    obtain ⟨h1, h2⟩ := set1_rl h x y
    simp only [r8setsGo, eqGo, h1]
    cases hx : (shSet1 tys st x y).1 with
    | false => simp
    | true =>
      obtain ⟨h3, h4, h5, h6⟩ := h2 hx
      obtain ⟨ih1, ih2⟩ := setsGo_rl a b _ _ _ (by simpa using hl) h3
      simp only [Bool.not_true, Bool.false_eq_true, if_false, if_true]
      refine ⟨ih1, fun hc => ?_⟩
      obtain ⟨h7, h8⟩ := ih2 hc
      refine ⟨by simpa using h7, fun v hv => ?_⟩
      rcases List.mem_cons.1 hv with rfl | hv
      ·exact ⟨h4, h5, h6⟩
      obtain ⟨g1, g2, g3⟩ := h8 v hv
      refine ⟨g1, g2, ?_⟩
      rw [List.contains_append, Bool.or_eq_false_iff] at g3
      exact g3.1
theorem sets_rl {tys st : List Int} {set : List Bool} {seen : List Int} (h : Rl tys.length st set seen) (a b : List Int) :
    (r8sets tys set a b).1 = (shSets tys st a b).1 ∧ ((shSets tys st a b).1 = true → Rl tys.length (shSets tys st a b).2 (r8sets tys set a b).2 (seen ++ a) ∧ ∀ v ∈ a, 0 ≤ v ∧ v < tys.length ∧ seen.contains v = false) := by
  unfold r8sets shSets eqf
  by_cases hl : (a.length : Int) = b.length
  ·have e : ((a.length : Int) == b.length) = true := by simpa using hl
   rw [if_pos hl, if_pos e]
   exact setsGo_rl a b st set seen (by omega) h
  have e : ¬ ((a.length : Int) == b.length) = true := by simpa using hl
  rw [if_neg hl, if_neg e]
  simp
theorem hide_rl {n : Nat} : ∀ (l st : List Int) (set : List Bool) (seen rest : List Int), (∀ v ∈ l, 0 ≤ v ∧ v < n ∧ rest.contains v = false) → (∀ v ∈ l, st.getD v.toNat 0 ≠ 0) → st.length = n → set.length = n →
    (∀ v : Nat, v < n → set.getD v false = !(st.getD v 0 == 0)) → (∀ v : Nat, v < n → l.contains (v : Int) = false → rest.contains (v : Int) = (st.getD v 0 == 1)) → Rl n (shHide st l) set rest
  | [], st, set, _, rest, _, _, h1, h2, h3, h4 => ⟨h1, h2, h3, fun v hv => h4 v hv rfl⟩
  | x :: l, st, set, seen, rest, hin, hnz, h1, h2, h3, h4 => by
    obtain ⟨hx0, hx1, hx2⟩ := hin x (.head _)
    have hxn : x.toNat < n := by omega
    show Rl n (shHide (st.set x.toNat 2) l) set rest
    have hg : ∀ j, (st.set x.toNat 2).getD j 0 = if x.toNat = j then 2 else st.getD j 0 := fun j => by
      rw [getD_set]; simp [h1, hxn]
    -- hidden values are no more among the seen
    have key : ∀ v : Nat, v < n → l.contains (v : Int) = false → rest.contains (v : Int) = ((st.set x.toNat 2).getD v 0 == 1) := by
      intro v hv hl
      rw [hg]
      by_cases e : x.toNat = v
      ·have hv2 : (v : Int) = x := by omega
       rw [if_pos e, hv2, hx2]; rfl
      rw [if_neg e]
      refine h4 v hv ?_
      have : ((v : Int) == x) = false := by simp; omega
      rw [List.contains_cons, this, hl]; rfl
    refine hide_rl l (st.set x.toNat 2) set seen rest (fun v hv => hin v (.tail _ hv)) (fun v hv => ?_) (by simpa using h1) h2 (fun v hv => ?_) key
    ·rw [hg]; split
     ·decide
     exact hnz v (.tail _ hv)
    rw [hg, h3 v hv]
    split
    ·rename_i e
     have := hnz x (.head _)
     rw [e] at this
     have hb : (st.getD v 0 == 0) = false := by simpa using this
     rw [hb]; rfl
    rfl
def PR (n : Nat) (seen outs : List Int) (r : Bool × List Int) (q : Bool × List Bool) : Prop :=
  q.1 = r.1 ∧ (r.1 = true → Rl n r.2 q.2 (seen ++ outs) ∧ ∀ v ∈ outs, 0 ≤ v ∧ v < n ∧ seen.contains v = false)
theorem PR.no {n : Nat} {seen outs : List Int} {st : List Int} {set : List Bool} : PR n seen outs (false, st) (false, set) := ⟨rfl, fun h => by cases h⟩
theorem fin_rl {tys st : List Int} {set : List Bool} {seen : List Int} (h : Rl tys.length st set seen) {b b' : Bool} (hb : b = b') (outs want : List Int) : PR tys.length seen outs (andP b st (shSets tys st outs want)) (andS b' set (r8sets tys set outs want)) := by
  subst hb
  cases b with
  | false => exact .no
  | true => exact sets_rl h outs want
theorem nil_rl {tys st : List Int} {set : List Bool} {seen : List Int} (h : Rl tys.length st set seen) {b b' : Bool} (hb : b = b') (outs : List Int) : PR tys.length seen outs (andP b st (shSets tys st outs [])) (b' && (outs.length : Int) == 0, set) := by
  subst hb
  cases b with
  | false => exact .no
  | true =>
    cases outs with
    | nil => exact ⟨rfl, fun _ => ⟨by rw [List.append_nil]; exact h, fun v hv => by simp at hv⟩⟩
    | cons v r =>
      have e : ¬ (((v :: r).length : Int) = (([] : List Int).length : Int)) := by simp; omega
      have e2 : (((v :: r).length : Int) == 0) = false := by simp; omega
      simp only [andP, if_true, shSets, eqf, if_neg e, e2, Bool.and_false]
      exact .no
theorem end_rl {n : Nat} {st : List Int} {set : List Bool} {seen : List Int} (h : Rl n st set seen) {b b' : Bool} (hb : b = b') {outs : List Int} (ho : b = true → outs = []) : PR n seen outs (b, st) (b', set) := by
  subst hb
  refine ⟨rfl, fun hb => ?_⟩
  rw [ho hb]
  exact ⟨by simpa using h, fun v hv => by simp at hv⟩
theorem operand_two {op : Int} (h : r1IsTwo op = true) : shOperand op = r5Operand op := by
  simp only [r1IsTwo, Bool.and_eq_true, decide_eq_true_eq] at h
  have h18 : (op == 18) = false := by simp; omega
  have h19 : (op == 19) = false := by simp; omega
  have h22 : (op == 22) = false := by simp; omega
  simp only [shOperand, r5Operand, h18, h19, h22, Bool.or_false, Bool.false_eq_true, if_false]
theorem operand_one {op : Int} (h : r1IsOne op = true) : shOperand op = r5Operand op := by
  simp only [r1IsOne, Bool.and_eq_true, decide_eq_true_eq] at h
  have h18 : (op == 18) = false := by simp; omega
  have h19 : (op == 19) = false := by simp; omega
  simp only [shOperand, r5Operand, h18, h19, Bool.false_or]
theorem level_two (op : Int) : (decide (wLevel op > 0) && decide (op ≤ 17)) = r1IsTwo op := by
  by_cases h0 : op < 0
  ·have : wLevel op = 0 := by simp [wLevel, h0]
   have h2 : r1IsTwo op = false := by simp [r1IsTwo]; omega
   rw [this, h2]; rfl
  by_cases h1 : op ≥ 29
  ·have : wLevel op = 0 := by simp [wLevel, h1]
   have h2 : r1IsTwo op = false := by simp [r1IsTwo]; omega
   rw [this, h2]; rfl
  rcases below29 (op := op) (by omega) (by omega) with rfl | rfl | rfl | rfl | rfl | rfl | rfl | rfl | rfl | rfl | rfl | rfl | rfl | rfl | rfl | rfl | rfl | rfl | rfl | rfl | rfl | rfl | rfl | rfl | rfl | rfl | rfl | rfl | rfl <;> rfl
theorem simple_rl (u : Un) (f : Fl) {st : List Int} {set : List Bool} {seen : List Int} (h : Rl f.types.length st set seen) (x : Nd) (w : Wh) :
    PR f.types.length seen x.outs (if r8Ender x.kind then (shEnd f st x w, st) else shSimple u f st x) (r8simple u f set x seen w) := by
  have U := fun want => (uses_rl h x.args want).symm
  have hlen : ∀ b, shUses f.types st x.args [] = b → ((x.args.length : Int) == 0) = b := fun b hb => by
    rw [← hb]
    unfold shUses eqf
    cases x.args with
    | nil => rfl
    | cons a r =>
      have e : ¬ (((a :: r).length : Int) = (([] : List Int).length : Int)) := by simp; omega
      have e2 : (((a :: r).length : Int) == 0) = false := by simp; omega
      rw [if_neg e, e2]
  unfold r8simple shSimple shEnd shSum shCall r8call
  by_cases k1 : x.kind = 1
  ·simp only [k1, r8Ender]; exact fin_rl h (U _) _ _
  by_cases k2 : x.kind = 2
  ·simp only [k2, r8Ender]; exact fin_rl h (by rw [U]) _ _
  by_cases k3 : x.kind = 3
  ·simp only [k3, r8Ender]
   cases ho : r1IsOne x.op with
   | false => exact .no
   | true => rw [operand_one ho]; exact fin_rl h (by rw [U]) _ _
  by_cases k4 : x.kind = 4
  ·simp only [k4, r8Ender, level_two]
   cases ho : r1IsTwo x.op with
   | false => exact .no
   | true => rw [operand_two ho]; exact fin_rl h (by rw [U]) _ _
  by_cases k5 : x.kind = 5
  ·simp only [k5, r8Ender]; exact fin_rl h (by rw [U]) _ _
  by_cases k6 : x.kind = 6
  ·simp only [k6, r8Ender]; exact nil_rl h (by rw [U]) _
  by_cases k7 : x.kind = 7
  ·simp only [k7, r8Ender]
   by_cases hp : r8Place x.name u.flows 0 < 0
   ·have e : ¬ (decide (r8Place x.name u.flows 0 ≥ 0)) = true := by simp; omega
    simp only [if_pos hp, if_neg e]
    exact .no
   have e : (decide (r8Place x.name u.flows 0 ≥ 0)) = true := by simp; omega
   simp only [if_neg hp, if_pos e]
   cases u.flows[(r8Place x.name u.flows 0).toNat]? with
   | none => exact .no
   | some g => exact fin_rl h (U _) _ _
  by_cases k8 : x.kind = 8
  ·simp only [k8, r8Ender]; exact fin_rl h (hlen _ rfl).symm _ _
  by_cases k9 : x.kind = 9
  ·simp only [k9, r8Ender]; exact nil_rl h (U _) _
  have out0 : ∀ c : Bool, ((x.outs.length : Int) == 0 && c) = true → x.outs = [] := fun c hc => by
    simp only [Bool.and_eq_true, beq_iff_eq] at hc
    exact List.eq_nil_of_length_eq_zero (by omega)
  by_cases k12 : x.kind = 12
  ·simp only [k12, r8Ender]
   show PR _ _ _ ((x.outs.length : Int) == 0 && w.If && shUses f.types st x.args w.Yield, st) (w.If && r8types f.types seen x.args w.Yield && (x.outs.length : Int) == 0, set)
   exact end_rl h (by rw [← U]; cases (w.If) <;> cases ((x.outs.length : Int) == 0) <;> simp) (fun hb => by rw [Bool.and_assoc] at hb; exact out0 _ hb)
  by_cases k13 : x.kind = 13
  ·simp only [k13, r8Ender]
   show PR _ _ _ ((x.outs.length : Int) == 0 && w.Loop && shUses f.types st x.args w.Next, st) (w.Loop && r8types f.types seen x.args w.Next && (x.outs.length : Int) == 0, set)
   exact end_rl h (by rw [← U]; cases (w.Loop) <;> cases ((x.outs.length : Int) == 0) <;> simp) (fun hb => by rw [Bool.and_assoc] at hb; exact out0 _ hb)
  by_cases k14 : x.kind = 14
  ·simp only [k14, r8Ender]
   show PR _ _ _ ((x.outs.length : Int) == 0 && w.Loop && shUses f.types st x.args w.Left, st) (w.Loop && r8types f.types seen x.args w.Left && (x.outs.length : Int) == 0, set)
   exact end_rl h (by rw [← U]; cases (w.Loop) <;> cases ((x.outs.length : Int) == 0) <;> simp) (fun hb => by rw [Bool.and_assoc] at hb; exact out0 _ hb)
  by_cases k15 : x.kind = 15
  ·simp only [k15, r8Ender]
   show PR _ _ _ ((x.outs.length : Int) == 0 && shUses f.types st x.args [f.ty], st) (r8types f.types seen x.args [f.ty] && (x.outs.length : Int) == 0, set)
   exact end_rl h (by rw [← U]; exact Bool.and_comm _ _) (fun hb => out0 _ hb)
  have e1 : (x.kind == 1) = false := by simpa using k1
  have e2 : (x.kind == 2) = false := by simpa using k2
  have e3 : (x.kind == 3) = false := by simpa using k3
  have e4 : (x.kind == 4) = false := by simpa using k4
  have e5 : (x.kind == 5) = false := by simpa using k5
  have e6 : (x.kind == 6) = false := by simpa using k6
  have e7 : (x.kind == 7) = false := by simpa using k7
  have e8 : (x.kind == 8) = false := by simpa using k8
  have e9 : (x.kind == 9) = false := by simpa using k9
  have e12 : (x.kind == 12) = false := by simpa using k12
  have e13 : (x.kind == 13) = false := by simpa using k13
  have e14 : (x.kind == 14) = false := by simpa using k14
  have e15 : (x.kind == 15) = false := by simpa using k15
  have ee : r8Ender x.kind = false := by simp [r8Ender]; omega
  simp only [e1, e2, e3, e4, e5, e6, e7, e8, e9, e12, e13, e14, e15, ee, Bool.false_eq_true, if_false, Bool.or_false]
  exact .no
theorem hideAll_eq : ∀ (l : List Nd) (st : List Int), shHideAll st l = shHide st (l.flatMap Nd.outs)
  | [], _ => rfl
  | x :: r, st => by
    have := hideAll_eq r (shHide st x.outs)
    simp only [shHideAll, List.foldl_cons, List.flatMap_cons, shHide, List.foldl_append] at this ⊢
    exact this
theorem hidden_rl {n : Nat} {st : List Int} {set : List Bool} {all l : List Int} (h : Rl n st set (all ++ l)) (hl : ∀ v ∈ l, 0 ≤ v ∧ v < n ∧ all.contains v = false) : Rl n (shHide st l) set all := by
  refine hide_rl l st set [] all hl (fun v hv => ?_) h.l1 h.l2 h.s (fun v hv hc => ?_)
  ·obtain ⟨h0, h1, _⟩ := hl v hv
   have hu := h.u v.toNat (by omega)
   have hc : (all ++ l).contains ((v.toNat : Nat) : Int) = true := by
     rw [show ((v.toNat : Nat) : Int) = v by omega]
     simp [hv]
   rw [hc] at hu
   have : st.getD v.toNat 0 = 1 := by simpa using hu.symm
   rw [this]; decide
  have hu := h.u v hv
  rw [List.contains_append, hc, Bool.or_false] at hu
  exact hu
def LR (u : Un) (f : Fl) (l : List Nd) : Prop := ∀ (deep : Int) (w : Wh) (st : List Int) (set : List Bool) (seen : List Int), Rl f.types.length st set seen →
  (r8list u f deep w seen set l).1 = (shList u f deep w st l).1 ∧ ((shList u f deep w st l).1 = true → Rl f.types.length (shList u f deep w st l).2 (r8list u f deep w seen set l).2 seen)
theorem andT_PR {n : Nat} {seen outs : List Int} {r : Bool × List Int} {q : Bool × List Bool} {k : List Int → Bool × List Int} {k' : List Bool → Bool × List Bool} (h : q.1 = r.1) (hk : r.1 = true → PR n seen outs (k r.2) (k' q.2)) : PR n seen outs (andQ r k) (andT q k') := by
  unfold andQ andT
  rw [h]
  cases hr : r.1 with
  | false => exact .no
  | true => exact hk hr
theorem tail_rl {f : Fl} {x : Nd} {st : List Int} {set : List Bool} {seen : List Int} (h : Rl f.types.length st set seen) : PR f.types.length seen x.outs (shTail f x st) (r8end f x set) := fin_rl h rfl _ _
theorem node_rl (u : Un) (f : Fl) (x : Nd) (ih : ∀ q ∈ x.kids, LR u f q) (deep : Int) (w : Wh) {st : List Int} {set : List Bool} {seen : List Int} (h : Rl f.types.length st set seen) :
    PR f.types.length seen x.outs (shNode u f deep w st x) (r8node u f deep w seen set x) := by
  cases hb : r8bare x with
  | false => rw [shNode_bare _ _ _ _ _ hb, r8node_bare _ _ _ _ _ _ hb]; exact .no
  | true =>
    by_cases h10 : x.kind = 10
    ·obtain ⟨a, b, hk⟩ := r8bare_if hb h10
     rw [shNode_if _ _ _ _ _ hb h10 hk, r8node_if _ _ _ _ _ _ hb h10 hk, uses_rl h]
     split
     ·obtain ⟨h1, h2⟩ := ih a (by rw [hk]; simp) (deep + 1) ⟨true, w.Loop, r8of f.types x.outs, w.Next, w.Left⟩ st set seen h
      refine andT_PR h1 fun ht => ?_
      obtain ⟨h3, h4⟩ := ih b (by rw [hk]; simp) (deep + 1) ⟨true, w.Loop, r8of f.types x.outs, w.Next, w.Left⟩ _ _ seen (h2 ht)
      exact andT_PR h3 fun ht2 => tail_rl (h4 ht2)
     exact .no
    by_cases h11 : x.kind = 11
    ·obtain ⟨a, hk⟩ := r8bare_loop hb h11
     rw [shNode_loop _ _ _ _ _ hb h11 hk, r8node_loop _ _ _ _ _ _ hb h11 hk, uses_rl h]
     split
     ·obtain ⟨h1, h2⟩ := sets_rl h x.params (List.replicate x.params.length 0)
      refine andT_PR h1 fun ht => ?_
      obtain ⟨h3, h4⟩ := h2 ht
      obtain ⟨h5, h6⟩ := ih a (by rw [hk]; simp) (deep + 1) ⟨false, true, [], r8of f.types x.params, r8of f.types x.outs⟩ _ _ _ h3
      exact andT_PR h5 fun ht2 => tail_rl (hidden_rl (h6 ht2) h4)
     exact .no
    have e10 : (x.kind == 10) = false := by simpa using h10
    have e11 : (x.kind == 11) = false := by simpa using h11
    rw [r8node_simple _ _ _ _ _ _ hb e10 e11]
    have hs := simple_rl u f h x w
    cases he : r8Ender x.kind with
    | true => rw [shNode_end _ _ _ _ _ hb e10 e11 he]; rw [if_pos he] at hs; exact hs
    | false => rw [shNode_simple _ _ _ _ _ hb e10 e11 he]; rw [if_neg (by simp [he])] at hs; exact hs
theorem go_rl (u : Un) (f : Fl) (deep : Int) (w : Wh) : ∀ (l : List Nd), (∀ x ∈ l, ∀ q ∈ x.kids, LR u f q) → ∀ (st : List Int) (set : List Bool) (all : List Int), Rl f.types.length st set all →
    PR f.types.length all (l.flatMap Nd.outs) (shGo u f deep w st l) (r8go u f deep w all set l)
  | [], _, st, set, all, h => by
    unfold shGo r8go
    exact ⟨rfl, fun _ => ⟨by simpa using h, fun v hv => by simp at hv⟩⟩
  | x :: r, ih, st, set, all, h => by
    unfold shGo r8go
    by_cases hd : deep > 100
    ·rw [if_pos hd, if_pos hd]; exact .no
    rw [if_neg hd, if_neg hd]
    obtain ⟨h1, h2⟩ := node_rl u f x (ih x (.head _)) deep w h
    refine andT_PR h1 fun ht => ?_
    obtain ⟨h3, h4⟩ := h2 ht
    by_cases hc : (r8Closed x != r.isEmpty) = true
    ·rw [if_pos hc, if_pos hc]; exact .no
    rw [if_neg hc, if_neg hc]
    obtain ⟨h5, h6⟩ := go_rl u f deep w r (fun y hy => ih y (.tail _ hy)) _ _ _ h3
    refine ⟨h5, fun ht2 => ?_⟩
    obtain ⟨h7, h8⟩ := h6 ht2
    refine ⟨by simpa using h7, fun v hv => ?_⟩
    rw [List.flatMap_cons, List.mem_append] at hv
    rcases hv with hv | hv
    ·exact h4 v hv
    obtain ⟨g1, g2, g3⟩ := h8 v hv
    rw [List.contains_append, Bool.or_eq_false_iff] at g3
    exact ⟨g1, g2, g3.1⟩
theorem list_rl (u : Un) (f : Fl) : ∀ (N : Nat) (l : List Nd), SizeOf.sizeOf l < N → LR u f l
  | 0, _, h => absurd h (Nat.not_lt_zero _)
  | N + 1, l, hN => by
    intro deep w st set seen h
    have ih : ∀ x ∈ l, ∀ q ∈ x.kids, LR u f q := fun x hx q hq => list_rl u f N q (Nat.lt_of_lt_of_le (kid_lt hx rfl hq) (Nat.le_of_lt_succ hN))
    obtain ⟨h1, h2⟩ := go_rl u f deep w l ih st set seen h
    unfold r8list shList ne andQ
    cases l with
    | nil =>
      simp only [List.isEmpty_nil, if_true]
      unfold shGo
      simp [shFin]
    | cons x r =>
      simp only [List.isEmpty_cons, Bool.false_eq_true, if_false]
      rw [h1]
      cases hg : (shGo u f deep w st (x :: r)).1 with
      | false => simp [hg]
      | true =>
        obtain ⟨h3, h4⟩ := h2 hg
        simp only [if_true, shFin]
        refine ⟨by simp, fun _ => ?_⟩
        rw [hideAll_eq]
        exact hidden_rl h3 h4
theorem shList_eq (u : Un) (f : Fl) (deep : Int) (w : Wh) {st : List Int} {set : List Bool} {seen : List Int} (h : Rl f.types.length st set seen) (l : List Nd) : (shList u f deep w st l).1 = (r8list u f deep w seen set l).1 :=
  ((list_rl u f _ l (Nat.lt_succ_self _)) deep w st set seen h).1.symm
theorem start_rl {k n : Nat} (h : k ≤ n) : Rl n (seens k n) (firsts k n) (iota k) := by
  refine ⟨seens_length h, firsts_length h, fun v hv => ?_, fun v hv => ?_⟩
  ·simp only [firsts, seens, List.getD_eq_getElem?_getD]
   by_cases e : v < k
   ·rw [List.getElem?_append_left (by simpa using e), List.getElem?_append_left (by simpa using e)]
    simp [List.getElem?_replicate, e]
   rw [List.getElem?_append_right (by simpa using e), List.getElem?_append_right (by simpa using e)]
   simp only [List.length_replicate, List.getElem?_replicate]
   rw [if_pos (by omega), if_pos (by omega)]
   rfl
  have hc : (iota k).contains (v : Int) = decide (v < k) := by
    simp only [iota]
    by_cases e : v < k
    ·simp [e]
     exact ⟨v, e, rfl⟩
    simp [e]
    intro x hx; omega
  rw [hc]
  simp only [seens, List.getD_eq_getElem?_getD]
  by_cases e : v < k
  ·rw [List.getElem?_append_left (by simpa using e)]
   simp [List.getElem?_replicate, e]
  rw [List.getElem?_append_right (by simpa using e)]
  simp only [List.length_replicate, List.getElem?_replicate]
  rw [if_pos (by omega)]
  simp [e]
theorem any_isTy : ∀ l : List Int, l.any (fun t => !isTy t) = !l.all (fun t => t == 1 || t == 2)
  | [] => rfl
  | t :: r => by rw [List.any_cons, List.all_cons, any_isTy r, Bool.not_and]; rfl
theorem shFlow_eq (u : Un) (f : Fl) (h0 : 0 ≤ f.params) (h1 : f.params ≤ f.types.length) : shFlow u f = r8Flow u f := by
  unfold shFlow r8Flow
  rw [shList_eq u f 1 r8where0 (start_rl (k := f.params.toNat) (by omega)) f.body]
  have e1 : decide (f.params < 0) = false := by simp; omega
  have e2 : decide (f.params > f.types.length) = false := by simp; omega
  have e3 := any_isTy f.types
  rw [e1, e2, e3]
  cases decide (f.params > 8) <;> cases decide ((f.types.length : Int) > 20000) <;> cases f.types.all (fun t => t == 1 || t == 2) <;> simp
def nmA (l : List Ar) : List (List UInt8) := l.map fun a => a.name.toList
def nmF (l : List Fl) : List (List UInt8) := l.map fun a => a.name.toList
theorem array_split (nm : ByteArray) : ∀ (pre l : List Ar) (i : Int), (nm.toList ∈ nmA pre → i ≤ r8Array nm (pre ++ l) i ∧ r8Array nm (pre ++ l) i < i + pre.length) ∧ (nm.toList ∉ nmA pre → r8Array nm (pre ++ l) i = r8Array nm l (i + pre.length))
  | [], l, i => by simp [nmA]
  | a :: pre, l, i => by
    obtain ⟨h1, h2⟩ := array_split nm pre l (i + 1)
    rw [List.cons_append, show r8Array nm (a :: (pre ++ l)) i = if (a.name.toList == nm.toList) = true then i else r8Array nm (pre ++ l) (i + 1) from rfl]
    by_cases e : a.name.toList = nm.toList
    ·have eb : (a.name.toList == nm.toList) = true := by simpa using e
     rw [if_pos eb]
     refine ⟨fun _ => ⟨Int.le_refl _, by simp; omega⟩, fun h => absurd (by simp [nmA, e]) h⟩
    have eb : ¬ (a.name.toList == nm.toList) = true := by simpa using e
    rw [if_neg eb]
    refine ⟨fun h => ?_, fun h => ?_⟩
    ·have : nm.toList ∈ nmA pre := by
       simp only [nmA, List.map_cons, List.mem_cons] at h
       exact h.resolve_left fun h => e h.symm
     have := h1 this
     simp only [List.length_cons]; omega
    have : nm.toList ∉ nmA pre := fun hm => h (by simp only [nmA, List.map_cons, List.mem_cons]; exact .inr hm)
    rw [h2 this]
    congr 1
    simp only [List.length_cons]; omega
theorem place_split (nm : ByteArray) : ∀ (pre l : List Fl) (i : Int), (nm.toList ∈ nmF pre → i ≤ r8Place nm (pre ++ l) i ∧ r8Place nm (pre ++ l) i < i + pre.length) ∧ (nm.toList ∉ nmF pre → r8Place nm (pre ++ l) i = r8Place nm l (i + pre.length))
  | [], l, i => by simp [nmF]
  | a :: pre, l, i => by
    obtain ⟨h1, h2⟩ := place_split nm pre l (i + 1)
    rw [List.cons_append, show r8Place nm (a :: (pre ++ l)) i = if (a.name.toList == nm.toList) = true then i else r8Place nm (pre ++ l) (i + 1) from rfl]
    by_cases e : a.name.toList = nm.toList
    ·have eb : (a.name.toList == nm.toList) = true := by simpa using e
     rw [if_pos eb]
     refine ⟨fun _ => ⟨Int.le_refl _, by simp; omega⟩, fun h => absurd (by simp [nmF, e]) h⟩
    have eb : ¬ (a.name.toList == nm.toList) = true := by simpa using e
    rw [if_neg eb]
    refine ⟨fun h => ?_, fun h => ?_⟩
    ·have : nm.toList ∈ nmF pre := by
       simp only [nmF, List.map_cons, List.mem_cons] at h
       exact h.resolve_left fun h => e h.symm
     have := h1 this
     simp only [List.length_cons]; omega
    have : nm.toList ∉ nmF pre := fun hm => h (by simp only [nmF, List.map_cons, List.mem_cons]; exact .inr hm)
    rw [h2 this]
    congr 1
    simp only [List.length_cons]; omega
theorem place_mem (nm : ByteArray) (l : List Fl) : r8Place nm l 0 ≥ 0 ↔ nm.toList ∈ nmF l := by
  obtain ⟨h1, h2⟩ := place_split nm l [] 0
  rw [List.append_nil] at h1 h2
  by_cases h : nm.toList ∈ nmF l
  ·exact ⟨fun _ => h, fun h => (h1 h).1⟩
  refine ⟨fun h3 => ?_, fun h4 => absurd h4 h⟩
  rw [h2 h] at h3
  simp [r8Place] at h3
theorem array_at (nm : ByteArray) (pre r : List Ar) (a : Ar) (h : a.name.toList = nm.toList) : r8Array nm (pre ++ a :: r) 0 = pre.length ↔ nm.toList ∉ nmA pre := by
  obtain ⟨h1, h2⟩ := array_split nm pre (a :: r) 0
  by_cases e : nm.toList ∈ nmA pre
  ·have := h1 e
   exact ⟨fun h => by omega, fun h => absurd e h⟩
  refine ⟨fun _ => e, fun _ => ?_⟩
  rw [h2 e]
  have eb : (a.name.toList == nm.toList) = true := by simpa using h
  rw [show r8Array nm (a :: r) (0 + pre.length) = if (a.name.toList == nm.toList) = true then (0 + pre.length : Int) else r8Array nm r (0 + pre.length + 1) from rfl, if_pos eb]
  omega
theorem place_at (nm : ByteArray) (pre r : List Fl) (a : Fl) (h : a.name.toList = nm.toList) : r8Place nm (pre ++ a :: r) 0 = pre.length ↔ nm.toList ∉ nmF pre := by
  obtain ⟨h1, h2⟩ := place_split nm pre (a :: r) 0
  by_cases e : nm.toList ∈ nmF pre
  ·have := h1 e
   exact ⟨fun h => by omega, fun h => absurd e h⟩
  refine ⟨fun _ => e, fun _ => ?_⟩
  rw [h2 e]
  have eb : (a.name.toList == nm.toList) = true := by simpa using h
  rw [show r8Place nm (a :: r) (0 + pre.length) = if (a.name.toList == nm.toList) = true then (0 + pre.length : Int) else r8Place nm r (0 + pre.length + 1) from rfl, if_pos eb]
  omega
theorem gA_iff (u : Un) : ∀ (pre l : List Ar), u.arrays = pre ++ l → (r8gA u l pre.length = true ↔ (∀ a ∈ l, shArr a = true ∧ a.name.toList ∉ nmF u.flows ∧ a.name.toList ∉ nmA pre) ∧ (nmA l).Nodup)
  | pre, [], _ => by simp [r8gA, nmA]
  | pre, a :: r, hu => by
    have ih := gA_iff u (pre ++ [a]) r (by simp [hu])
    have hlen : (((pre ++ [a]).length : Nat) : Int) = (pre.length : Int) + 1 := by simp
    rw [hlen] at ih
    rw [r8gA, Bool.and_eq_true, ih]
    have ha : gArr u a pre.length = true ↔ shArr a = true ∧ a.name.toList ∉ nmA pre ∧ a.name.toList ∉ nmF u.flows := by
      have h1 := array_at a.name pre r a rfl
      have h2 := place_mem a.name u.flows
      rw [← hu] at h1
      unfold gArr shArr
      simp only [Bool.and_eq_true, Bool.not_eq_true', decide_eq_false_iff_not, beq_iff_eq, h1, h2]
      constructor
      ·rintro ⟨⟨⟨⟨a1, a2⟩, a3⟩, a4⟩, a5⟩; exact ⟨⟨⟨a1, a2⟩, a3⟩, a4, a5⟩
      rintro ⟨⟨⟨a1, a2⟩, a3⟩, a4, a5⟩; exact ⟨⟨⟨⟨a1, a2⟩, a3⟩, a4⟩, a5⟩
    rw [ha]
    constructor
    ·rintro ⟨⟨b1, b2, b3⟩, b4, b5⟩
     refine ⟨fun x hx => ?_, ?_⟩
     ·rcases List.mem_cons.1 hx with rfl | hx
      ·exact ⟨b1, b3, b2⟩
      obtain ⟨c1, c2, c3⟩ := b4 x hx
      exact ⟨c1, c2, fun h => c3 (by simp only [nmA, List.map_append, List.mem_append]; exact .inl h)⟩
     refine List.nodup_cons.2 ⟨fun h => ?_, b5⟩
     obtain ⟨x, hx, e⟩ := List.mem_map.1 h
     exact (b4 x hx).2.2 (by simp only [nmA, List.map_append, List.mem_append, List.map_cons, List.map_nil, List.mem_singleton]; exact .inr e)
    rintro ⟨b1, b2⟩
    have b3 := List.nodup_cons.1 b2
    obtain ⟨c1, c2, c3⟩ := b1 a (.head _)
    refine ⟨⟨c1, c3, c2⟩, fun x hx => ?_, b3.2⟩
    obtain ⟨d1, d2, d3⟩ := b1 x (.tail _ hx)
    refine ⟨d1, d2, fun h => ?_⟩
    simp only [nmA, List.map_append, List.mem_append, List.map_cons, List.map_nil, List.mem_singleton] at h
    rcases h with h | h
    ·exact d3 h
    exact b3.1 (List.mem_map.2 ⟨x, hx, h⟩)
theorem gF_iff (u : Un) : ∀ (pre l : List Fl), u.flows = pre ++ l → (r8gF u l pre.length = true ↔ (∀ a ∈ l, shFlw a = true ∧ a.name.toList ∉ nmF pre) ∧ (nmF l).Nodup)
  | pre, [], _ => by simp [r8gF, nmF]
  | pre, a :: r, hu => by
    have ih := gF_iff u (pre ++ [a]) r (by simp [hu])
    have hlen : (((pre ++ [a]).length : Nat) : Int) = (pre.length : Int) + 1 := by simp
    rw [hlen] at ih
    rw [r8gF, Bool.and_eq_true, ih]
    have ha : gFlw u a pre.length = true ↔ shFlw a = true ∧ a.name.toList ∉ nmF pre := by
      have h1 := place_at a.name pre r a rfl
      rw [← hu] at h1
      unfold gFlw shFlw isTy
      simp only [Bool.and_eq_true, Bool.not_eq_true', decide_eq_false_iff_not, beq_iff_eq, h1]
      constructor
      ·rintro ⟨⟨⟨⟨a1, a2⟩, a3⟩, a4⟩, a5⟩; exact ⟨⟨⟨⟨a1, a3⟩, a4⟩, a5⟩, a2⟩
      rintro ⟨⟨⟨⟨a1, a3⟩, a4⟩, a5⟩, a2⟩; exact ⟨⟨⟨⟨a1, a2⟩, a3⟩, a4⟩, a5⟩
    rw [ha]
    constructor
    ·rintro ⟨⟨b1, b2⟩, b4, b5⟩
     refine ⟨fun x hx => ?_, ?_⟩
     ·rcases List.mem_cons.1 hx with rfl | hx
      ·exact ⟨b1, b2⟩
      obtain ⟨c1, c3⟩ := b4 x hx
      exact ⟨c1, fun h => c3 (by simp only [nmF, List.map_append, List.mem_append]; exact .inl h)⟩
     refine List.nodup_cons.2 ⟨fun h => ?_, b5⟩
     obtain ⟨x, hx, e⟩ := List.mem_map.1 h
     exact (b4 x hx).2 (by simp only [nmF, List.map_append, List.mem_append, List.map_cons, List.map_nil, List.mem_singleton]; exact .inr e)
    rintro ⟨b1, b2⟩
    have b3 := List.nodup_cons.1 b2
    obtain ⟨c1, c3⟩ := b1 a (.head _)
    refine ⟨⟨c1, c3⟩, fun x hx => ?_, b3.2⟩
    obtain ⟨d1, d3⟩ := b1 x (.tail _ hx)
    refine ⟨d1, fun h => ?_⟩
    simp only [nmF, List.map_append, List.mem_append, List.map_cons, List.map_nil, List.mem_singleton] at h
    rcases h with h | h
    ·exact d3 h
    exact b3.1 (List.mem_map.2 ⟨x, hx, h⟩)
def keysOf (es : List (Value × PV)) : List (List UInt8) := es.map fun e => match e.1 with
  | .string s => s.toList
  | _ => []
theorem mput_keysOf (s : ByteArray) (v : PV) : ∀ (es : List (Value × PV)), Cnt es → (s.toList ∈ keysOf es → keysOf (mput (.string s) v es) = keysOf es) ∧ (s.toList ∉ keysOf es → keysOf (mput (.string s) v es) = keysOf es ++ [s.toList])
  | [], _ => by simp [keysOf, mput]
  | (a, p) :: r, h => by
    have ha := h.1 (a, p) (.head _)
    have hr : Cnt r := ⟨fun e he => h.1 e (.tail _ he), fun e he => h.2 e (.tail _ he)⟩
    obtain ⟨h1, h2⟩ := mput_keysOf s v r hr
    cases a with
    | string t =>
      simp only [mput]
      by_cases e : s.toList = t.toList
      ·have eb : keyB (.string s) (.string t) = true := by simpa [keyB] using e
       rw [if_pos eb]
       exact ⟨fun _ => by simp [keysOf, e], fun h => absurd (by simp [keysOf, e]) h⟩
      have eb : ¬ keyB (.string s) (.string t) = true := by simpa [keyB] using e
      rw [if_neg eb]
      refine ⟨fun h => ?_, fun h => ?_⟩
      ·have : s.toList ∈ keysOf r := by
         simp only [keysOf, List.map_cons, List.mem_cons] at h
         exact h.resolve_left e
       have h3 := h1 this
       simp only [keysOf, List.map_cons] at h3 ⊢
       rw [h3]
      have : s.toList ∉ keysOf r := fun hm => h (by simp only [keysOf, List.map_cons, List.mem_cons]; exact .inr hm)
      have h3 := h2 this
      simp only [keysOf, List.map_cons, List.cons_append] at h3 ⊢
      rw [h3]
    | _ => simp [isKeyB] at ha
theorem bump_keysOf (s : ByteArray) {es : List (Value × PV)} (h : Cnt es) : (s.toList ∈ keysOf es → keysOf (bump s es) = keysOf es) ∧ (s.toList ∉ keysOf es → keysOf (bump s es) = keysOf es ++ [s.toList]) := by
  obtain ⟨n, hn⟩ := h.find (.string s)
  rw [bump_eq hn]
  exact mput_keysOf s _ es h
def countN (es : List (Value × PV)) (l : List ByteArray) : List (Value × PV) := l.foldl (fun e s => bump s e) es
def nmS (l : List ByteArray) : List (List UInt8) := l.map ByteArray.toList
theorem countN_len : ∀ (l : List ByteArray) (es : List (Value × PV)), Cnt es → (keysOf (countN es l)).length ≤ (keysOf es).length + l.length ∧
    ((keysOf (countN es l)).length = (keysOf es).length + l.length ↔ (∀ s ∈ l, s.toList ∉ keysOf es) ∧ (nmS l).Nodup)
  | [], es, _ => by simp [countN, nmS]
  | s :: r, es, h => by
    obtain ⟨ih1, ih2⟩ := countN_len r (bump s es) (h.bump s)
    obtain ⟨h1, h2⟩ := bump_keysOf s h
    show (keysOf (countN (bump s es) r)).length ≤ _ ∧ ((keysOf (countN (bump s es) r)).length = _ ↔ _)
    by_cases e : s.toList ∈ keysOf es
    ·rw [h1 e] at ih1
     refine ⟨by simp only [List.length_cons]; omega, fun hl => by simp only [List.length_cons] at hl; omega, fun hb => absurd e (hb.1 s (.head _))⟩
    have hk := h2 e
    rw [hk] at ih1 ih2
    simp only [List.length_append, List.length_cons, List.length_nil] at ih1 ih2 ⊢
    refine ⟨by omega, ?_⟩
    rw [show (keysOf es).length + (r.length + 1) = (keysOf es).length + (0 + 1) + r.length by omega, ih2]
    constructor
    ·rintro ⟨b1, b2⟩
     refine ⟨fun x hx => ?_, List.nodup_cons.2 ⟨fun hm => ?_, b2⟩⟩
     ·rcases List.mem_cons.1 hx with rfl | hx
      ·exact e
      exact fun hm => b1 x hx (List.mem_append.2 (.inl hm))
     obtain ⟨x, hx, he⟩ := List.mem_map.1 hm
     exact b1 x hx (by rw [he]; simp)
    rintro ⟨b1, b2⟩
    have b3 := List.nodup_cons.1 b2
    refine ⟨fun x hx hm => ?_, b3.2⟩
    rcases List.mem_append.1 hm with hm | hm
    ·exact b1 x (.tail _ hx) hm
    exact b3.1 (List.mem_map.2 ⟨x, hx, by simpa using hm⟩)
theorem count_iff (u : Un) : ((countF (countA [] u.arrays) u.flows).length : Int) = u.arrays.length + u.flows.length ↔ (nmA u.arrays ++ nmF u.flows).Nodup := by
  have e : countF (countA [] u.arrays) u.flows = countN [] (u.arrays.map Ar.name ++ u.flows.map Fl.name) := by
    simp only [countF, countA, countN, List.foldl_append, List.foldl_map]
  have hn : nmS (u.arrays.map Ar.name ++ u.flows.map Fl.name) = nmA u.arrays ++ nmF u.flows := by
    simp only [nmS, nmA, nmF, List.map_append, List.map_map]
    rfl
  obtain ⟨_, h2⟩ := countN_len (u.arrays.map Ar.name ++ u.flows.map Fl.name) [] .nil
  rw [e]
  simp only [keysOf, List.length_map, List.length_append, List.length_nil, Nat.zero_add] at h2
  rw [← hn]
  constructor
  ·intro h; exact (h2.1 (by omega)).2
  intro h
  have := h2.2 ⟨fun s _ => by simp, h⟩
  omega
theorem shHead_eq (u : Un) : shHead u = r8globals u := by
  have hA := gA_iff u [] u.arrays rfl
  have hF := gF_iff u [] u.flows rfl
  simp only [List.length_nil] at hA hF
  rw [Bool.eq_iff_iff]
  unfold shHead r8globals
  simp only [Bool.and_eq_true, List.all_eq_true, beq_iff_eq, count_iff]
  rw [show ((0 : Nat) : Int) = 0 from rfl] at hA hF
  rw [hA, hF, List.nodup_append]
  constructor
  ·rintro ⟨⟨⟨a1, a2⟩, a3, a4, a5⟩, a6⟩
   exact ⟨⟨⟨fun a ha => ⟨a1 a ha, fun hm => a5 _ (List.mem_map.2 ⟨a, ha, rfl⟩) _ hm rfl, by simp [nmA]⟩, a3⟩, fun f hf => ⟨a2 f hf, by simp [nmF]⟩, a4⟩, a6⟩
  rintro ⟨⟨⟨a1, a3⟩, a2, a4⟩, a6⟩
  refine ⟨⟨⟨fun a ha => (a1 a ha).1, fun f hf => (a2 f hf).1⟩, a3, a4, fun x hx y hy e => ?_⟩, a6⟩
  obtain ⟨a, ha, rfl⟩ := List.mem_map.1 hx
  exact (a1 a ha).2.1 (e ▸ hy)
theorem shflows_eq (u : Un) : ∀ (l : List Fl) (i : Int), (∀ f ∈ l, 0 ≤ f.params ∧ f.params ≤ f.types.length) → shflows u l i = r8flows u l i
  | [], _, _ => rfl
  | f :: r, i, h => by
    obtain ⟨h1, h2⟩ := h f (.head _)
    simp only [shflows, r8flows, shFlow_eq u f h1 h2, shflows_eq u r (i + 1) (fun f hf => h f (.tail _ hf))]
theorem shCheck_eq (u : Un) : shCheck u = r8Check u := by
  unfold shCheck r8Check
  rw [shHead_eq]
  cases h : r8globals u with
  | false => rfl
  | true => simp only [if_true]; exact shflows_eq u _ _ (r8globals_params h)
theorem Nd.enc_len (x : Nd) : x.enc.length = 8 := by rw [Nd.enc_eq, Nd.cells_eta]; rfl
theorem Nd.enc_one (x : Nd) : ∀ y ∈ x.enc, y.one = true := by
  rw [Nd.enc_eq, Nd.cells_eta]
  intro y hy
  simp only [List.mem_cons, List.not_mem_nil, or_false] at hy
  rcases hy with rfl | rfl | rfl | rfl | rfl | rfl | rfl | rfl <;> rfl
theorem hw_node {l : List Nd} : ∀ el ∈ l.map Nd.enc, el.length = 8 := by
  intro el hel
  obtain ⟨x, _, rfl⟩ := List.mem_map.1 hel
  exact x.enc_len
theorem hone_node {l : List Nd} : ∀ el ∈ l.map Nd.enc, ∀ x ∈ el, x.one = true := by
  intro el hel
  obtain ⟨x, _, rfl⟩ := List.mem_map.1 hel
  exact x.enc_one
theorem hone_cells (x : Nd) : ∀ el ∈ chunks 8 1 [vInt x.kind, vInt x.op, vInt x.n, vStr x.name, ints x.args, ints x.outs, ints x.params, kids x.kids], ∀ y ∈ el, y.one = true := by
  intro el hel
  have : el = x.enc := by
    rw [Nd.enc_eq, Nd.cells_eta]
    exact List.mem_singleton.1 hel
  subst this
  exact x.enc_one
def inR (n : Nat) (ds : List Int) : Prop := ∀ v ∈ ds, 0 ≤ v ∧ v < n
def Frs (set : List Bool) (ds : List Int) : Prop := ds.Nodup ∧ ∀ v ∈ ds, set.getD v.toNat false = false
def marks (set : List Bool) (ds : List Int) : List Bool := ds.foldl (fun s v => s.set v.toNat true) set
theorem marks_length : ∀ (ds : List Int) (set : List Bool), (marks set ds).length = set.length
  | [], _ => rfl
  | v :: r, set => by have := marks_length r (set.set v.toNat true); simpa [marks] using this
theorem marks_app (set : List Bool) (a b : List Int) : marks set (a ++ b) = marks (marks set a) b := by simp [marks]
theorem marks_get {n : Nat} : ∀ (ds : List Int) (set : List Bool), set.length = n → inR n ds → ∀ v : Int, 0 ≤ v → v < n → (marks set ds).getD v.toNat false = (ds.contains v || set.getD v.toNat false)
  | [], set, _, _, v, _, _ => by simp [marks]
  | d :: r, set, hn, hr, v, h0, h1 => by
    have ih := marks_get r (set.set d.toNat true) (by simpa using hn) (fun v hv => hr v (.tail _ hv)) v h0 h1
    obtain ⟨d0, d1⟩ := hr d (.head _)
    show (marks (set.set d.toNat true) r).getD v.toNat false = _
    rw [ih, getD_set, List.contains_cons]
    by_cases e : v = d
    ·subst e
     rw [if_pos ⟨rfl, by omega⟩]; simp
    have e2 : ¬ (d.toNat = v.toNat ∧ d.toNat < set.length) := by omega
    have e3 : (v == d) = false := by simpa using e
    rw [if_neg e2, e3, Bool.false_or]
theorem frs_app {n : Nat} {set : List Bool} {a b : List Int} (hn : set.length = n) (ha : inR n a) (hb : inR n b) : Frs set (a ++ b) ↔ Frs set a ∧ Frs (marks set a) b := by
  unfold Frs
  rw [List.nodup_append]
  constructor
  ·rintro ⟨⟨h1, h2, h3⟩, h4⟩
   refine ⟨⟨h1, fun v hv => h4 v (by simp [hv])⟩, h2, fun v hv => ?_⟩
   rw [marks_get a set hn ha v (hb v hv).1 (hb v hv).2, h4 v (by simp [hv])]
   have : a.contains v = false := by
     rw [← Bool.not_eq_true, List.contains_iff_mem]
     exact fun hm => h3 v hm v hv rfl
   rw [this]; rfl
  rintro ⟨⟨h1, h2⟩, h3, h4⟩
  have hkey : ∀ v ∈ b, a.contains v = false ∧ set.getD v.toNat false = false := fun v hv => by
    have := h4 v hv
    rw [marks_get a set hn ha v (hb v hv).1 (hb v hv).2, Bool.or_eq_false_iff] at this
    exact this
  refine ⟨⟨h1, h3, fun x hx y hy e => ?_⟩, fun v hv => ?_⟩
  ·subst e
   have := (hkey x hy).1
   rw [← Bool.not_eq_true, List.contains_iff_mem] at this
   exact this hx
  rcases List.mem_append.1 hv with hv | hv
  ·exact h2 v hv
  exact (hkey v hv).2
def vOuts (tys : List Int) : List Int → List Int → Bool
  | [], [] => true
  | v :: r, w :: ws => shVal tys v w && vOuts tys r ws
  | _, _ => false
theorem vOuts_in {tys : List Int} : ∀ {l want : List Int}, vOuts tys l want = true → inR tys.length l
  | [], [], _ => fun v hv => by simp at hv
  | [], _ :: _, h => by simp [vOuts] at h
  | _ :: _, [], h => by simp [vOuts] at h
  | x :: r, w :: ws, h => by
    simp only [vOuts, Bool.and_eq_true, shVal, decide_eq_true_eq] at h
    intro v hv
    rcases List.mem_cons.1 hv with rfl | hv
    ·exact ⟨h.1.1.1, h.1.1.2⟩
    exact vOuts_in h.2 v hv
theorem vOuts_len {tys : List Int} : ∀ {l want : List Int}, vOuts tys l want = true → l.length = want.length
  | [], [], _ => rfl
  | [], _ :: _, h => by simp [vOuts] at h
  | _ :: _, [], h => by simp [vOuts] at h
  | x :: r, w :: ws, h => by
    simp only [vOuts, Bool.and_eq_true] at h
    simp [vOuts_len h.2]
theorem bad_iff (tys : List Int) (set : List Bool) (v w : Int) : r8bad tys set v w = false ↔ shVal tys v w = true ∧ set.getD v.toNat false = false := by
  unfold r8bad shVal
  simp only [Bool.or_eq_false_iff, decide_eq_false_iff_not, Bool.and_eq_true, decide_eq_true_eq, Bool.or_eq_true]
  constructor
  ·rintro ⟨⟨⟨h1, h2⟩, h3⟩, h4⟩
   refine ⟨⟨⟨by omega, by omega⟩, ?_⟩, h3⟩
   cases hw : (w == 0) with
   | true => exact .inl rfl
   | false => exact .inr (by simpa [bne, hw] using h4)
  rintro ⟨⟨⟨h1, h2⟩, h4⟩, h3⟩
  refine ⟨⟨⟨by omega, by omega⟩, h3⟩, ?_⟩
  rcases h4 with h4 | h4
  ·simp [bne, h4]
  rw [show (tys.getD v.toNat 0 != w) = false from by rw [bne, h4]; rfl, Bool.and_false]
theorem setsGo_iff (tys : List Int) : ∀ (l want : List Int) (set : List Bool), l.length = want.length → set.length = tys.length →
    ((r8setsGo tys set l want).1 = true ↔ vOuts tys l want = true ∧ Frs set l) ∧ ((r8setsGo tys set l want).1 = true → (r8setsGo tys set l want).2 = marks set l)
  | [], [], set, _, _ => by simp [r8setsGo, vOuts, Frs, marks]
  | [], _ :: _, _, h, _ => by simp at h
  | _ :: _, [], _, h, _ => by simp at h
  | x :: r, w :: ws, set, hl, hn => by
    obtain ⟨ih1, ih2⟩ := setsGo_iff tys r ws (set.set x.toNat true) (by simpa using hl) (by simpa using hn)
    simp only [r8setsGo]
    cases hb : r8bad tys set x w with
    | true =>
      simp only [if_true, Bool.false_eq_true, false_iff, not_and, false_implies, and_true]
      intro h1 h2
      simp only [vOuts, Bool.and_eq_true] at h1
      have := (bad_iff tys set x w).2 ⟨h1.1, h2.2 x (.head _)⟩
      rw [hb] at this; cases this
    | false =>
      obtain ⟨b1, b2⟩ := (bad_iff tys set x w).1 hb
      simp only [Bool.false_eq_true, if_false]
      refine ⟨?_, fun h => ih2 h⟩
      rw [ih1]
      simp only [vOuts, b1, Bool.true_and]
      refine and_congr_right fun hv => ?_
      have hx : inR tys.length [x] := fun v hv => by
        obtain rfl := List.mem_singleton.1 hv
        simp only [shVal, Bool.and_eq_true, decide_eq_true_eq] at b1
        exact ⟨b1.1.1, b1.1.2⟩
      have := frs_app (a := [x]) (b := r) hn hx (vOuts_in hv)
      rw [show x :: r = [x] ++ r from rfl, this]
      exact ⟨fun h => ⟨⟨by simp, fun v hv => by obtain rfl := List.mem_singleton.1 hv; exact b2⟩, h⟩, fun h => h.2⟩
theorem sets_iff (tys : List Int) (set : List Bool) (l want : List Int) (hn : set.length = tys.length) :
    ((r8sets tys set l want).1 = true ↔ vOuts tys l want = true ∧ Frs set l) ∧ ((r8sets tys set l want).1 = true → (r8sets tys set l want).2 = marks set l) := by
  unfold r8sets
  by_cases hl : l.length = want.length
  ·have e : ((l.length : Int) == want.length) = true := by simp; omega
   rw [if_pos e]
   exact setsGo_iff tys l want set hl hn
  have e : ¬ ((l.length : Int) == want.length) = true := by simp; omega
  rw [if_neg e]
  refine ⟨⟨fun h => (by cases h), fun h => absurd (vOuts_len h.1) hl⟩, fun h => by cases h⟩
structure SForm where
  b : Bool
  want : Option (List Int)
def SForm.run (s : SForm) (tys : List Int) (outs : List Int) (set : List Bool) : Bool × List Bool := match s.want with
  | some wt => andS s.b set (r8sets tys set outs wt)
  | none => (s.b && (outs.length : Int) == 0, set)
def SForm.ok (s : SForm) (tys : List Int) (outs : List Int) : Bool := match s.want with
  | some wt => s.b && vOuts tys outs wt
  | none => s.b && (outs.length : Int) == 0
def sForm (u : Un) (f : Fl) (x : Nd) (seen : List Int) (w : Wh) : SForm :=
  if x.kind == 1 then ⟨r8types f.types seen x.args [], some [1]⟩
  else if x.kind == 2 then ⟨(x.n == 0 || x.n == 1) && r8types f.types seen x.args [], some [2]⟩
  else if x.kind == 3 then ⟨r1IsOne x.op && r8types f.types seen x.args [(r5Operand x.op).1], some [(r5Operand x.op).2]⟩
  else if x.kind == 4 then ⟨r1IsTwo x.op && r8types f.types seen x.args [(r5Operand x.op).1, (r5Operand x.op).1] && f.types.getD (x.args.getD 0 0).toNat 0 == f.types.getD (x.args.getD 1 0).toNat 0, some [(r5Operand x.op).2]⟩
  else if x.kind == 5 then ⟨decide (r8Array x.name u.arrays 0 ≥ 0) && r8types f.types seen x.args [1], some [1]⟩
  else if x.kind == 6 then ⟨decide (r8Array x.name u.arrays 0 ≥ 0) && r8types f.types seen x.args [1, 1], none⟩
  else if x.kind == 7 then (if decide (r8Place x.name u.flows 0 ≥ 0) = true then match u.flows[(r8Place x.name u.flows 0).toNat]? with
      | some g => ⟨r8types f.types seen x.args (g.types.take g.params.toNat), some [g.ty]⟩
      | none => ⟨false, none⟩
    else ⟨false, none⟩)
  else if x.kind == 8 then ⟨(x.args.length : Int) == 0, some [1]⟩
  else if x.kind == 9 then ⟨r8types f.types seen x.args [1], none⟩
  else if x.kind == 12 then ⟨w.If && r8types f.types seen x.args w.Yield, none⟩
  else if x.kind == 13 then ⟨w.Loop && r8types f.types seen x.args w.Next, none⟩
  else if x.kind == 14 then ⟨w.Loop && r8types f.types seen x.args w.Left, none⟩
  else if x.kind == 15 then ⟨r8types f.types seen x.args [f.ty], none⟩
  else ⟨false, none⟩
theorem simple_form (u : Un) (f : Fl) (set : List Bool) (x : Nd) (seen : List Int) (w : Wh) : r8simple u f set x seen w = (sForm u f x seen w).run f.types x.outs set := by
  unfold r8simple sForm r8call
  by_cases k1 : (x.kind == 1) = true
  ·rw [if_pos k1, if_pos k1]; rfl
  rw [if_neg k1, if_neg k1]
  by_cases k2 : (x.kind == 2) = true
  ·rw [if_pos k2, if_pos k2]; rfl
  rw [if_neg k2, if_neg k2]
  by_cases k3 : (x.kind == 3) = true
  ·rw [if_pos k3, if_pos k3]; rfl
  rw [if_neg k3, if_neg k3]
  by_cases k4 : (x.kind == 4) = true
  ·rw [if_pos k4, if_pos k4]; rfl
  rw [if_neg k4, if_neg k4]
  by_cases k5 : (x.kind == 5) = true
  ·rw [if_pos k5, if_pos k5]; rfl
  rw [if_neg k5, if_neg k5]
  by_cases k6 : (x.kind == 6) = true
  ·rw [if_pos k6, if_pos k6]; rfl
  rw [if_neg k6, if_neg k6]
  by_cases k7 : (x.kind == 7) = true
  ·rw [if_pos k7, if_pos k7]
   by_cases hp : decide (r8Place x.name u.flows 0 ≥ 0) = true
   ·rw [if_pos hp, if_pos hp]
    cases u.flows[(r8Place x.name u.flows 0).toNat]? with
    | none => rfl
    | some g => rfl
   rw [if_neg hp, if_neg hp]; rfl
  rw [if_neg k7, if_neg k7]
  by_cases k8 : (x.kind == 8) = true
  ·rw [if_pos k8, if_pos k8]; rfl
  rw [if_neg k8, if_neg k8]
  by_cases k9 : (x.kind == 9) = true
  ·rw [if_pos k9, if_pos k9]; rfl
  rw [if_neg k9, if_neg k9]
  by_cases k12 : (x.kind == 12) = true
  ·rw [if_pos k12, if_pos k12]; rfl
  rw [if_neg k12, if_neg k12]
  by_cases k13 : (x.kind == 13) = true
  ·rw [if_pos k13, if_pos k13]; rfl
  rw [if_neg k13, if_neg k13]
  by_cases k14 : (x.kind == 14) = true
  ·rw [if_pos k14, if_pos k14]; rfl
  rw [if_neg k14, if_neg k14]
  by_cases k15 : (x.kind == 15) = true
  ·rw [if_pos k15, if_pos k15]; rfl
  rw [if_neg k15, if_neg k15]
  rfl
theorem run_iff {tys outs : List Int} {set : List Bool} (s : SForm) (hn : set.length = tys.length) : ((s.run tys outs set).1 = true ↔ s.ok tys outs = true ∧ Frs set outs) ∧ ((s.run tys outs set).1 = true → (s.run tys outs set).2 = marks set outs) := by
  obtain ⟨b, want⟩ := s
  cases want with
  | some wt =>
    obtain ⟨h1, h2⟩ := sets_iff tys set outs wt hn
    simp only [SForm.run, SForm.ok, andS]
    cases b with
    | false => simp
    | true => simp only [if_true, Bool.true_and]; exact ⟨h1, h2⟩
  | none =>
    simp only [SForm.run, SForm.ok]
    constructor
    ·constructor
     ·intro h
      refine ⟨h, ?_⟩
      simp only [Bool.and_eq_true, beq_iff_eq] at h
      have : outs = [] := List.eq_nil_of_length_eq_zero (by omega)
      subst this
      exact ⟨by simp, fun v hv => by simp at hv⟩
     exact fun h => h.1
    intro h
    simp only [Bool.and_eq_true, beq_iff_eq] at h
    have : outs = [] := List.eq_nil_of_length_eq_zero (by omega)
    subst this
    rfl
theorem ok_in {tys outs : List Int} {s : SForm} (h : s.ok tys outs = true) : inR tys.length outs := by
  obtain ⟨b, want⟩ := s
  cases want with
  | some wt => simp only [SForm.ok, Bool.and_eq_true] at h; exact vOuts_in h.2
  | none =>
    simp only [SForm.ok, Bool.and_eq_true, beq_iff_eq] at h
    have : outs = [] := List.eq_nil_of_length_eq_zero (by omega)
    subst this
    exact fun v hv => by simp at hv
mutual
def dN : Nd → List Int
  | .mk _ _ _ _ _ outs params ks => params ++ (dK ks ++ outs)
def dL : List Nd → List Int
  | [] => []
  | x :: r => dN x ++ dL r
def dK : List (List Nd) → List Int
  | [] => []
  | l :: r => dL l ++ dK r
end
theorem dN_eq (x : Nd) : dN x = x.params ++ (dK x.kids ++ x.outs) := by cases x; simp [dN, Nd.params, Nd.kids, Nd.outs]
def zer (l : List Int) : List Int := List.replicate l.length 0
def w1 (w : Wh) (f : Fl) (x : Nd) : Wh := ⟨true, w.Loop, r8of f.types x.outs, w.Next, w.Left⟩
def w2 (f : Fl) (x : Nd) : Wh := ⟨false, true, [], r8of f.types x.params, r8of f.types x.outs⟩
def outOk (x : Nd) : Bool := (x.outs.length : Int) == 0 || !r8Closed x
mutual
def vNode (u : Un) (f : Fl) (deep : Int) (w : Wh) (seen : List Int) : Nd → Bool
  | .mk kind op n name args outs params kids =>
    r8bare (.mk kind op n name args outs params kids) &&
    (if kind == 10 then
      match kids with
      | a :: b :: _ => r8types f.types seen args [2] && (!a.isEmpty && vGo u f (deep + 1) (w1 w f (.mk kind op n name args outs params kids)) seen a) && (!b.isEmpty && vGo u f (deep + 1) (w1 w f (.mk kind op n name args outs params kids)) seen b) &&
          outOk (.mk kind op n name args outs params kids) && vOuts f.types outs (zer outs)
      | _ => false
    else if kind == 11 then
      match kids with
      | a :: _ => r8types f.types seen args (r8of f.types params) && vOuts f.types params (zer params) && (!a.isEmpty && vGo u f (deep + 1) (w2 f (.mk kind op n name args outs params kids)) (seen ++ params) a) &&
          outOk (.mk kind op n name args outs params kids) && vOuts f.types outs (zer outs)
      | _ => false
    else (sForm u f (.mk kind op n name args outs params kids) seen w).ok f.types outs)
def vGo (u : Un) (f : Fl) (deep : Int) (w : Wh) (all : List Int) : List Nd → Bool
  | [] => true
  | x :: r => !decide (deep > 100) && vNode u f deep w all x && (r8Closed x == r.isEmpty) && vGo u f deep w (all ++ x.outs) r
end
def vList (u : Un) (f : Fl) (deep : Int) (w : Wh) (all : List Int) (l : List Nd) : Bool := !l.isEmpty && vGo u f deep w all l
theorem vNode_if (u : Un) (f : Fl) (deep : Int) (w : Wh) (seen : List Int) {x : Nd} {a b : List Nd} (h : r8bare x = true) (hk : x.kind = 10) (hx : x.kids = [a, b]) :
    vNode u f deep w seen x = (r8types f.types seen x.args [2] && vList u f (deep + 1) (w1 w f x) seen a && vList u f (deep + 1) (w1 w f x) seen b && outOk x && vOuts f.types x.outs (zer x.outs)) := by
  cases x
  simp only [Nd.kind, Nd.kids] at hk hx
  subst hk hx
  unfold vNode
  simp only [h, Bool.true_and, Nd.args, Nd.outs]
  rfl
theorem vNode_loop (u : Un) (f : Fl) (deep : Int) (w : Wh) (seen : List Int) {x : Nd} {a : List Nd} (h : r8bare x = true) (hk : x.kind = 11) (hx : x.kids = [a]) :
    vNode u f deep w seen x = (r8types f.types seen x.args (r8of f.types x.params) && vOuts f.types x.params (zer x.params) && vList u f (deep + 1) (w2 f x) (seen ++ x.params) a && outOk x && vOuts f.types x.outs (zer x.outs)) := by
  cases x
  simp only [Nd.kind, Nd.kids] at hk hx
  subst hk hx
  unfold vNode
  simp only [h, Bool.true_and, Nd.args, Nd.outs, Nd.params]
  rfl
theorem vNode_simple (u : Un) (f : Fl) (deep : Int) (w : Wh) (seen : List Int) {x : Nd} (h : r8bare x = true) (h1 : (x.kind == 10) = false) (h2 : (x.kind == 11) = false) :
    vNode u f deep w seen x = (sForm u f x seen w).ok f.types x.outs := by
  cases x
  simp only [Nd.kind] at h1 h2
  unfold vNode
  simp only [h, Bool.true_and, Nd.outs, h1, h2, Bool.false_eq_true, if_false]
theorem vNode_bare (u : Un) (f : Fl) (deep : Int) (w : Wh) (seen : List Int) {x : Nd} (h : vNode u f deep w seen x = true) : r8bare x = true := by
  cases x
  unfold vNode at h
  simp only [Bool.and_eq_true] at h
  exact h.1
theorem bare_params {x : Nd} (h : r8bare x = true) (hk : (x.kind == 11) = false) : x.params = [] := by
  simp only [r8bare, Bool.and_eq_true, hk, Bool.false_or, beq_iff_eq] at h
  exact List.eq_nil_of_length_eq_zero (by omega)
theorem bare_kids0 {x : Nd} (h : r8bare x = true) (h1 : (x.kind == 10) = false) (h2 : (x.kind == 11) = false) : x.kids = [] := by
  have := r8bare_kids h
  simp only [r8kn, h1, h2, Bool.false_eq_true, if_false] at this
  exact List.eq_nil_of_length_eq_zero (by omega)
theorem dN_simple {x : Nd} (h : r8bare x = true) (h1 : (x.kind == 10) = false) (h2 : (x.kind == 11) = false) : dN x = x.outs := by
  rw [dN_eq, bare_params h h2, bare_kids0 h h1 h2]; rfl
theorem dN_if {x : Nd} {a b : List Nd} (h : r8bare x = true) (hk : x.kind = 10) (hx : x.kids = [a, b]) : dN x = dL a ++ (dL b ++ x.outs) := by
  rw [dN_eq, bare_params h (by rw [hk]; rfl), hx]; simp [dK]
theorem dN_loop {x : Nd} {a : List Nd} (hx : x.kids = [a]) : dN x = x.params ++ (dL a ++ x.outs) := by
  rw [dN_eq, hx]; simp [dK]
theorem inR_app {n : Nat} {a b : List Int} : inR n (a ++ b) ↔ inR n a ∧ inR n b :=
  ⟨fun h => ⟨fun v hv => h v (by simp [hv]), fun v hv => h v (by simp [hv])⟩, fun h v hv => (List.mem_append.1 hv).elim (h.1 v) (h.2 v)⟩
theorem frs_app3 {n : Nat} {set : List Bool} {a b d : List Int} (hn : set.length = n) (ha : inR n a) (hb : inR n b) (hd : inR n d) : Frs set (a ++ (b ++ d)) ↔ Frs set a ∧ Frs (marks set a) b ∧ Frs (marks (marks set a) b) d := by
  rw [frs_app hn ha (inR_app.2 ⟨hb, hd⟩), frs_app ((marks_length a set).trans hn) hb hd]
def RG (u : Un) (f : Fl) (l : List Nd) : Prop := ∀ (deep : Int) (w : Wh) (all : List Int), vGo u f deep w all l = true → inR f.types.length (dL l)
theorem node_in (u : Un) (f : Fl) (x : Nd) (ih : ∀ q ∈ x.kids, RG u f q) (deep : Int) (w : Wh) (seen : List Int) (h : vNode u f deep w seen x = true) : inR f.types.length (dN x) := by
  have hb := vNode_bare u f deep w seen h
  by_cases h10 : x.kind = 10
  ·obtain ⟨a, b, hk⟩ := r8bare_if hb h10
   rw [vNode_if u f deep w seen hb h10 hk] at h
   simp only [Bool.and_eq_true, vList] at h
   rw [dN_if hb h10 hk]
   exact inR_app.2 ⟨ih a (by rw [hk]; simp) _ _ _ h.1.1.1.2.2, inR_app.2 ⟨ih b (by rw [hk]; simp) _ _ _ h.1.1.2.2, vOuts_in h.2⟩⟩
  by_cases h11 : x.kind = 11
  ·obtain ⟨a, hk⟩ := r8bare_loop hb h11
   rw [vNode_loop u f deep w seen hb h11 hk] at h
   simp only [Bool.and_eq_true, vList] at h
   rw [dN_loop hk]
   exact inR_app.2 ⟨vOuts_in h.1.1.1.2, inR_app.2 ⟨ih a (by rw [hk]; simp) _ _ _ h.1.1.2.2, vOuts_in h.2⟩⟩
  have e10 : (x.kind == 10) = false := by simpa using h10
  have e11 : (x.kind == 11) = false := by simpa using h11
  rw [vNode_simple u f deep w seen hb e10 e11] at h
  rw [dN_simple hb e10 e11]
  exact ok_in h
theorem go_in (u : Un) (f : Fl) : ∀ (l : List Nd), (∀ x ∈ l, ∀ q ∈ x.kids, RG u f q) → RG u f l
  | [], _ => fun _ _ _ _ v hv => by simp [dL] at hv
  | x :: r, ih => fun deep w all h => by
    simp only [vGo, Bool.and_eq_true] at h
    exact inR_app.2 ⟨node_in u f x (ih x (.head _)) _ _ _ h.1.1.2, go_in u f r (fun y hy => ih y (.tail _ hy)) _ _ _ h.2⟩
theorem rg_all (u : Un) (f : Fl) : ∀ (N : Nat) (l : List Nd), SizeOf.sizeOf l < N → RG u f l
  | 0, _, h => absurd h (Nat.not_lt_zero _)
  | N + 1, l, hN => go_in u f l fun x hx q hq => rg_all u f N q (Nat.lt_of_lt_of_le (kid_lt hx rfl hq) (Nat.le_of_lt_succ hN))
theorem rg (u : Un) (f : Fl) (l : List Nd) : RG u f l := rg_all u f _ l (Nat.lt_succ_self _)
def CH (u : Un) (f : Fl) (l : List Nd) : Prop := ∀ (deep : Int) (w : Wh) (seen : List Int) (set : List Bool), set.length = f.types.length →
  ((r8list u f deep w seen set l).1 = true ↔ vList u f deep w seen l = true ∧ Frs set (dL l)) ∧ ((r8list u f deep w seen set l).1 = true → (r8list u f deep w seen set l).2 = marks set (dL l))
theorem andT_iff {q : Bool × List Bool} {k : List Bool → Bool × List Bool} : ((andT q k).1 = true ↔ q.1 = true ∧ (k q.2).1 = true) ∧ ((andT q k).1 = true → (andT q k).2 = (k q.2).2) := by
  unfold andT
  cases q.1 with
  | false => simp
  | true => simp
theorem end_iff (f : Fl) (x : Nd) (set : List Bool) (hn : set.length = f.types.length) : ((r8end f x set).1 = true ↔ (outOk x = true ∧ vOuts f.types x.outs (zer x.outs) = true) ∧ Frs set x.outs) ∧ ((r8end f x set).1 = true → (r8end f x set).2 = marks set x.outs) := by
  obtain ⟨h1, h2⟩ := sets_iff f.types set x.outs (zer x.outs) hn
  unfold r8end andS
  show ((if outOk x = true then _ else _ : Bool × List Bool).1 = true ↔ _) ∧ _
  by_cases ho : outOk x = true
  ·simp only [ho, if_true, true_and]
   exact ⟨h1, fun h => by
     have ho2 : ((x.outs.length : Int) == 0 || !r8Closed x) = true := ho
     rw [if_pos ho2] at h ⊢
     exact h2 h⟩
  have ho2 : ¬ ((x.outs.length : Int) == 0 || !r8Closed x) = true := ho
  rw [if_neg ho, if_neg ho2]
  simp [ho]
theorem node_iff (u : Un) (f : Fl) (x : Nd) (ih : ∀ q ∈ x.kids, CH u f q) (deep : Int) (w : Wh) (seen : List Int) (set : List Bool) (hn : set.length = f.types.length) :
    ((r8node u f deep w seen set x).1 = true ↔ vNode u f deep w seen x = true ∧ Frs set (dN x)) ∧ ((r8node u f deep w seen set x).1 = true → (r8node u f deep w seen set x).2 = marks set (dN x)) := by
  cases hb : r8bare x with
  | false =>
    rw [r8node_bare _ _ _ _ _ _ hb]
    refine ⟨⟨fun h => (by cases h), fun h => ?_⟩, fun h => by cases h⟩
    have := vNode_bare u f deep w seen h.1
    rw [hb] at this; cases this
  | true =>
    by_cases h10 : x.kind = 10
    ·obtain ⟨a, b, hk⟩ := r8bare_if hb h10
     rw [r8node_if _ _ _ _ _ _ hb h10 hk, vNode_if u f deep w seen hb h10 hk, dN_if hb h10 hk, show (⟨true, w.Loop, r8of f.types x.outs, w.Next, w.Left⟩ : Wh) = w1 w f x from rfl]
     by_cases ht : r8types f.types seen x.args [2] = true
     ·rw [if_pos ht]
      obtain ⟨a1, a2⟩ := ih a (by rw [hk]; simp) (deep + 1) (w1 w f x) seen set hn
      have hna : (marks set (dL a)).length = f.types.length := (marks_length _ _).trans hn
      obtain ⟨b1, b2⟩ := ih b (by rw [hk]; simp) (deep + 1) (w1 w f x) seen (marks set (dL a)) hna
      have hnb : (marks (marks set (dL a)) (dL b)).length = f.types.length := (marks_length _ _).trans hna
      obtain ⟨e1, e2⟩ := end_iff f x (marks (marks set (dL a)) (dL b)) hnb
      have key : (andT (r8list u f (deep + 1) (w1 w f x) seen set a) (fun s1 => andT (r8list u f (deep + 1) (w1 w f x) seen s1 b) fun s2 => r8end f x s2)).1 = true ↔
          (r8list u f (deep + 1) (w1 w f x) seen set a).1 = true ∧ (r8list u f (deep + 1) (w1 w f x) seen (marks set (dL a)) b).1 = true ∧ (r8end f x (marks (marks set (dL a)) (dL b))).1 = true := by
        rw [andT_iff.1]
        refine and_congr_right fun h => ?_
        rw [a2 h, andT_iff.1]
        exact and_congr_right fun h2 => by rw [b2 h2]
      refine ⟨?_, fun h => ?_⟩
      ·rw [key, a1, b1, e1]
       simp only [ht, Bool.true_and, Bool.and_eq_true]
       constructor
       ·rintro ⟨⟨c1, c2⟩, ⟨c3, c4⟩, ⟨c5, c6⟩, c7⟩
        have ra := rg u f a _ _ _ (by simp only [vList, Bool.and_eq_true] at c1; exact c1.2)
        have rb := rg u f b _ _ _ (by simp only [vList, Bool.and_eq_true] at c3; exact c3.2)
        exact ⟨⟨⟨⟨c1, c3⟩, c5⟩, c6⟩, (frs_app3 hn ra rb (vOuts_in c6)).2 ⟨c2, c4, c7⟩⟩
       rintro ⟨⟨⟨⟨c1, c3⟩, c5⟩, c6⟩, c7⟩
       have ra := rg u f a _ _ _ (by simp only [vList, Bool.and_eq_true] at c1; exact c1.2)
       have rb := rg u f b _ _ _ (by simp only [vList, Bool.and_eq_true] at c3; exact c3.2)
       obtain ⟨d1, d2, d3⟩ := (frs_app3 hn ra rb (vOuts_in c6)).1 c7
       exact ⟨⟨c1, d1⟩, ⟨c3, d2⟩, ⟨c5, c6⟩, d3⟩
      obtain ⟨k1, k2, k3⟩ := key.1 h
      have h' := (andT_iff.1.1 h).2
      rw [andT_iff.2 h, a2 k1]
      rw [a2 k1] at h'
      rw [andT_iff.2 h', b2 k2, e2 k3, marks_app, marks_app]
     rw [if_neg ht]
     refine ⟨⟨fun h => (by cases h), fun h => ?_⟩, fun h => by cases h⟩
     simp only [Bool.and_eq_true] at h
     exact absurd h.1.1.1.1.1 ht
    by_cases h11 : x.kind = 11
    ·obtain ⟨a, hk⟩ := r8bare_loop hb h11
     rw [r8node_loop _ _ _ _ _ _ hb h11 hk, vNode_loop u f deep w seen hb h11 hk, dN_loop hk, show (⟨false, true, [], r8of f.types x.params, r8of f.types x.outs⟩ : Wh) = w2 f x from rfl, show List.replicate x.params.length 0 = zer x.params from rfl]
     by_cases ht : r8types f.types seen x.args (r8of f.types x.params) = true
     ·rw [if_pos ht]
      obtain ⟨a1, a2⟩ := sets_iff f.types set x.params (zer x.params) hn
      have hna : (marks set x.params).length = f.types.length := (marks_length _ _).trans hn
      obtain ⟨b1, b2⟩ := ih a (by rw [hk]; simp) (deep + 1) (w2 f x) (seen ++ x.params) (marks set x.params) hna
      have hnb : (marks (marks set x.params) (dL a)).length = f.types.length := (marks_length _ _).trans hna
      obtain ⟨e1, e2⟩ := end_iff f x (marks (marks set x.params) (dL a)) hnb
      have key : (andT (r8sets f.types set x.params (zer x.params)) (fun s1 => andT (r8list u f (deep + 1) (w2 f x) (seen ++ x.params) s1 a) fun s2 => r8end f x s2)).1 = true ↔
          (r8sets f.types set x.params (zer x.params)).1 = true ∧ (r8list u f (deep + 1) (w2 f x) (seen ++ x.params) (marks set x.params) a).1 = true ∧ (r8end f x (marks (marks set x.params) (dL a))).1 = true := by
        rw [andT_iff.1]
        refine and_congr_right fun h => ?_
        rw [a2 h, andT_iff.1]
        exact and_congr_right fun h2 => by rw [b2 h2]
      refine ⟨?_, fun h => ?_⟩
      ·rw [key, a1, b1, e1]
       simp only [ht, Bool.true_and, Bool.and_eq_true]
       constructor
       ·rintro ⟨⟨c1, c2⟩, ⟨c3, c4⟩, ⟨c5, c6⟩, c7⟩
        have rb := rg u f a _ _ _ (by simp only [vList, Bool.and_eq_true] at c3; exact c3.2)
        exact ⟨⟨⟨⟨c1, c3⟩, c5⟩, c6⟩, (frs_app3 hn (vOuts_in c1) rb (vOuts_in c6)).2 ⟨c2, c4, c7⟩⟩
       rintro ⟨⟨⟨⟨c1, c3⟩, c5⟩, c6⟩, c7⟩
       have rb := rg u f a _ _ _ (by simp only [vList, Bool.and_eq_true] at c3; exact c3.2)
       obtain ⟨d1, d2, d3⟩ := (frs_app3 hn (vOuts_in c1) rb (vOuts_in c6)).1 c7
       exact ⟨⟨c1, d1⟩, ⟨c3, d2⟩, ⟨c5, c6⟩, d3⟩
      obtain ⟨k1, k2, k3⟩ := key.1 h
      have h' := (andT_iff.1.1 h).2
      rw [andT_iff.2 h, a2 k1]
      rw [a2 k1] at h'
      rw [andT_iff.2 h', b2 k2, e2 k3, marks_app, marks_app]
     rw [if_neg ht]
     refine ⟨⟨fun h => (by cases h), fun h => ?_⟩, fun h => by cases h⟩
     simp only [Bool.and_eq_true] at h
     exact absurd h.1.1.1.1.1 ht
    have e10 : (x.kind == 10) = false := by simpa using h10
    have e11 : (x.kind == 11) = false := by simpa using h11
    rw [r8node_simple _ _ _ _ _ _ hb e10 e11, vNode_simple u f deep w seen hb e10 e11, dN_simple hb e10 e11, simple_form]
    exact run_iff _ hn
theorem go_iff (u : Un) (f : Fl) (deep : Int) (w : Wh) : ∀ (l : List Nd), (∀ x ∈ l, ∀ q ∈ x.kids, CH u f q) → ∀ (all : List Int) (set : List Bool), set.length = f.types.length →
    ((r8go u f deep w all set l).1 = true ↔ vGo u f deep w all l = true ∧ Frs set (dL l)) ∧ ((r8go u f deep w all set l).1 = true → (r8go u f deep w all set l).2 = marks set (dL l))
  | [], _, all, set, _ => by simp [r8go, vGo, dL, Frs, marks]
  | x :: r, ih, all, set, hn => by
    obtain ⟨n1, n2⟩ := node_iff u f x (ih x (.head _)) deep w all set hn
    have hm : (marks set (dN x)).length = f.types.length := (marks_length _ _).trans hn
    obtain ⟨r1, r2⟩ := go_iff u f deep w r (fun y hy => ih y (.tail _ hy)) (all ++ x.outs) (marks set (dN x)) hm
    unfold r8go vGo
    by_cases hd : deep > 100
    ·rw [if_pos hd]
     simp [hd]
    rw [if_neg hd]
    have hdb : (!decide (deep > 100)) = true := by simpa using hd
    by_cases hc : (r8Closed x != r.isEmpty) = true
    ·have hcb : (r8Closed x == r.isEmpty) = false := by
       cases hcc : (r8Closed x == r.isEmpty) with
       | false => rfl
       | true => simp [bne, hcc] at hc
     simp only [if_pos hc, hcb, Bool.and_false, Bool.false_and, Bool.false_eq_true, false_and, iff_false, Bool.not_eq_true]
     have : (andT (r8node u f deep w all set x) fun s1 => (false, s1)).1 = false := by
       unfold andT; split <;> rfl
     exact ⟨this, fun h => by rw [this] at h; cases h⟩
    have hcb : (r8Closed x == r.isEmpty) = true := by
      cases hcc : (r8Closed x == r.isEmpty) with
      | true => rfl
      | false => simp [bne, hcc] at hc
    simp only [if_neg hc, hcb, hdb, Bool.true_and, Bool.and_true, Bool.and_eq_true]
    have key : (andT (r8node u f deep w all set x) fun s1 => r8go u f deep w (all ++ x.outs) s1 r).1 = true ↔ (r8node u f deep w all set x).1 = true ∧ (r8go u f deep w (all ++ x.outs) (marks set (dN x)) r).1 = true := by
      rw [andT_iff.1]
      exact and_congr_right fun h => by rw [n2 h]
    refine ⟨?_, fun h => ?_⟩
    ·rw [key, n1, r1]
     constructor
     ·rintro ⟨⟨c1, c2⟩, c3, c4⟩
      exact ⟨⟨c1, c3⟩, (frs_app hn (node_in u f x (fun q _ => rg u f q) _ _ _ c1) (rg u f r _ _ _ c3)).2 ⟨c2, c4⟩⟩
     rintro ⟨⟨c1, c3⟩, c4⟩
     obtain ⟨d1, d2⟩ := (frs_app hn (node_in u f x (fun q _ => rg u f q) _ _ _ c1) (rg u f r _ _ _ c3)).1 c4
     exact ⟨⟨c1, d1⟩, c3, d2⟩
    obtain ⟨k1, k2⟩ := key.1 h
    rw [andT_iff.2 h, n2 k1, r2 k2]
    show _ = marks set (dN x ++ dL r)
    rw [marks_app]
theorem ch_all (u : Un) (f : Fl) : ∀ (N : Nat) (l : List Nd), SizeOf.sizeOf l < N → CH u f l
  | 0, _, h => absurd h (Nat.not_lt_zero _)
  | N + 1, l, hN => by
    intro deep w seen set hn
    obtain ⟨h1, h2⟩ := go_iff u f deep w l (fun x hx q hq => ch_all u f N q (Nat.lt_of_lt_of_le (kid_lt hx rfl hq) (Nat.le_of_lt_succ hN))) seen set hn
    unfold r8list ne vList
    cases l with
    | nil => simp
    | cons x r => simpa using ⟨h1, h2⟩
theorem r8list_iff (u : Un) (f : Fl) (l : List Nd) (deep : Int) (w : Wh) (seen : List Int) (set : List Bool) (hn : set.length = f.types.length) : (r8list u f deep w seen set l).1 = true ↔ vList u f deep w seen l = true ∧ Frs set (dL l) :=
  (ch_all u f _ l (Nat.lt_succ_self _) deep w seen set hn).1
theorem flows_iff (u : Un) : ∀ (l : List Fl) (i : Int), (r8flows u l i).1 = 0 ↔ ∀ f ∈ l, r8Flow u f = true
  | [], _ => by simp [r8flows]
  | f :: r, i => by
    unfold r8flows
    cases h : r8Flow u f with
    | false => simp [h]
    | true => simp [h, flows_iff u r (i + 1)]
theorem check_iff (u : Un) : (r8Check u).1 = 0 ↔ r8globals u = true ∧ ∀ f ∈ u.flows, r8Flow u f = true := by
  unfold r8Check
  cases h : r8globals u with
  | false => simp
  | true => simp [flows_iff]
theorem wtL_app : ∀ (a b : List Nd), wtL (a ++ b) = wtL a + wtL b
  | [], b => by simp [wtL]
  | x :: r, b => by simp only [List.cons_append, wtL, wtL_app r b]; omega
section
section
variable {α β : Type} [DecidableEq α]
end
structure Ky where
  kind : Int
  op : Int
  n : Int
  a : Int
  b : Int
  deriving DecidableEq
abbrev TT := List (Int × Int)
structure Tb where
  seen : List (Ky × Int)
  nums : TT
end
section
variable {P : Program} {c : Cx} {R1 : Nat → Prop} {o : Oper} {fr : Fr} {hp : Hp} {σ : Heap'} {Q : Exit → Fr → Heap' → Prop}
theorem Names.one {Q : Nat → Prop} {x : IV} (h : Names Q x) : ∃ k, Q k ∧ Names (· = k) x := by
  induction h with
  | ptr h => exact ⟨_, h, .ptr rfl⟩
  | sl h => exact ⟨_, h, .sl rfl⟩
  | rpt h => exact ⟨_, h, .rpt rfl⟩
  | bs h => exact ⟨_, h, .bs rfl⟩
  | mp h => exact ⟨_, h, .mp rfl⟩
  | tnil h => exact ⟨_, h, .tnil rfl⟩
  | agg hc _ ih => obtain ⟨k, h1, h2⟩ := ih; exact ⟨k, h1, .agg hc h2⟩
  | tup hc _ ih => obtain ⟨k, h1, h2⟩ := ih; exact ⟨k, h1, .tup hc h2⟩
  | fn1 hc _ ih => obtain ⟨k, h1, h2⟩ := ih; exact ⟨k, h1, .fn1 hc h2⟩
  | fn2 hc _ ih => obtain ⟨k, h1, h2⟩ := ih; exact ⟨k, h1, .fn2 hc h2⟩
open Classical in
theorem SC.stepN {ns : List Nat} {f : FuncId} {args : List IV} {pre post : List (Nat × HO)} {R : Nat → Prop} {r : IV} {hp : Hp} {ρ : Loc} {w : World} {a : Act} {vs : List Value} (hsc : SC P f args pre R r post)
    (h : All c ρ (look hp) w fr a) (hargs : RepL c.F ρ (look hp) w args vs) (hpre : ∀ k o, look (up pre) k = some o → look hp k = some o) (hdom : post.map (·.1) = ns ++ pre.map (·.1)) (hσ0 : ∀ k ∈ ns, look hp k = none) (hc0 : ∀ k ∈ ns, c.σ k = none) (hfr0 : ∀ k ∈ ns, nmFr k fr = false) (hhp0 : ∀ k ∈ ns, nmHp k hp = false)
    (hR : ∀ k, c.R k → look (up pre) k = none ∨ R k) (hr : only (post.map (·.1)) r = true) (hpost : onlyHp (post.map (·.1)) post = true) :
    Calls P f vs.toArray w fun e w' => ∃ ρ' v, e = .returned v ∧ All c ρ' (look (up post ++ hp)) w' fr a ∧ RepI c.F ρ' (look (up post ++ hp)) w' r v := by
  have hd : ∀ k, look (up post) k = none ↔ look (up pre) k = none ∧ k ∉ ns := fun k => by
    rw [look_up_none, look_up_none, hdom, List.mem_append, not_or]
    exact And.comm
  have hpp : ∀ k, look (up post) k ≠ none → look hp k ≠ none → look (up pre) k ≠ none := fun k e e1 e2 => by
    by_cases e3 : k ∈ ns
    ·exact e1 (hσ0 k e3)
    exact e ((hd k).2 ⟨e2, e3⟩)
  let ρ1 : Loc := fun k => if look (up pre) k = none then none else ρ k
  let F1 : Nat → Prop := fun b => c.F b ∨ ∃ k cc, ρ k = some (b, cc) ∧ look (up pre) k = none
  have h1in : ∀ k, look (up pre) k ≠ none → ρ1 k = ρ k := fun k hk => if_neg hk
  have h1out : ∀ k, look (up pre) k = none → ρ1 k = none := fun k hk => if_pos hk
  have h1 : ∀ k l, ρ1 k = some l → look (up pre) k ≠ none ∧ ρ k = some l := fun k l hk => by
    by_cases e : look (up pre) k = none
    ·rw [h1out k e] at hk; cases hk
    exact ⟨e, (h1in k e) ▸ hk⟩
  have hown1 : ∀ b, owned F1 ρ1 b → owned c.F ρ b := fun b hb => by
    rcases hb with (hb | ⟨k, cc, hk, _⟩) | ⟨k, cc, hk⟩
    ·exact .inl hb
    ·exact .inr ⟨k, cc, hk⟩
    exact .inr ⟨k, cc, (h1 k _ hk).2⟩
  have hconv : ∀ x : IV, ¬ Names (fun k => ¬ ∀ o, look (up pre) k = some o → look hp k = some o ∧ ρ1 k = ρ k) x := fun x hx => by
    obtain ⟨k, hk⟩ := hx.some
    exact hk fun o ho => ⟨hpre k o ho, h1in k (by simp [ho])⟩
  have hrel1 : RelH F1 ρ1 (look (up pre)) w := by
    refine ⟨fun k k' b cc cc' hk hk' => h.rel.inj k k' b cc cc' (h1 _ _ hk).2 (h1 _ _ hk').2, fun k b cc hk hb => ?_, fun b hb => ?_, fun k b cc hk => ?_, fun k o hk hρ => ?_⟩
    ·rcases hb with hb | ⟨k', cc', hk', hn⟩
     ·exact h.rel.apart k b cc (h1 _ _ hk).2 hb
     obtain rfl := h.rel.inj _ _ _ _ _ (h1 _ _ hk).2 hk'
     exact (h1 _ _ hk).1 hn
    ·rcases hb with hb | ⟨k', cc', hk', _⟩
     ·exact h.rel.old b hb
     exact h.rel.lt hk'
    ·obtain ⟨hne, hk2⟩ := h1 _ _ hk
     obtain ⟨o1, ho1, ho2⟩ := h.rel.obj k b cc hk2
     cases hl : look (up pre) k with
     | none => exact absurd hl hne
     | some o2 =>
       rw [hpre k o2 hl] at ho1; cases ho1
       exact ⟨_, rfl, ho2.conv hown1 fun x _ => hconv x⟩
    rw [h1in k (by simp [hk])] at hρ
    exact h.rel.real k o (hpre k o hk) hρ
  refine (hsc F1 ρ1 w vs (h.kept.mono hown1) hrel1 ⟨hargs.1, fun j x hj => ?_⟩).mono ?_
  ·obtain ⟨v, hv, hx⟩ := hargs.2 j x hj
   exact ⟨v, hv, hx.conv hown1 (hconv x)⟩
  rintro e w' ⟨ρ2, v, rfl, hv, hrel2, t⟩
  let ρ' : Loc := fun k => if look (up post) k = none then ρ k else ρ2 k
  have h2in : ∀ k, look (up post) k ≠ none → ρ' k = ρ2 k := fun k hk => if_neg hk
  have h2out : ∀ k, look (up post) k = none → ρ' k = ρ k := fun k hk => if_pos hk
  have h2none : ∀ k, look (up post) k = none → ρ2 k = none := fun k hk => by
    cases h3 : ρ2 k with
    | none => rfl
    | some l =>
      obtain ⟨o1, ho1, _⟩ := hrel2.obj k l.1 l.2 h3
      rw [hk] at ho1; cases ho1
  have hσin : ∀ k, look (up post) k ≠ none → look (up post ++ hp) k = look (up post) k := fun k hk => by
    rw [look_append]
    cases h3 : look (up post) k with
    | none => exact absurd h3 hk
    | some o => rfl
  have hσout : ∀ k, look (up post) k = none → look (up post ++ hp) k = look hp k := fun k hk => by
    rw [look_append, hk]; rfl
  have hown2 : ∀ b, owned c.F ρ' b → owned F1 ρ2 b := fun b hb => by
    rcases hb with hb | ⟨k, cc, hk⟩
    ·exact .inl (.inl hb)
    by_cases e : look (up post) k = none
    ·rw [h2out k e] at hk; exact .inl (.inr ⟨k, cc, hk, ((hd k).1 e).1⟩)
    rw [h2in k e] at hk; exact .inr ⟨k, cc, hk⟩
  have hconv2 : ∀ x : IV, only (post.map (·.1)) x = true → ¬ Names (fun k => ¬ ∀ o, look (up post ++ hp) k = some o → look (up post) k = some o ∧ ρ' k = ρ2 k) x := fun x hx hn => by
    refine only_names hx (hn.imp fun k hk hmem => hk fun o ho => ?_)
    have hne : look (up post) k ≠ none := fun e => (look_up_none.1 e) hmem
    rw [hσin k hne] at ho
    exact ⟨ho, h2in k hne⟩
  have T : Trans c.F (fun k => look (up pre) k = none ∨ R k) ρ (look hp) w ρ' (look (up post ++ hp)) w' := by
    refine ⟨t.os, t.tape, t.output, t.size, fun b hb hall => t.blk b hb fun k cc hk => ?_, fun k b cc hk hb => ?_, fun k cs cs' e1 e2 => ?_, fun k cs cs' e1 e2 => ?_, fun k s s' els els' e1 e2 hl => ?_, fun k s s' els els' e1 e2 => ?_, fun k cs' e2 => ?_, fun k cs' e2 => ?_, fun k s els' e2 => ?_⟩
    ·obtain ⟨hne, hk2⟩ := h1 _ _ hk
     exact (hall k cc hk2).resolve_left hne
    ·by_cases e : look (up post) k = none
     ·rwa [h2out k e] at hk
     rw [h2in k e] at hk; exact (h1 _ _ (t.own k b cc hk hb)).2
    all_goals by_cases e : look (up post) k = none
    ·exact h2out k e
    ·cases h3 : look (up pre) k with
     | none => exact absurd h3 (hpp k e (by simp [e1]))
     | some o =>
       rw [hpre k o h3] at e1; cases e1
       rw [hσin k e] at e2
       rw [h2in k e, t.box k _ _ h3 e2, h1in k (by simp [h3])]
    ·exact h2out k e
    ·cases h3 : look (up pre) k with
     | none => exact absurd h3 (hpp k e (by simp [e1]))
     | some o =>
       rw [hpre k o h3] at e1; cases e1
       rw [hσin k e] at e2
       rw [h2in k e, t.map k _ _ h3 e2, h1in k (by simp [h3])]
    ·exact h2out k e
    ·cases h3 : look (up pre) k with
     | none => exact absurd h3 (hpp k e (by simp [e1]))
     | some o =>
       rw [hpre k o h3] at e1; cases e1
       rw [hσin k e] at e2
       rw [h2in k e, t.row k _ _ _ _ h3 e2 hl, h1in k (by simp [h3])]
    ·rw [hσout k e, e1] at e2; cases e2; exact Nat.le_refl _
    ·cases h3 : look (up pre) k with
     | none => exact absurd h3 (hpp k e (by simp [e1]))
     | some o =>
       rw [hpre k o h3] at e1; cases e1
       rw [hσin k e] at e2
       exact t.grow k _ _ _ _ h3 e2
    ·rw [hσout k e] at e2; exact .inr ⟨_, e2⟩
    ·rw [hσin k e] at e2
     rcases t.kindB k _ e2 with h3 | ⟨cs, h3⟩
     ·by_cases e3 : k ∈ ns
      ·exact .inl (hσ0 k e3)
      exact absurd ((hd k).2 ⟨h3, e3⟩) e
     exact .inr ⟨cs, hpre k _ h3⟩
    ·rw [hσout k e] at e2; exact .inr ⟨_, e2⟩
    ·rw [hσin k e] at e2
     rcases t.kindM k _ e2 with h3 | ⟨cs, h3⟩
     ·by_cases e3 : k ∈ ns
      ·exact .inl (hσ0 k e3)
      exact absurd ((hd k).2 ⟨h3, e3⟩) e
     exact .inr ⟨cs, hpre k _ h3⟩
    ·rw [hσout k e] at e2; exact .inr ⟨_, e2⟩
    rw [hσin k e] at e2
    rcases t.kindR k _ _ e2 with h3 | ⟨cs, h3⟩
    ·by_cases e3 : k ∈ ns
     ·exact .inl (hσ0 k e3)
     exact absurd ((hd k).2 ⟨h3, e3⟩) e
    exact .inr ⟨cs, hpre k _ h3⟩
  have hnone : ∀ k, (look hp k = none ∧ look (up post ++ hp) k ≠ none) → k ∈ ns := fun k hk => by
    by_cases e : look (up post) k = none
    ·rw [hσout k e] at hk; exact absurd hk.1 hk.2
    refine Classical.byContradiction fun e3 => ?_
    have e4 : look (up pre) k ≠ none := fun h3 => e ((hd k).2 ⟨h3, e3⟩)
    cases h3 : look (up pre) k with
    | none => exact e4 h3
    | some o => rw [hpre k o h3] at hk; cases hk.1
  have hnn : ∀ x : IV, (∀ k ∈ ns, nm k x = false) → ¬ Names (fun k => look hp k = none ∧ look (up post ++ hp) k ≠ none) x := fun x hx hn => by
    obtain ⟨k, hk, hk2⟩ := (hn.imp hnone).one
    have := hx k hk
    rw [nm_names hk2] at this; cases this
  refine ⟨ρ', v, rfl, h.step T hR ⟨fun k k' b cc cc' hk hk' => ?_, fun k b cc hk hb => ?_, fun b hb => Nat.lt_of_lt_of_le (h.rel.old b hb) t.size, fun k b cc hk => ?_, fun k o hk hρ => ?_⟩ (fun k e1 e2 => hc0 k (hnone k ⟨e1, e2⟩)) fun _ x hx => hnn x fun k hk => nmFr_get (hfr0 k hk) hx, hv.conv hown2 (hconv2 r hr)⟩
  ·by_cases e : look (up post) k = none <;> by_cases e' : look (up post) k' = none
   ·rw [h2out k e] at hk; rw [h2out k' e'] at hk'; exact h.rel.inj _ _ _ _ _ hk hk'
   ·rw [h2out k e] at hk; rw [h2in k' e'] at hk'
    exact absurd (.inr ⟨k, cc, hk, ((hd k).1 e).1⟩) (hrel2.apart _ _ _ hk')
   ·rw [h2in k e] at hk; rw [h2out k' e'] at hk'
    exact absurd (.inr ⟨k', cc', hk', ((hd k').1 e').1⟩) (hrel2.apart _ _ _ hk)
   rw [h2in k e] at hk; rw [h2in k' e'] at hk'; exact hrel2.inj _ _ _ _ _ hk hk'
  ·by_cases e : look (up post) k = none
   ·rw [h2out k e] at hk; exact h.rel.apart _ _ _ hk hb
   rw [h2in k e] at hk; exact hrel2.apart _ _ _ hk (.inl hb)
  ·by_cases e : look (up post) k = none
   ·rw [h2out k e] at hk
    obtain ⟨o1, ho1, ho2⟩ := h.rel.obj k b cc hk
    refine ⟨o1, (hσout k e).trans ho1, ho2.keep T (t.blk b (h.rel.lt hk) fun k' cc' hk' => ?_) fun x ⟨cs, h3, h4⟩ => hnn x fun k hk => by subst h3; exact nms_mem (nmHp_look (hhp0 k hk) ho1) h4⟩
    obtain ⟨hne, hk2⟩ := h1 _ _ hk'
    obtain rfl := h.rel.inj _ _ _ _ _ hk hk2
    exact absurd ((hd _).1 e).1 hne
   rw [h2in k e] at hk
   obtain ⟨o1, ho1, ho2⟩ := hrel2.obj k b cc hk
   refine ⟨o1, (hσin k e).trans ho1, ho2.conv hown2 fun x ⟨cs, h3, h4⟩ => hconv2 x ?_⟩
   subst h3
   exact onlys_mem (onlyHp_mem hpost (look_up_mem ho1)) h4
  by_cases e : look (up post) k = none
  ·rw [hσout k e] at hk; rw [h2out k e] at hρ; exact h.rel.real k o hk hρ
  rw [hσin k e] at hk; rw [h2in k e] at hρ; exact hrel2.real k o hk hρ
theorem ok_callns {ns : List Nat} {f : FuncId} {os : Array Operand} {tys : Array TypeId} {xs args : List IV} {pre post : List (Nat × HO)} {R : Nat → Prop} {r : IV} {hp : Hp} (hsc : SC P f args pre R r post) (hf : enters P f)
    (ho : o.op = .call { callee := .value (.func f), args := os, argTypes := tys }) (hx : evs fr os.toList = some xs) (hs : Subs (look hp) xs args) (hpre : ∀ k o, look (up pre) k = some o → look hp k = some o) (hdom : post.map (·.1) = ns ++ pre.map (·.1)) (hσ0 : ∀ k ∈ ns, look hp k = none) (hc0 : ∀ k ∈ ns, c.σ k = none) (hfr0 : ∀ k ∈ ns, nmFr k fr = false) (hhp0 : ∀ k ∈ ns, nmHp k hp = false)
    (hR : ∀ k, c.R k → look (up pre) k = none ∨ R k) (hr : only (post.map (·.1)) r = true) (hpost : onlyHp (post.map (·.1)) post = true) : Ok P c o fr (look hp) r (look (up post ++ hp)) := by
  intro ρ w a K Q h hK
  obtain ⟨fn, hfn, hname, hbody⟩ := hf
  have hargs := hs _ _ _ _ (evs_rep h hx)
  have hrun : (execOp a.eval o).run P w = .ok (.enter f (os.toList.map a.eval).toArray) w := by
    have hcall : (callFunc f (os.toList.map a.eval).toArray).run P w = .ok (.enter f (os.toList.map a.eval).toArray) w := by
      unfold callFunc
      simp only [Sem.run_bind]
      show (Result.andThen (.ok P w) _) = _
      simp only [Result.andThen_ok, hfn, hname, hbody]
      rfl
    simp only [execOp, ho, resolve, Act.eval, Deferred.ofValue, Sem.run_bind, Sem.run_pure, Result.andThen_ok, invoke]
    rw [← hcall]
    congr 2
    apply Array.ext'
    simp
  unfold Oper.wp
  rw [hrun, Oper.upon_enter]
  refine (hsc.stepN h hargs hpre hdom hσ0 hc0 hfr0 hhp0 hR hr hpost).mono ?_
  rintro e w' ⟨ρ', v, rfl, h1, h2⟩
  exact hK ρ' w' v h1 h2
structure K5 (P : Program) (t : TypeId) (f0 f1 f2 f3 f4 : Field) : Prop where
  hu : P.underlying t = some (.struct #[f0, f1, f2, f3, f4])
  hs : P.stoodInHeld t = false
  t0 : P.underlying f0.type = some (.int .i64)
  t1 : P.underlying f1.type = some (.int .i64)
  t2 : P.underlying f2.type = some (.int .i64)
  t3 : P.underlying f3.type = some (.int .i64)
  t4 : P.underlying f4.type = some (.int .i64)
  n0 : f0.name ≠ "_"
  n1 : f1.name ≠ "_"
  n2 : f2.name ≠ "_"
  n3 : f3.name ≠ "_"
  n4 : f4.name ≠ "_"
  o0 : f0.offset = 0
  o1 : f1.offset = 1
  o2 : f2.offset = 2
  o3 : f3.offset = 3
  o4 : f4.offset = 4
section
variable {kt : TypeId} {f0 f1 f2 f3 f4 : Field}
end
end
section
variable {P : Program} {c : Cx} {o : Oper} {fr : Fr} {hp : Hp}
theorem All.flatRow {ρ : Loc} {w : World} {a : Act} (h : All c ρ (look hp) w fr a) {x : Operand} {k n : Nat} {s : RT} {els : List (List PV)} (hx : fr.ev x = some (.sl k n)) (hk : look hp k = some (.row s els)) (hn : els.length = n) (hone : ∀ el ∈ els, ∀ x ∈ el, x.one = true) :
    FlatV (owned c.F ρ) w s.n els (a.eval x) := by
  rcases h.row hx hk hn with ⟨b, cc, r, u, hv, hρ, h3, h4, hc, hcm, hwe, hcells, hu⟩ | ⟨hv, hρ, hnil⟩
  ·have key : ∀ q, q < els.length * s.n → ∃ el x, els[q / s.n]? = some el ∧ el.length = s.n ∧ el[q % s.n]? = some x ∧ x.one = true := fun q hq => by
     obtain ⟨h1, h2, h3⟩ := flat_lt hq
     have he := hwe _ (List.getElem_mem h1)
     exact ⟨els[q / s.n], els[q / s.n][q % s.n]'(by omega), List.getElem?_eq_getElem h1, he, List.getElem?_eq_getElem _, hone _ (List.getElem_mem h1) _ (List.getElem_mem _)⟩
   refine ⟨some ⟨b, 0, none⟩, cc, u, by rw [hv, hn], fun _ => ⟨_, rfl, fun j y hj => ?_⟩, fun y hy => ?_, hu⟩
   ·have hq : j < els.length * s.n := by have := (List.getElem?_eq_some_iff.1 hj).1; simpa using this
    obtain ⟨el, x, h1, h2, h5, _⟩ := key j hq
    have hy : y = u (j / s.n) (j % s.n) := by simpa [hq] using hj.symm
    have := hcells _ el h1 _ x h5
    rw [Addr.add_mid, hy, cell_at h3, Nat.zero_add, ← this, (flat_lt hq).2.2]
   obtain ⟨q, hq, rfl⟩ := List.mem_map.1 hy
   obtain ⟨el, x, h1, h2, h5, h6⟩ := key q (by simpa using hq)
   exact (hu _ el h1 _ x h5).one h6
  subst hnil
  exact ⟨none, 0, fun _ _ => undef, by simpa using hv, fun hne => absurd rfl hne, fun y hy => by simp at hy, fun i el hi => by simp at hi⟩
theorem ok_append_row {t : TypeId} {x y : Operand} {k n k2 n2 by_ : Nat} {s : RT} {els news : List (List PV)} (ho : o.op = .call { callee := .builtin .append, args := #[x, y], argTypes := #[t, t] }) (hx : fr.ev x = some (.sl k n)) (hy : fr.ev y = some (.sl k2 n2))
    (hk : look hp k = some (.row s els)) (hn : els.length = n) (hk2 : look hp k2 = some (.row s news)) (hn2 : news.length = n2) (hR : ¬ c.R k) (ht : P.underlying t = some (.slice s.e)) (hi : (P.info? s.e).map (fun i => (i.size, i.bytes, (i.zero.map fun z => z.cells.size))) = some (s.n, by_, some s.n)) (hs : 0 < s.n)
    (hw : ∀ el ∈ news, el.length = s.n) (hone : ∀ el ∈ news, ∀ x ∈ el, x.one = true) (hmax : n + news.length ≤ maxLen) (hb : (n + news.length) * by_ ≤ 140737488355328) :
    Ok P c o fr (look hp) (.sl k (n + news.length)) (look ((k, some (.row s (els ++ news))) :: hp)) :=
  ok_append_flat ho hx (fun ρ w a h => h.flatRow hy hk2 hn2 hone) hk hn hR ht hi hs hw hmax hb
theorem buildSlice_run {t e : TypeId} {len s : Nat} {parts : Array (Nat × Operand)} {xs : List (Nat × IV)} {z : Value} {out : List IV} {ρ : Loc} {w : World} {a : Act} (h : All c ρ (look hp) w fr a) (ho : o.op = .buildSlice t len parts) (hx : evParts fr parts.toList = some xs)
    (hu : P.underlying t = some (.slice e)) (hz : ((P.info? e).bind (·.zero)) = some z) (hs : (P.info? e).map (·.size) = some s) (hzs : z.cells.size = s) (hpos : Nat.ble 1 s = true) (hsmall : Nat.ble (len * s) (2 ^ 24) = true)
    (hf : fillIV (fun i => some (i * s, s)) (repIV z len) xs = some out) (hfirm : firmParts (look hp) xs) :
    ∃ vs, CellsRep c.F ρ (look hp) w out vs ∧ out.length = len * s ∧ (execOp a.eval o).run P w = .ok (.value (.slice (some ⟨w.heap.size, 0, none⟩) len len)) (w.alloc (.cells vs e)) := by
  have hpos' : 0 < s := Nat.le_of_ble_eq_true hpos
  have hsmall' := Nat.le_of_ble_eq_true hsmall
  have hzv : (zeroValue e).run P w = .ok z w := by
    cases hq : P.info? e with
    | none => simp [hq] at hz
    | some i => simp [hq] at hz; simp [zeroValue, typeInfo, hq, hz]
  obtain ⟨hl, hv⟩ := evParts_rep h hx
  obtain ⟨hrl, hrg⟩ := repIV_get (z := z) (by omega) len
  have hrep : CellsRep c.F ρ (look hp) w (repIV z len) ((Array.range (len * s)).map (z.cells[· % z.cells.size]!)) := by
    refine ⟨by simp [hrl, hzs], fun j x hj => ?_⟩
    have hjl : j < len * s := by have := (List.getElem?_eq_some_iff.1 hj).1; rw [hrl, hzs] at this; exact this
    rw [hrg j x hj]
    exact ⟨_, by simp [hjl], mkVal _⟩
  have hlenfill : out.length = len * s := by
    have : ∀ (ps : List (Nat × IV)) (cs out : List IV), fillIV (fun i => some (i * s, s)) cs ps = some out → out.length = cs.length := by
      intro ps
      induction ps with
      | nil => intro cs out h; cases h; rfl
      | cons p r ih =>
        intro cs out h
        simp only [fillIV] at h
        cases hc : Nat.beq (ivCells p.2).length s && Nat.ble (p.1 * s + s) cs.length with
        | false => rw [hc] at h; cases h
        | true =>
          rw [hc] at h
          simp only [Bool.and_eq_true] at hc
          have h1 := Nat.eq_of_beq_eq_true hc.1
          have h2 := Nat.le_of_ble_eq_true hc.2
          rw [ih _ _ h, patch_length (by omega)]
    rw [this _ _ _ hf, hrl, hzs]
  obtain ⟨vs, h1, h2⟩ := fill_rep hrep hl (fun j i x hj => by
    obtain ⟨v, h3, h4⟩ := hv j i x hj
    exact ⟨v, h3, h4, hfirm _ (List.mem_of_getElem? hj)⟩) hf
  have hparts : (parts.map fun (i, x) => (i, a.eval x)).toList = parts.toList.map fun p => (p.1, a.eval p.2) := by simp
  have hrun : (execOp a.eval o).run P w = .ok (.value (.slice (some ⟨w.heap.size, 0, none⟩) len len)) (w.alloc (.cells vs e)) := by
    have hnr : (newRow e vs).run P w = .ok ⟨w.heap.size, 0, none⟩ (w.alloc (.cells vs e)) := rfl
    simp only [execOp, ho, Instr.buildSlice, Sem.run_bind, run_underlying hu, run_sizeOf hs, Result.andThen_ok]
    rw [if_neg (by omega)]
    by_cases h0 : len * s = 0
    ·have h1' : Instr.fill (fun i => some (i * s, s)) ((Array.range (len * s)).map ((#[] : Array Value)[· % (#[] : Array Value).size]!)) (List.map (fun p => (p.fst, a.eval p.snd)) parts.toList) = some vs := by
       have e1 : ∀ f : Nat → Value, (Array.range (len * s)).map f = #[] := fun f => by rw [h0]; simp
       rw [e1] at h1 ⊢
       exact h1
     simp only [if_pos h0, Sem.run_bind, Sem.run_pure, Result.andThen_ok, hparts]
     rw [h1']
     simp only [Sem.run_bind, hnr, Result.andThen_ok]
     rfl
    simp only [if_neg h0, Sem.run_bind, Sem.run_pure, Result.andThen_ok, hzv, hparts]
    rw [h1]
    simp only [Sem.run_bind, hnr, Result.andThen_ok]
    rfl
  exact ⟨vs, h2, hlenfill, hrun⟩
theorem ok_buildSliceOwn {k : Nat} {t e : TypeId} {len s : Nat} {parts : Array (Nat × Operand)} {xs : List (Nat × IV)} {z : Value} {out : List IV} {ps : List PV} (ho : o.op = .buildSlice t len parts) (hx : evParts fr parts.toList = some xs)
    (hu : P.underlying t = some (.slice e)) (hz : ((P.info? e).bind (·.zero)) = some z) (hs : (P.info? e).map (·.size) = some s) (hzs : z.cells.size = s) (hpos : Nat.ble 1 s = true) (hsmall : Nat.ble (len * s) (2 ^ 24) = true)
    (hf : fillIV (fun i => some (i * s, s)) (repIV z len) xs = some out) (hfirm : firmParts (look hp) xs) (hps : purify out = some ps) (hσ : look hp k = none) (hc : c.σ k = none) (hfr : nmFr k fr = false) (hhp : nmHp k hp = false) :
    Ok P c o fr (look hp) (.sl k len) (look ((k, some (.row ⟨e, s⟩ (chunks s len ps))) :: hp)) := by
  intro ρ w a K Q h hK
  have hpos' : 0 < s := Nat.le_of_ble_eq_true hpos
  have hsmall' := Nat.le_of_ble_eq_true hsmall
  obtain ⟨vs, h2, hlenfill, hrun⟩ := buildSlice_run h ho hx hu hz hs hzs hpos hsmall hf hfirm
  unfold Oper.wp
  rw [hrun]
  obtain ⟨hpl, hpg⟩ := purify_get hps
  have hel : ∀ i el, (chunks s len ps)[i]? = some el → el.length = s ∧ ∀ j x, el[j]? = some x → ps[i * s + j]? = some x := fun i el hi => chunks_get s len ps i el hi (by omega)
  have hcl := chunks_length s len ps
  have hlm : len ≤ maxLen := by simp only [maxLen]; have : len ≤ len * s := Nat.le_mul_of_pos_right _ hpos'; omega
  refine hK (locUpd ρ k (some (w.heap.size, len))) _ _ (h.alloc hσ hc hfr hhp len _ _ fun _ keep => ?_) (.sl _ _ _ fun s' els' h' => ?_)
  ·refine .row ⟨e, s⟩ _ vs (fun i j => vs.getD (i * s + j) undef) (heap_new w _) (by have := h2.1; simp only; omega) (by omega) hlm (fun el hel' => ?_) (fun i el hi j x hj => ?_) fun i el hi j x hj => ?_
   ·obtain ⟨i, hi⟩ := List.getElem?_of_mem hel'
    exact (hel i el hi).1
   ·obtain ⟨h5, h6⟩ := hel i el hi
    obtain ⟨v, h7, _⟩ := h2.2 _ _ (hpg _ _ (h6 j x hj))
    simp [Array.getD_eq_getD_getElem?, h7]
   obtain ⟨h5, h6⟩ := hel i el hi
   obtain ⟨v, h7, h8⟩ := h2.2 _ _ (hpg _ _ (h6 j x hj))
   simp only [Array.getD_eq_getD_getElem?, h7, Option.getD_some]
   cases h8 with
   | pv _ _ h8 => exact keep _ _ h8
  rw [look_hd] at h'; cases h'
  exact ⟨by omega, fun _ => .inl ⟨w.heap.size, len, locUpd_same, rfl⟩⟩
def nilP : PV → PV
  | .val (.slice none 0 0) => .seq []
  | x => x
theorem nilP_sub (x : PV) : PSub x (nilP x) := by
  unfold nilP
  split
  ·exact PSub.nil
  exact PSub.refl _
theorem nilPs_sub : ∀ cs : List PV, PSubs cs (cs.map nilP)
  | [] => trivial
  | x :: r => ⟨nilP_sub x, nilPs_sub r⟩
theorem nilP_agg (cs : List PV) : PSub (.agg cs) (.agg (cs.map nilP)) := PSub.agg (nilPs_sub cs)
end
section
variable {P : Program} {c : Cx} {R1 : Nat → Prop} {o : Oper} {fr : Fr} {hp : Hp} {σ : Heap'} {Q : Exit → Fr → Heap' → Prop}
theorem All.bs {ρ : Loc} {w : World} {a : Act} (h : All c ρ (look hp) w fr a) {x : Operand} {k n : Nat} {cs : List IV} (hx : fr.ev x = some (.bs k n)) (hk : look hp k = some (.box cs)) :
    ∃ (b cc cap : Nat) (e : TypeId) (r : Array Value) (u : Nat → Value), a.eval x = .slice (some ⟨b, 0, none⟩) n cap ∧ n ≤ cap ∧ cap ≤ maxLen ∧ ρ k = some (b, cc) ∧ w.heap[b]? = some (.cells r e (0, 0)) ∧ cs.length ≤ r.size ∧ (∀ j x, cs[j]? = some x → r[j]? = some (u j)) ∧ ∀ j x, cs[j]? = some x → RepI c.F ρ (look hp) w x (u j) := by
  have hr := h.ev hx
  generalize hv : a.eval x = v at hr
  cases hr with
  | bs _ _ _ hh =>
    obtain ⟨b, cc, hρ, cap, h8, h9, rfl⟩ := hh cs hk
    obtain ⟨o1, h1, h2⟩ := h.rel.obj k b cc hρ
    rw [hk] at h1; cases h1
    obtain ⟨e, r, u, h3, h4, h5, h6⟩ := h2.inv_box
    exact ⟨b, cc, cap, e, r, u, rfl, h8, h9, hρ, h3, h4, h5, h6⟩
theorem ok_index_bs {t e : TypeId} {x y : Operand} {k n i : Nat} {m : Int} {kk : IntKind} {cs : List IV} (ho : o.op = .indexAddr t x y) (hx : fr.ev x = some (.bs k n)) (hy : fr.ev y = some (.pv (.val (.int kk m)))) (hk : look hp k = some (.box cs))
    (hu : P.underlying t = some (.slice e)) (he : (P.info? e).map (·.size) = some 1) (hi : i < n) (hm : m = i) : OkV P c R1 o fr (look hp) (.ptr k i) := by
  subst hm
  intro ρ w a h
  obtain ⟨b, cc, cap, e', r, u, hv, _, _, hρ, _⟩ := h.bs hx hk
  refine ⟨.pointer (some ⟨b, i, none⟩), fun w2 _ => ?_, .ptr _ _ _ fun cs' h' => ⟨b, cc, hρ, rfl⟩⟩
  simp [execOp, ho, hv, ev_val h hy, Instr.indexAt, Sem.run_bind, asIntOf, run_underlying hu, hi, run_sizeOf he, Addr.add_mid]
theorem ok_buildSliceBs {k : Nat} {t e : TypeId} {len s : Nat} {parts : Array (Nat × Operand)} {xs : List (Nat × IV)} {z : Value} {out : List IV} (ho : o.op = .buildSlice t len parts) (hx : evParts fr parts.toList = some xs)
    (hu : P.underlying t = some (.slice e)) (hz : ((P.info? e).bind (·.zero)) = some z) (hs : (P.info? e).map (·.size) = some s) (hzs : z.cells.size = s) (hpos : Nat.ble 1 s = true) (hsmall : Nat.ble (len * s) (2 ^ 24) = true)
    (hf : fillIV (fun i => some (i * s, s)) (repIV z len) xs = some out) (hfirm : firmParts (look hp) xs) (hn : nm.nms k out = false) (hσ : look hp k = none) (hc : c.σ k = none) (hfr : nmFr k fr = false) (hhp : nmHp k hp = false) :
    Ok P c o fr (look hp) (.bs k len) (look ((k, some (.box out)) :: hp)) := by
  intro ρ w a K Q h hK
  have hpos' : 0 < s := Nat.le_of_ble_eq_true hpos
  have hsmall' := Nat.le_of_ble_eq_true hsmall
  obtain ⟨vs, h2, hlenfill, hrun⟩ := buildSlice_run h ho hx hu hz hs hzs hpos hsmall hf hfirm
  unfold Oper.wp
  rw [hrun]
  have hlm : len ≤ maxLen := by simp only [maxLen]; have : len ≤ len * s := Nat.le_mul_of_pos_right _ hpos'; omega
  refine hK (locUpd ρ k (some (w.heap.size, len))) _ _ (h.alloc hσ hc hfr hhp len _ _ fun keep _ => ?_) (.bs _ _ _ fun cs' h' => ⟨w.heap.size, len, locUpd_same, len, Nat.le_refl _, hlm, rfl⟩)
  refine .box _ e vs (fun j => vs.getD j undef) (heap_new w _) (Nat.le_of_eq h2.1.symm) (fun j x hj => ?_) (fun j x hj => ?_) (fun hh => absurd hh (by simp only [maxLen] at hlm; unfold tyTag; omega))
  ·obtain ⟨v, h7, _⟩ := h2.2 _ _ hj
   simp [Array.getD_eq_getD_getElem?, h7]
  obtain ⟨v, h7, h8⟩ := h2.2 _ _ hj
  simp only [Array.getD_eq_getD_getElem?, h7, Option.getD_some]
  exact keep _ _ h8 (nms_mem hn (List.mem_of_getElem? hj))
theorem ok_append_bs {t : TypeId} {x y : Operand} {k k2 n by_ : Nat} {e : TypeId} {cs : List IV} (ho : o.op = .call { callee := .builtin .append, args := #[x, y], argTypes := #[t, t] }) (hx : fr.ev x = some (.pv (.val (.slice none 0 0)))) (hy : fr.ev y = some (.bs k2 n)) (hk2 : look hp k2 = some (.box cs)) (hn : cs.length = n) (h0 : 0 < n)
    (ht : P.underlying t = some (.slice e)) (hi : (P.info? e).map (fun i => (i.size, i.bytes, (i.zero.map fun z => z.cells.size))) = some (1, by_, some 1)) (hmax : n ≤ maxLen) (hb : n * by_ ≤ 140737488355328) (hnm : nm.nms k cs = false)
    (hσ : look hp k = none) (hc : c.σ k = none) (hfr : nmFr k fr = false) (hhp : nmHp k hp = false) :
    Ok P c o fr (look hp) (.bs k n) (look ((k, some (.box cs)) :: hp)) := by
  intro ρ w a K Q h hK
  cases hq : P.info? e with
  | none => simp [hq] at hi
  | some i =>
    have hsz : i.size = 1 := by simp [hq] at hi; exact hi.1
    have hby : i.bytes = by_ := by simp [hq] at hi; exact hi.2.1
    obtain ⟨z, hz, hzs⟩ : ∃ z, i.zero = some z ∧ z.cells.size = 1 := by simp [hq] at hi; exact hi.2.2
    simp only [maxLen] at hmax
    obtain ⟨b, cc, cap, e', r, u, hv, _, _, hρ, hbk, hlen, hcell, hrep⟩ := h.drew.bs hy hk2
    have hge := grownCap_ge w n 0 e
    have hcm := grownCap_le_maxLen w n 0 e (by simp only [maxLen]; omega)
    have hL : ((List.range n).map u).length = n * i.size := by simp [hsz]
    have hcl : ∀ j y, ((List.range n).map u)[j]? = some y → w.cell? ((⟨b, 0, none⟩ : Addr).add j) = some y := fun j y hj => by
      rw [Addr.add_mid, Nat.zero_add, cell_at (w := w) hbk]
      have hj' : j < n := by have := (List.getElem?_eq_some_iff.1 hj).1; simpa using this
      have e1 : u j = y := by simpa [hj'] using hj
      have h5 : cs[j]? = some (cs[j]'(by omega)) := List.getElem?_eq_getElem (by omega)
      rw [hcell j _ h5, e1]
    have hr := run_append_nil (P := P) w t o.type e i z ht hq hz ⟨b, 0, none⟩ n cap _ hL hcl h0 (by omega) (by rw [hby]; omega)
    refine Lib.wp_append_run w x y t t ho _ _ (ev_val h hx) hv _ _ hr ?_
    refine hK (locUpd ρ k (some (w.heap.size, grownCap w n 0 e))) _ _ (h.drew.alloc hσ hc hfr hhp (grownCap w n 0 e) _ _ fun keep _ => ?_) (.bs _ _ _ fun cs' h' => ⟨w.heap.size, _, locUpd_same, _, hge, hcm, rfl⟩)
    refine .box _ e _ u (heap_new _ _) (by simp; omega) (fun j x hj => ?_) (fun j x hj => keep _ _ (hrep j x hj) (nms_mem hnm (List.mem_of_getElem? hj))) (fun hh => absurd hh (by simp only [maxLen] at hcm; unfold tyTag; omega))
    have hj' : j < n := by have := (List.getElem?_eq_some_iff.1 hj).1; omega
    rw [Array.getElem?_append_left (by simpa using hj')]
    simp [hj']
theorem ok_makeSliceP {t : TypeId} {x y : Operand} {n by_ : Nat} {s : RT} {z : Value} {σ : Heap'} (ho : o.op = .makeSlice t x y) (hx : fr.ev x = some (.pv (.val (.int .i64 n)))) (hy : fr.ev y = some (.pv (.val (.int .i64 n))))
    (hu : P.underlying t = some (.slice s.e)) (hz : ((P.info? s.e).bind (·.zero)) = some z) (hi : (P.info? s.e).map (fun i => (i.size, i.bytes)) = some (s.n, by_)) (hzs : z.cells.size = s.n) (hpos : 0 < s.n) (hn : n < 2 ^ 63) (hb : by_ * n ≤ 281474976710656) :
    Ok P c o fr σ (.pv (.seq (List.replicate n (z.cells.toList.map .val)))) σ := by
  intro ρ w a K Q h hK
  cases hq : P.info? s.e with
  | none => simp [hq] at hi
  | some i =>
    have hsz : i.size = s.n := by simp [hq] at hi; exact hi.1
    have hby : i.bytes = by_ := by simp [hq] at hi; exact hi.2
    have hiz : i.zero = some z := by simpa [hq] using hz
    have hwrap : IntKind.i64.wrap (n : Int) = n := IntWalk.i64_in _ (by omega)
    have hrun : (execOp a.eval o).run P w = .ok (.value (.slice (some ⟨w.heap.size, 0, none⟩) n n)) (w.alloc (.cells ((Array.range (n * s.n)).map (z.cells[· % z.cells.size]!)) s.e)) := by
      have hnr : ∀ r, (newRow s.e r).run P w = .ok ⟨w.heap.size, 0, none⟩ (w.alloc (.cells r s.e)) := fun _ => rfl
      have hti : (typeInfo s.e).run P w = .ok i w := by simp [typeInfo, hq]
      have hso : (sizeOf s.e).run P w = .ok s.n w := run_sizeOf (by simp [hq, hsz]) w
      have hzv : (zeroValue s.e).run P w = .ok z w := by simp [zeroValue, typeInfo, hq, hiz]
      have h2 : (by_ : Int) * n ≤ 281474976710656 := by
        have : ((by_ * n : Nat) : Int) ≤ 281474976710656 := by omega
        rwa [Int.natCast_mul] at this
      simp only [execOp, ho, Instr.makeSlice, Sem.run_bind, run_underlying hu, Result.andThen_ok, ev_val h hx, ev_val h hy, asInt, asIntOf, Sem.run_pure, hti, hwrap, hby]
      rw [if_neg (by simpa using h2)]
      simp only [Sem.run_bind, run_askRoom, Result.andThen_ok, hso, Int.toNat_natCast]
      by_cases h0 : n * s.n = 0
      ·rw [if_pos h0]
       simp only [Sem.run_bind, Sem.run_pure, Result.andThen_ok, hnr]
       have e1 : ∀ f g : Nat → Value, (Array.range (n * s.n)).map f = (Array.range (n * s.n)).map g := fun f g => by rw [h0]; simp
       rw [e1 _ (z.cells[· % z.cells.size]!)]
      rw [if_neg h0]
      simp only [Sem.run_bind, Sem.run_pure, Result.andThen_ok, hzv, hnr]
    unfold Oper.wp
    rw [hrun]
    obtain ⟨h3, keep⟩ := h.push (.cells ((Array.range (n * s.n)).map (z.cells[· % z.cells.size]!)) s.e)
    refine hK ρ _ _ h3 (.pv _ _ ?_)
    have hll : (List.replicate n (z.cells.toList.map PV.val)).length = n := by simp
    have hbig : by_ * n ≤ 281474976710656 := hb
    have : RepP (owned c.F ρ) (w.alloc (.cells ((Array.range (n * s.n)).map (z.cells[· % z.cells.size]!)) s.e)) (.seq (List.replicate n (z.cells.toList.map .val))) (.slice (some ⟨w.heap.size, 0, none⟩) (List.replicate n (z.cells.toList.map PV.val)).length n) := by
      refine .seq _ _ n w.heap.size 0 (fun _ j => z.cells[j]!) (fun _ => rfl) (fun _ => ⟨h.fresh, by simp⟩) (by simp) (by simp only [maxLen]; omega) (fun i el hi j x hj => ?_) fun i el hi j x hj => ?_
      ·have hel := List.eq_of_mem_replicate (List.mem_of_getElem? hi)
       have hin : i < n := by have := (List.getElem?_eq_some_iff.1 hi).1; simpa using this
       subst hel
       have hjs : j < s.n := by have := (List.getElem?_eq_some_iff.1 hj).1; simp [hzs] at this; exact this
       have hlt : i * s.n + j < n * s.n := by
         have : (i + 1) * s.n ≤ n * s.n := Nat.mul_le_mul_right _ (by omega)
         rw [Nat.add_mul] at this; omega
       rw [cell_at (heap_new w _)]
       simp [hlt, hzs, Nat.mod_eq_of_lt hjs]
      have hel := List.eq_of_mem_replicate (List.mem_of_getElem? hi)
      subst hel
      simp only [List.getElem?_map, Option.map_eq_some_iff, Array.getElem?_toList] at hj
      obtain ⟨v, hv, rfl⟩ := hj
      have : z.cells[j]! = v := by
        have hlt := (Array.getElem?_eq_some_iff.1 hv).1
        simp [hlt] at hv ⊢
        exact hv
      rw [this]
      exact .val v
    rwa [hll] at this
end
section
variable {P : Program} {o : Oper} {fr fr2 : Fr} {hp hp2 : Hp} {Rl : List Nat}
inductive TI where
  | int (k : IntKind)
  | bool
  | str
  | slice (e : Nat)
  | struct (fs : List (Nat × Nat))
  | arr (len e : Nat)
  | map (k e : Nat)
  | one
inductive ZV where
  | int (k : IntKind)
  | bool
  | str
  | slice
  | map
  | ptr
  | fn
  | iface
def ZV.val : ZV → Value
  | .int k => .int k 0
  | .bool => .bool false
  | .str => .string ⟨#[]⟩
  | .slice => .slice none 0 0
  | .map => .map none
  | .ptr => .pointer none
  | .fn => .nilFunc
  | .iface => .nilIface
def ZV.isB : ZV → Value → Bool
  | .int k, .int k' n => k' == k && n == 0
  | .bool, .bool b => !b
  | .str, .string s => s.data.isEmpty
  | .slice, .slice none 0 0 => true
  | .map, .map none => true
  | .ptr, .pointer none => true
  | .fn, .nilFunc => true
  | .iface, .nilIface => true
  | _, _ => false
theorem ZV.isB_ok {z : ZV} {v : Value} (h : z.isB v = true) : v = z.val := by
  unfold ZV.isB at h
  split at h
  · simp only [Bool.and_eq_true, beq_iff_eq] at h; simp [ZV.val, h.1, h.2]
  · simp only [Bool.not_eq_true'] at h; subst h; rfl
  · rename_i s
    have : s.data = #[] := by simpa using h
    cases s; simp_all [ZV.val]
  all_goals first | rfl | cases h
structure TE where
  i : TI
  n : Nat
  b : Nat
  z : List ZV
def TI.row : TI → Bool
  | .struct _ => true
  | .arr .. => true
  | _ => false
def TI.is : TI → TypeDesc → Prop
  | .int k, d => d = .int k
  | .bool, d => d = .bool
  | .str, d => d = .string
  | .slice e, d => d = .slice e
  | .struct fs, d => ∃ a, d = .struct a ∧ a.toList.map (fun f => (f.offset, f.type)) = fs
  | .arr len e, d => d = .array len e
  | .map k e, d => d = .map k e
  | .one, d => d.isRow = false
def TI.isB : TI → TypeDesc → Bool
  | .int k, .int k' => k' == k
  | .bool, .bool => true
  | .str, .string => true
  | .slice e, .slice e' => Nat.beq e' e
  | .struct fs, .struct a => a.toList.map (fun f => (f.offset, f.type)) == fs
  | .arr len e, .array len' e' => Nat.beq len' len && Nat.beq e' e
  | .map k e, .map k' e' => Nat.beq k' k && Nat.beq e' e
  | .one, d => !d.isRow
  | _, _ => false
theorem TI.isB_ok {i : TI} {d : TypeDesc} (h : i.isB d = true) : i.is d := by
  unfold TI.isB at h
  split at h
  · simp only [beq_iff_eq] at h; simp [TI.is, h]
  · rfl
  · rfl
  · simp [TI.is, Nat.eq_of_beq_eq_true h]
  · exact ⟨_, rfl, by simpa using h⟩
  · simp only [Bool.and_eq_true] at h; simp [TI.is, Nat.eq_of_beq_eq_true h.1, Nat.eq_of_beq_eq_true h.2]
  · simp only [Bool.and_eq_true] at h; simp [TI.is, Nat.eq_of_beq_eq_true h.1, Nat.eq_of_beq_eq_true h.2]
  · simpa [TI.is] using h
  · cases h
theorem TI.is_row {i : TI} {d : TypeDesc} (h : i.is d) : d.isRow = i.row := by
  cases i with
  | struct fs => obtain ⟨a, rfl, _⟩ := h; rfl
  | one => exact h
  | _ => cases h; rfl
def zsB : List ZV → List Value → Bool
  | [], [] => true
  | z :: r, v :: s => z.isB v && zsB r s
  | _, _ => false
theorem zsB_ok : ∀ {l : List ZV} {m : List Value}, zsB l m = true → m = l.map ZV.val
  | [], [], _ => rfl
  | z :: r, v :: s, h => by
    simp only [zsB, Bool.and_eq_true] at h
    rw [ZV.isB_ok h.1, zsB_ok h.2]; rfl
def TE.zv (e : TE) : Value := match e.i.row with
  | true => .agg (e.z.map ZV.val).toArray
  | false => (e.z.headD .bool).val
def TE.zB (e : TE) (v : Value) : Bool := match e.i.row with
  | true => match v with
    | .agg cs => zsB e.z cs.toList
    | _ => false
  | false => match e.z with
    | [z] => z.isB v
    | _ => false
theorem TE.zB_ok {e : TE} {v : Value} (h : e.zB v = true) : v = e.zv ∧ v.cells.toList = e.z.map ZV.val := by
  unfold TE.zB at h
  unfold TE.zv
  split at h
  · rename_i hr
    split at h
    · rename_i cs
      have := zsB_ok h
      exact ⟨by simp [← this], this⟩
    · cases h
  · rename_i hr
    split at h
    · rename_i z hz
      obtain rfl := ZV.isB_ok h
      rw [hz]
      exact ⟨rfl, by cases z <;> rfl⟩
    · cases h
def teB (P : Program) (t : Nat) (e : TE) : Bool :=
  (match P.underlying t with
    | some d => e.i.isB d
    | none => false) &&
  (match P.info? t with
    | some i => Nat.beq i.size e.n && Nat.beq i.bytes e.b && (match e.z with
      | [] => true
      | _ => Nat.beq e.z.length e.n && (match i.zero with
        | some z => e.zB z
        | none => false))
    | none => false)
section
variable {t : Nat} {e : TE}
theorem te_und (h : teB P t e = true) : ∃ d, P.underlying t = some d ∧ e.i.is d := by
  unfold teB at h
  simp only [Bool.and_eq_true] at h
  replace h := h.1
  split at h
  · rename_i d hd; exact ⟨d, hd, TI.isB_ok h⟩
  · cases h
theorem te_info (h : teB P t e = true) : ∃ i, P.info? t = some i ∧ i.size = e.n ∧ i.bytes = e.b ∧ (e.z ≠ [] → e.z.length = e.n ∧ i.zero = some e.zv ∧ e.zv.cells.toList = e.z.map ZV.val) := by
  unfold teB at h
  simp only [Bool.and_eq_true] at h
  replace h := h.2
  split at h
  · rename_i i hi
    simp only [Bool.and_eq_true] at h
    refine ⟨i, hi, Nat.eq_of_beq_eq_true h.1.1, Nat.eq_of_beq_eq_true h.1.2, fun hz => ?_⟩
    have h2 := h.2
    split at h2
    · rename_i h0; exact absurd h0 hz
    · simp only [Bool.and_eq_true] at h2
      have h3 := h2.2
      split at h3
      · rename_i z hz
        obtain ⟨rfl, h4⟩ := TE.zB_ok h3
        exact ⟨Nat.eq_of_beq_eq_true h2.1, hz, h4⟩
      · cases h3
  · cases h
theorem te_size (h : teB P t e = true) : (P.info? t).map (·.size) = some e.n := by
  obtain ⟨i, hi, h1, _⟩ := te_info h
  simp [hi, h1]
theorem te_by (h : teB P t e = true) : (P.info? t).map (fun i => (i.size, i.bytes)) = some (e.n, e.b) := by
  obtain ⟨i, hi, h1, h2, _⟩ := te_info h
  simp [hi, h1, h2]
theorem te_zero (h : teB P t e = true) (hz : e.z ≠ []) : (P.info? t).bind (·.zero) = some e.zv := by
  obtain ⟨i, hi, _, _, h2⟩ := te_info h
  simp [hi, (h2 hz).2.1]
theorem te_cells (h : teB P t e = true) (hz : e.z ≠ []) : e.zv.cells.toList = e.z.map ZV.val ∧ e.zv.cells.size = e.n := by
  obtain ⟨i, hi, _, _, h2⟩ := te_info h
  refine ⟨(h2 hz).2.2, ?_⟩
  rw [← Array.length_toList, (h2 hz).2.2, List.length_map]
  exact (h2 hz).1
theorem te_app (h : teB P t e = true) (hz : e.z ≠ []) : (P.info? t).map (fun i => (i.size, i.bytes, (i.zero.map fun z => z.cells.size))) = some (e.n, e.b, some e.n) := by
  obtain ⟨i, hi, h1, h2, h3⟩ := te_info h
  simp [hi, h1, h2, (h3 hz).2.1, (te_cells h hz).2]
end
structure TB (P : Program) where
  ti : Nat → Option TE
  tok : ∀ t e, ti t = some e → teB P t e = true
  fn : Nat → Bool
  fok : ∀ f, fn f = true → enters P f
  mx : P.follows .mixedOrders = true
def tFind : List (Nat × TE) → Nat → Option TE
  | [], _ => none
  | (k, e) :: r, t => match Nat.beq k t with
    | true => some e
    | false => tFind r t
def tAll (P : Program) : List (Nat × TE) → Bool
  | [] => true
  | (k, e) :: r => teB P k e && tAll P r
theorem tFind_ok : ∀ {l : List (Nat × TE)} {t : Nat} {e : TE}, tAll P l = true → tFind l t = some e → teB P t e = true
  | [], _, _, _, h => by cases h
  | (k, e') :: r, t, e, h1, h => by
    simp only [tAll, Bool.and_eq_true] at h1
    simp only [tFind] at h
    split at h
    · rename_i hb
      obtain rfl := Nat.eq_of_beq_eq_true hb
      cases h; exact h1.1
    · exact tFind_ok h1.2 h
def entB (P : Program) (f : Nat) : Bool := match P.funcs[f]? with
  | some fn => !(fn.name == "runtime.NumGoroutine") && !fn.body.isNone
  | none => false
theorem entB_ok {f : Nat} (h : entB P f = true) : enters P f := by
  unfold entB at h
  split at h
  · rename_i fn hf
    simp only [Bool.and_eq_true, Bool.not_eq_true'] at h
    exact ⟨fn, hf, h.1, h.2⟩
  · cases h
def nIn (k : Nat) : List Nat → Bool
  | [] => false
  | j :: r => match Nat.beq j k with
    | true => true
    | false => nIn k r
theorem nIn_iff {k : Nat} : ∀ {l : List Nat}, nIn k l = true ↔ k ∈ l
  | [] => by simp [nIn]
  | j :: r => by
    simp only [nIn, List.mem_cons]
    split
    · rename_i h; simp [Nat.eq_of_beq_eq_true h]
    · rename_i h
      have : k ≠ j := fun e => by subst e; simp at h
      simp [this, nIn_iff]
theorem nIn_false {k : Nat} {l : List Nat} (h : nIn k l = false) : k ∉ l := fun hm => by rw [nIn_iff.2 hm] at h; cases h
def entAll (P : Program) : List Nat → Bool
  | [] => true
  | f :: r => entB P f && entAll P r
theorem entAll_ok {f : Nat} : ∀ {l : List Nat}, entAll P l = true → nIn f l = true → enters P f
  | [], _, h => by cases h
  | g :: r, h1, h => by
    simp only [entAll, Bool.and_eq_true] at h1
    simp only [nIn] at h
    split at h
    · rename_i hb; obtain rfl := Nat.eq_of_beq_eq_true hb; exact entB_ok h1.1
    · exact entAll_ok h1.2 h
def mkTB (P : Program) (l : List (Nat × TE)) (q : List Nat) (h : tAll P l = true) (h2 : entAll P q = true) (mx : P.follows .mixedOrders = true) : TB P where
  ti t := tFind l t
  tok _ _ ht := tFind_ok h ht
  fn f := nIn f q
  fok _ hf := entAll_ok h2 hf
  mx := mx
structure Stp where
  x : IV
  wr : Hp
  rd : List Nat
  nw : List Nat
def agr (fr2 fr : Fr) (l : List Nat) : Prop := ∀ t ∈ l, fr2.get t = fr.get t
def agh (hp2 hp : Hp) (l : List Nat) : Prop := ∀ k ∈ l, look hp2 k = look hp k
def frsh (k : Nat) (fr : Fr) (hp : Hp) : Bool := match nmFr k fr with
  | true => false
  | false => match nmHp k hp with
    | true => false
    | false => match look hp k with
      | none => true
      | some _ => false
theorem frsh_ok {k : Nat} (h : frsh k fr hp = true) : nmFr k fr = false ∧ nmHp k hp = false ∧ look hp k = none := by
  unfold frsh at h
  split at h
  · cases h
  · rename_i h1
    split at h
    · cases h
    · rename_i h2
      split at h
      · rename_i h3; exact ⟨h1, h2, h3⟩
      · cases h
def slotsOf (l : List Operand) : List Nat := l.flatMap fun
  | .tmp t => [t]
  | _ => []
def opSlots (op : Op) : List Nat := slotsOf op.operands.toList
theorem agr.evO {l : List Operand} (h : agr fr2 fr (slotsOf l)) {y : Operand} (hy : y ∈ l) : fr2.ev y = fr.ev y := by
  cases y with
  | tmp t => exact h t (List.mem_flatMap.2 ⟨.tmp t, hy, List.mem_singleton.2 rfl⟩)
  | _ => rfl
theorem agr.ev {op : Op} (h : agr fr2 fr (opSlots op)) {y : Operand} {x : IV} (hx : fr.ev y = some x) (hy : y ∈ op.operands.toList) : fr2.ev y = some x := (h.evO hy).trans hx
theorem agr.evs {op : Op} (h : agr fr2 fr (opSlots op)) : ∀ {os : List Operand} {xs : List IV}, evs fr os = some xs → (∀ y ∈ os, y ∈ op.operands.toList) → evs fr2 os = some xs
  | [], xs, hx, _ => hx
  | y :: r, xs, hx, hy => by
    simp only [Go.Proofs.YtahpinmlgnfklaaGreatDoor.evs] at hx ⊢
    split at hx
    · rename_i a b h1 h2
      rw [h.ev h1 (hy y (.head _)), h.evs h2 fun z hz => hy z (.tail _ hz)]
      exact hx
    · cases hx
theorem agr.evParts {op : Op} (h : agr fr2 fr (opSlots op)) : ∀ {ps : List (Nat × Operand)} {xs : List (Nat × IV)}, evParts fr ps = some xs → (∀ y ∈ ps, y.2 ∈ op.operands.toList) → evParts fr2 ps = some xs
  | [], xs, hx, _ => hx
  | (i, y) :: r, xs, hx, hy => by
    simp only [Go.Proofs.YtahpinmlgnfklaaGreatDoor.evParts] at hx ⊢
    split at hx
    · rename_i a b h1 h2
      rw [h.ev h1 (hy (i, y) (.head _)), h.evParts h2 fun z hz => hy z (.tail _ hz)]
      exact hx
    · cases hx
theorem agh.at {rd : List Nat} (h : agh hp2 hp rd) {k : Nat} {ob : Option HO} (hk : look hp k = ob) (hm : k ∈ rd) : look hp2 k = ob := (h k hm).trans hk
def OkF (P : Program) (Rl : List Nat) (o : Oper) (fr : Fr) (hp : Hp) (s : Stp) : Prop :=
  ∀ (c : Cx) fr2 hp2, (∀ k, c.R k → k ∈ Rl) → (∀ k ∈ s.nw, c.σ k = none) → agr fr2 fr (opSlots o.op) → agh hp2 hp s.rd → (∀ k ∈ s.nw, frsh k fr2 hp2 = true) → Ok P c o fr2 (look hp2) s.x (look (s.wr ++ hp2))
theorem OkF.pure {x : IV} {rd : List Nat} (h : ∀ (c : Cx) (R1 : Nat → Prop) fr2 hp2, agr fr2 fr (opSlots o.op) → agh hp2 hp rd → (∀ k ∈ rd, R1 k) → OkV P c R1 o fr2 (look hp2) x) : OkF P Rl o fr hp ⟨x, [], rd, []⟩ :=
  fun c fr2 hp2 _ _ ha hh _ => (h c (fun _ => True) fr2 hp2 ha hh fun _ _ => trivial).ok
inductive VAny (P : Program) (Rl : List Nat) (o : Oper) (fr : Fr) (hp : Hp) (K : Stp → Prop) : Prop
  | mk {s : Stp} (h : OkF P Rl o fr hp s) (k : K s)
def Does (P : Program) (Rl : List Nat) (o : Oper) (fr : Fr) (hp : Hp) (K : Stp → Prop) : Prop := ∃ s, K s ∧ OkF P Rl o fr hp s
def frcI : List IV → (List IV → Prop) → Prop
  | [], K => K []
  | x :: r, K => frcI r fun l => K (x :: l)
theorem frcI_ok : ∀ {l : List IV} {K : List IV → Prop}, frcI l K → K l
  | [], _, h => h
  | _ :: r, K, h => frcI_ok (l := r) (K := fun l => K (_ :: l)) h
def frcP : List PV → (List PV → Prop) → Prop
  | [], K => K []
  | x :: r, K => frcP r fun l => K (x :: l)
theorem frcP_ok : ∀ {l : List PV} {K : List PV → Prop}, frcP l K → K l
  | [], _, h => h
  | _ :: r, K, h => frcP_ok (l := r) (K := fun l => K (_ :: l)) h
def bsel (b : Bool) (A B : Prop) : Prop := match b with
  | true => A
  | false => B
theorem bcase {b : Bool} {A B : Prop} (ht : b = true → A) (hf : b = false → B) : bsel b A B := by
  cases b with
  | true => exact ht rfl
  | false => exact hf rfl
def vev (fr : Fr) (y : Operand) (K : IV → Prop) : Prop := match fr.ev y with
  | some x => K x
  | none => False
theorem vev_ok {y : Operand} {K : IV → Prop} (h : vev fr y K) : ∃ x, fr.ev y = some x ∧ K x := by
  unfold vev at h
  split at h
  · rename_i x hx; exact ⟨x, hx, h⟩
  · exact h.elim
def vti (T : TB P) (t : Nat) (K : TE → Prop) : Prop := match T.ti t with
  | some e => K e
  | none => False
theorem vti_ok {T : TB P} {t : Nat} {K : TE → Prop} (h : vti T t K) : ∃ e, teB P t e = true ∧ K e := by
  unfold vti at h
  split at h
  · rename_i e he; exact ⟨e, T.tok _ _ he, h⟩
  · exact h.elim
def vbox (hp : Hp) (k : Nat) (K : List IV → Prop) : Prop := match look hp k with
  | some (.box cs) => K cs
  | _ => False
theorem vbox_ok {k : Nat} {K : List IV → Prop} (h : vbox hp k K) : ∃ cs, look hp k = some (.box cs) ∧ K cs := by
  unfold vbox at h
  split at h
  · rename_i cs hk; exact ⟨cs, hk, h⟩
  · exact h.elim
def vrow (hp : Hp) (k : Nat) (K : RT → List (List PV) → Prop) : Prop := match look hp k with
  | some (.row s els) => K s els
  | _ => False
theorem vrow_ok {k : Nat} {K : RT → List (List PV) → Prop} (h : vrow hp k K) : ∃ s els, look hp k = some (.row s els) ∧ K s els := by
  unfold vrow at h
  split at h
  · rename_i s els hk; exact ⟨s, els, hk, h⟩
  · exact h.elim
def vmap (hp : Hp) (k : Nat) (K : List (Value × PV) → Prop) : Prop := match look hp k with
  | some (.map es) => K es
  | _ => False
theorem vmap_ok {k : Nat} {K : List (Value × PV) → Prop} (h : vmap hp k K) : ∃ es, look hp k = some (.map es) ∧ K es := by
  unfold vmap at h
  split at h
  · rename_i es hk; exact ⟨es, hk, h⟩
  · exact h.elim
def vtest (b : Bool) (A : Prop) : Prop := match b with
  | true => A
  | false => False
theorem vtest_ok {b : Bool} {A : Prop} (h : vtest b A) : b = true ∧ A := by
  unfold vtest at h
  split at h
  · exact ⟨rfl, h⟩
  · exact h.elim
def vopt {α : Type} (x : Option α) (K : α → Prop) : Prop := match x with
  | some a => K a
  | none => False
theorem vopt_ok {α : Type} {x : Option α} {K : α → Prop} (h : vopt x K) : ∃ a, x = some a ∧ K a := by
  unfold vopt at h
  split at h
  · exact ⟨_, rfl, h⟩
  · exact h.elim
def names : IV → List Nat
  | .pv _ => []
  | .ptr k _ => [k]
  | .sl k _ => [k]
  | .rpt k _ _ => [k]
  | .bs k _ => [k]
  | .mp k => [k]
  | _ => []
def vfirm (hp : Hp) (z : IV) (A : Prop) : Prop := match z with
  | .pv p => vtest p.one A
  | .ptr k _ => vbox hp k fun _ => A
  | .sl k n => vrow hp k fun _ els => els.length = n ∧ A
  | .bs k _ => vbox hp k fun _ => A
  | .mp k => vmap hp k fun _ => A
  | .fn .. => A
  | _ => False
theorem vfirm_ok {z : IV} {A : Prop} (h : vfirm hp z A) : A ∧ ∀ hp2, agh hp2 hp (names z) → z.firm (look hp2) := by
  unfold vfirm at h
  split at h
  · obtain ⟨h1, h2⟩ := vtest_ok h; exact ⟨h2, fun _ _ => h1⟩
  · obtain ⟨cs, h1, h2⟩ := vbox_ok h; exact ⟨h2, fun hp2 hh => ⟨cs, hh.at h1 (.head _)⟩⟩
  · obtain ⟨s, els, h1, h2, h3⟩ := vrow_ok h; exact ⟨h3, fun hp2 hh => ⟨s, els, hh.at h1 (.head _), h2⟩⟩
  · obtain ⟨cs, h1, h2⟩ := vbox_ok h; exact ⟨h2, fun hp2 hh => ⟨cs, hh.at h1 (.head _)⟩⟩
  · obtain ⟨cs, h1, h2⟩ := vmap_ok h; exact ⟨h2, fun hp2 hh => ⟨cs, hh.at h1 (.head _)⟩⟩
  · exact ⟨h, fun _ _ => trivial⟩
  · exact h.elim
def vfirms (hp : Hp) : List IV → Prop → Prop
  | [], A => A
  | z :: r, A => vfirm hp z (vfirms hp r A)
theorem vfirms_ok : ∀ {l : List IV} {A : Prop}, vfirms hp l A → A ∧ ∀ hp2, agh hp2 hp (l.flatMap names) → ∀ z ∈ l, z.firm (look hp2)
  | [], A, h => ⟨h, fun _ _ z hz => by cases hz⟩
  | z :: r, A, h => by
    obtain ⟨h1, h2⟩ := vfirm_ok h
    obtain ⟨h3, h4⟩ := vfirms_ok h1
    refine ⟨h3, fun hp2 hh y hy => ?_⟩
    simp only [List.flatMap_cons] at hh
    rcases List.mem_cons.1 hy with rfl | hy
    · exact h2 hp2 fun k hk => hh k (List.mem_append_left _ hk)
    · exact h4 hp2 (fun k hk => hh k (List.mem_append_right _ hk)) y hy
end
end Go.Proofs.YtahpinmlgnfklaaGreatDoor
