/- The text of any unit that show prints is the document's, or both refuse it; where what comes in is of bulk at most 1048576. Its card: the three tables of Go's library that the row lists are tied to the program's text. -/
import Derived.Test.YtahpinmlgnfklaaGreatDoorSa4
set_option maxRecDepth 8000
set_option maxHeartbeats 2000000
set_option linter.unusedSimpArgs false
set_option linter.unusedVariables false
set_option linter.unusedSectionVars false
namespace Go.Proofs.YtahpinmlgnfklaaGreatDoor
open Go
set_option maxRecDepth 20000
set_option maxHeartbeats 4000000
def tSemi : ByteArray := ⟨#[59]⟩
def hPut (p : List ByteArray) : List ByteArray := p.set (p.length - 1) (p.getD (p.length - 1) ⟨#[]⟩ ++ tSemi)
def hParts (f : Fl) : Nat → List ByteArray
  | 0 => [tKind f.ty, f.name]
  | k + 1 => (if (k : Int) = f.params then hPut (hParts f k) else hParts f k) ++ [tKind (f.types.getD k 0)]
def tHd (f : Fl) : Nat → ByteArray
  | 0 => tKind f.ty ++ tSp ++ f.name
  | k + 1 => (if (k : Int) = f.params then tHd f k ++ tSemi else tHd f k) ++ tSp ++ tKind (f.types.getD k 0)
theorem hParts_ne (f : Fl) : ∀ k, hParts f k ≠ []
  | 0 => by simp [hParts]
  | k + 1 => by simp [hParts]
theorem hPut_snoc (q : List ByteArray) (x : ByteArray) : hPut (q ++ [x]) = q ++ [x ++ tSemi] := by
  simp [hPut]
theorem tJoin_put {p : List ByteArray} (h : p ≠ []) (sep : ByteArray) : tJoin (hPut p) sep = tJoin p sep ++ tSemi := by
  obtain ⟨q, x, rfl⟩ : ∃ q x, p = q ++ [x] := ⟨p.dropLast, p.getLast h, (List.dropLast_concat_getLast h).symm⟩
  rw [hPut_snoc, tJoin_snoc, tJoin_snoc]
  split
  · rfl
  · simp only [app_assoc]
theorem hParts_join (f : Fl) : ∀ k, tJoin (hParts f k) tSp = tHd f k
  | 0 => by
    have := tJoin_snoc tSp f.name [tKind f.ty]
    simp only [List.cons_append, List.nil_append] at this
    show tJoin [tKind f.ty, f.name] tSp = _
    rw [this, if_neg (by simp)]
    have h1 := tJoin_snoc tSp (tKind f.ty) []
    simp only [List.nil_append, if_true] at h1
    rw [h1]
    rfl
  | k + 1 => by
    have ih := hParts_join f k
    have hne := hParts_ne f k
    simp only [hParts, tHd]
    by_cases hp : (k : Int) = f.params
    · rw [if_pos hp, if_pos hp, tJoin_snoc, if_neg (by rw [hPut]; simpa using hne), tJoin_put hne, ih]
    · rw [if_neg hp, if_neg hp, tJoin_snoc, if_neg hne, ih]
theorem hPut_len (p : List ByteArray) : (hPut p).length = p.length := by simp [hPut]
theorem hParts_len (f : Fl) : ∀ k, (hParts f k).length = k + 2
  | 0 => rfl
  | k + 1 => by
    simp only [hParts]
    rw [List.length_append]
    split
    · rw [hPut_len, hParts_len f k]; rfl
    · rw [hParts_len f k]; rfl
theorem tKind_le (t : Int) : (tKind t).size ≤ 4 := by
  unfold tKind
  split <;> decide
theorem tHd_le (f : Fl) : ∀ k, (tHd f k).size ≤ f.name.size + 5 + 6 * k
  | 0 => by
    simp only [tHd, size_app]
    have := tKind_le f.ty
    show _ + 1 + _ ≤ _
    omega
  | k + 1 => by
    have ih := tHd_le f k
    have hk := tKind_le (f.types.getD k 0)
    have e1 : tSemi.size = 1 := rfl
    have e2 : tSp.size = 1 := rfl
    simp only [tHd]
    split <;> simp only [size_app] <;> omega
theorem hParts_all (f : Fl) : ∀ k, ∀ w ∈ hParts f k, w.size ≤ f.name.size + 5 + 6 * k := fun k w hw => by
  have h := hParts_join f k
  have h2 := tHd_le f k
  rw [← h] at h2
  refine Nat.le_trans ?_ h2
  have key : ∀ (l : List (List UInt8)) (x : List UInt8), x ∈ l → x.length ≤ (Lib.join l tSp.data.toList).length := by
    intro l
    induction l with
    | nil => intro x hx; simp at hx
    | cons a r ih =>
      intro x hx
      cases r with
      | nil =>
        simp only [List.mem_singleton] at hx
        subst hx
        rw [Lib.join_one]
        exact Nat.le_refl _
      | cons b r =>
        have e : Lib.join (a :: b :: r) tSp.data.toList = a ++ tSp.data.toList ++ Lib.join (b :: r) tSp.data.toList := by simp [Lib.join]
        rw [e]
        simp only [List.length_append]
        rcases List.mem_cons.1 hx with rfl | hx
        · omega
        · have := ih x hx
          omega
  have h3 := key ((hParts f k).map (·.data.toList)) w.data.toList (List.mem_map_of_mem hw)
  have e1 : w.data.toList.length = w.size := by simp
  have e2 : (tJoin (hParts f k) tSp).size = (Lib.join ((hParts f k).map (·.data.toList)) tSp.data.toList).length := by unfold tJoin; exact List.size_toArray
  omega
theorem set_map {p : List ByteArray} : (p.map sEl).set (p.length - 1) (sEl (p.getD (p.length - 1) ⟨#[]⟩ ++ tSemi)) = (hPut p).map sEl := by
  rw [hPut, List.map_set]
theorem sc_head (f : Fl) (hn : f.name.size ≤ 1073741824) (ht : f.types.length ≤ 1073741824) : SC Tryz.prog 17 [.pv (.agg f.enc)] [] (fun k => k ∈ []) (.pv (.val (.string (tHd f f.types.length)))) [] := by
  refine SC.vc tb { pb := [101], ob := [111], gh := [(9, [.fz 3 111])] } [] Tryz.func17 rfl rfl ?_
  have hj := sc_Join (hParts f f.types.length) tSp (by rw [hParts_len]; omega) (by
    have e2 : (tJoin (hParts f f.types.length) tSp).size = (Lib.join ((hParts f f.types.length).map (·.data.toList)) tSp.data.toList).length := by unfold tJoin; exact List.size_toArray
    have h2 := tHd_le f f.types.length
    rw [← hParts_join] at h2
    omega)
  have e0 : (⟨(Lib.join ((hParts f f.types.length).map (·.data.toList)) tSp.data.toList).toArray⟩ : ByteArray) = tHd f f.types.length := hParts_join f f.types.length
  rw [e0] at hj
  refine ⟨[], sc_kind f.ty, sR, trivial, rfl, ?_⟩
  refine ⟨Nat, fun k => [(15, iInt k), (3, .sl 111 ((hParts f k).map sEl).length)], fun k => [(111, .row ⟨9, 1⟩ ((hParts f k).map sEl))], fun k => f.types.length - k, fun k => k ≤ f.types.length, [], 0, Nat.zero_le _, ⟨rfl, rfl, trivial⟩, ⟨rfl, trivial⟩, ?_⟩
  intro k hk
  refine bcase (fun h => ?_) fun h => ?_
  · have hlt : k < f.types.length := lt_of (f := eInt) rfl h
    obtain ⟨t, hx, _, _, _⟩ := at_lt hlt
    have hg : f.types.getD k 0 = t := by rw [List.getD_eq_getElem?_getD, hx]; rfl
    have hl := hParts_len f k
    have hne := hParts_ne f k
    have hall := hParts_all f k
    have hnext : hParts f (k + 1) = (if (k : Int) = f.params then hPut (hParts f k) else hParts f k) ++ [tKind t] := by rw [← hg]; rfl
    refine ⟨map_get (f := eInt) hx, rfl, bcase (fun hb => ?_) fun hb => ?_⟩
    · have hb' : (k : Int) = f.params := eq_of_beq hb
      rw [if_pos hb'] at hnext
      generalize hP : hParts f k = p at *
      have hi : p.length - 1 < p.length := by omega
      have hgi : p[p.length - 1]? = some (p.getD (p.length - 1) ⟨#[]⟩) := by
        rw [List.getD_eq_getElem?_getD, List.getElem?_eq_getElem hi]; rfl
      have hsz := hall _ (List.mem_of_getElem? hgi)
      have hmi := map_get (f := sEl) hgi
      have hm := set_map (p := p)
      generalize p.getD (p.length - 1) ⟨#[]⟩ = w at *
      have hln : (p.map sEl).length = p.length := List.length_map _
      have e1 : ((p.map sEl).length : Int) - 1 = (p.length - 1 : Nat) := by omega
      exact ⟨rfl, i64_sub rfl (by omega), rfl, by omega, e1, VRow.mk (i := p.length - 1) (j := 0) (el := sEl w) (z := .val (.string w)) rfl rfl hmi rfl ⟨str_add (by show _ + 1 ≤ _; omega), rfl, by omega, e1, p.length - 1, 0, sEl w, rfl, rfl, hmi, Nat.one_pos, [], sc_kind t, sR, trivial, rfl, by simp, flat1 rfl, by simp; omega, i64_add rfl (by omega), k + 1, step_lt hlt, hlt, ⟨rfl, slq (by rw [hnext]; simp [hPut_len]), trivial⟩, ⟨rwq (by rw [hnext, List.map_append, ← hm]; rfl), trivial⟩, rfl, rfl, rfl, rfl⟩⟩
    · have hb' : ¬ (k : Int) = f.params := by simpa using hb
      rw [if_neg hb'] at hnext
      exact ⟨[], sc_kind t, sR, trivial, rfl, rfl, flat1 rfl, by simp; omega, i64_add rfl (by omega), k + 1, step_lt hlt, hlt, ⟨rfl, slq (by rw [hnext]; simp), trivial⟩, ⟨rwq (by rw [hnext, List.map_append]; rfl), trivial⟩, rfl, rfl, rfl, rfl⟩
  · have hge : f.types.length ≤ k := ge_of (f := eInt) rfl h
    have hk' : k = f.types.length := by omega
    subst hk'
    exact ⟨rfl, [], hj, sR, trivial, rfl, sI, trivial⟩
def tArr (a : Ar) : ByteArray := ⟨#[97, 114, 114, 97, 121, 32]⟩ ++ a.name ++ tSp ++ tNum a.size ++ tNl
def tFlw (f : Fl) : ByteArray := tHd f f.types.length ++ tNl ++ tLs tTab f.body
def tUnit (u : Un) : ByteArray := tCat (u.arrays.map tArr) ++ tCat (u.flows.map tFlw)
def printOf (u : Un) : ByteArray × Int := if (r8Check u).1 = 0 then (tUnit u, 0) else (⟨#[]⟩, 1)
structure PrOk (u : Un) : Prop where
  w : r8Weight u ≤ 536870912
  n : ∀ f ∈ u.flows, n64L f.body
theorem gA_ok {u : Un} : ∀ {l : List Ar} {i : Int}, r8gA u l i = true → ∀ a ∈ l, 1 ≤ a.size ∧ a.size ≤ 1000
  | b :: r, i, h, a, ha => by
    simp only [r8gA, Bool.and_eq_true, gArr, Bool.not_eq_true', decide_eq_false_iff_not] at h
    rcases List.mem_cons.1 ha with rfl | ha
    · omega
    · exact gA_ok h.2 a ha
theorem gF_ok {u : Un} : ∀ {l : List Fl} {i : Int}, r8gF u l i = true → ∀ f ∈ l, f.ty = 1 ∨ f.ty = 2
  | b :: r, i, h, a, ha => by
    simp only [r8gF, Bool.and_eq_true, gFlw, Bool.or_eq_true, beq_iff_eq] at h
    rcases List.mem_cons.1 ha with rfl | ha
    · exact h.1.1.1.2
    · exact gF_ok h.2 a ha
theorem arrs_ok {u : Un} (h : (r8Check u).1 = 0) : ∀ a ∈ u.arrays, 1 ≤ a.size ∧ a.size ≤ 1000 := by
  obtain ⟨h1, _⟩ := (check_iff u).1 h
  simp only [r8globals, Bool.and_eq_true] at h1
  exact gA_ok h1.1.1
theorem flws_ty {u : Un} (h : (r8Check u).1 = 0) : ∀ f ∈ u.flows, f.ty = 1 ∨ f.ty = 2 := by
  obtain ⟨h1, _⟩ := (check_iff u).1 h
  simp only [r8globals, Bool.and_eq_true] at h1
  exact gF_ok h1.1.2
theorem flws_tys {u : Un} (h : (r8Check u).1 = 0) : ∀ f ∈ u.flows, ∀ t ∈ f.types, t = 1 ∨ t = 2 := by
  obtain ⟨_, h1⟩ := (check_iff u).1 h
  intro f hf t ht
  have h2 := h1 f hf
  simp only [r8Flow, Bool.and_eq_true] at h2
  have h3 := List.all_eq_true.1 h2.1.2 t ht
  simpa using h3
theorem flws_ne {u : Un} (h : (r8Check u).1 = 0) : u.flows ≠ [] := by
  obtain ⟨h1, _⟩ := (check_iff u).1 h
  simp only [r8globals, r8main, Bool.and_eq_true, decide_eq_true_eq] at h1
  intro e
  rw [e] at h1
  simp [r8Place] at h1
theorem tArr_le {a : Ar} (h : 1 ≤ a.size ∧ a.size ≤ 1000) : (tArr a).size ≤ a.name.size + 29 := by
  have := tNum_le (n := a.size) ⟨by omega, by omega⟩
  simp only [tArr, size_app]
  show 6 + _ + 1 + _ + 1 ≤ _
  omega
theorem tArrs_le : ∀ {l : List Ar}, (∀ a ∈ l, 1 ≤ a.size ∧ a.size ≤ 1000) → (tCat (l.map tArr)).size ≤ wtA l + 29 * l.length
  | [], _ => by show 0 ≤ _; omega
  | a :: r, h => by
    have h1 := tArr_le (h a (.head _))
    have h2 := tArrs_le fun b hb => h b (.tail _ hb)
    simp only [List.map_cons, tCat, size_app, wtA, List.length_cons]
    omega
theorem tFlw_le {f : Fl} (h : ok64L 100 f.body) : (tFlw f).size ≤ (f.name.size + f.types.length + r8nodes f.body + 1) * 1024 := by
  have h1 := tHd_le f f.types.length
  have h2 := tLs_le tTab 100 f.body h (by decide)
  simp only [tFlw, size_app, r8nodes]
  have e1 : tNl.size = 1 := rfl
  omega
theorem tFlws_le : ∀ {l : List Fl}, (∀ f ∈ l, ok64L 100 f.body) → (tCat (l.map tFlw)).size ≤ (wtF l + l.length) * 1024
  | [], _ => by show 0 ≤ _; omega
  | f :: r, h => by
    have h1 := tFlw_le (h f (.head _))
    have h2 := tFlws_le fun g hg => h g (.tail _ hg)
    simp only [List.map_cons, tCat, size_app, wtF, List.length_cons]
    omega
theorem tUnit_le {u : Un} (h : (r8Check u).1 = 0) (ho : PrOk u) : (tUnit u).size ≤ 549755813888 := by
  have h1 := tArrs_le (arrs_ok h)
  have h2 := tFlws_le fun f hf => (body_ok h hf (ho.n f hf)).2
  have h3 := ho.w
  simp only [r8Weight] at h3
  simp only [tUnit, size_app]
  omega
set_option maxRecDepth 20000
set_option maxHeartbeats 4000000
theorem tCat_app : ∀ a b : List ByteArray, tCat (a ++ b) = tCat a ++ tCat b
  | [], b => by simp only [List.nil_append, tCat, nil_app]
  | x :: r, b => by simp only [List.cons_append, tCat, tCat_app r b, app_assoc]
theorem tCat_part {α : Type} (g : α → ByteArray) (l : List α) (k : Nat) : (tCat ((l.take k).map g)).size ≤ (tCat (l.map g)).size := by
  have h : tCat (l.map g) = tCat ((l.take k).map g) ++ tCat ((l.drop k).map g) := by rw [← tCat_app, ← List.map_append, List.take_append_drop]
  rw [h, size_app]
  omega
theorem tCat_next {α : Type} (g : α → ByteArray) {l : List α} {k : Nat} {x : α} (h : l.take (k + 1) = l.take k ++ [x]) : tCat ((l.take (k + 1)).map g) = tCat ((l.take k).map g) ++ g x := by
  rw [h, List.map_append, tCat_app]
  simp only [List.map_cons, List.map_nil, tCat, app_nil]
theorem wtF_at : ∀ {l : List Fl} {f : Fl}, f ∈ l → f.name.size + f.types.length + r8nodes f.body ≤ wtF l
  | g :: r, f, h => by
    simp only [wtF]
    rcases List.mem_cons.1 h with rfl | h
    · omega
    · have := wtF_at h; omega
theorem sc_refPrint (u : Un) (ho : PrOk u) : SC Tryz.prog 10 [.pv u.enc] [] (fun k => k ∈ []) (.tup [.pv (.val (.string (printOf u).1)), iInt (printOf u).2]) [] := by
  refine SC.vc tb { pb := [101] } [] Tryz.func10 rfl rfl ?_
  refine ⟨[], sc_r8Check u ho.w, sR, trivial, rfl, bcase (fun hb => ?_) fun hb => ?_⟩
  · have h : ¬ (r8Check u).1 = 0 := by simpa using hb
    exact ⟨sE (by rw [printOf, if_neg h]), trivial⟩
  · have h : (r8Check u).1 = 0 := by simpa using hb
    have hU := tUnit_le h ho
    have hAr := arrs_ok h
    have e1 : tNl.size = 1 := rfl
    have e2 : tSp.size = 1 := rfl
    have hU2 := hU
    simp only [tUnit, size_app] at hU2
    have hw := ho.w
    simp only [r8Weight] at hw
    refine ⟨Nat, fun k => [(7, iInt k), (6, .pv (.val (.string (tCat ((u.arrays.take k).map tArr)))))], fun _ => [], fun k => u.arrays.length - k, fun k => k ≤ u.arrays.length, [], 0, Nat.zero_le _, ⟨rfl, rfl, trivial⟩, trivial, ?_⟩
    intro k hk
    refine bcase (fun hc => ?_) fun hc => ?_
    · have hlt : k < u.arrays.length := lt_of (f := Ar.enc) rfl hc
      obtain ⟨a, hx, hk1, _, hm⟩ := at_lt hlt
      have hA := hAr a hm
      have hpart := tCat_part tArr u.arrays k
      have hpn := tCat_part tArr u.arrays (k + 1)
      have hn := tCat_next tArr hk1
      rw [hn, size_app] at hpn
      have hsz := tArr_le hA
      have hn2 : (tArr a).size = 6 + a.name.size + 1 + (tNum a.size).size + 1 := by simp only [tArr, size_app]; rfl
      generalize tCat ((u.arrays.take k).map tArr) = T at *
      have g := map_get (f := Ar.enc) hx
      exact ⟨str_add (by show _ + 6 ≤ _; omega), g, rfl, str_add (by rw [size_app]; show _ + 6 + _ ≤ _; omega), str_add (by simp only [size_app]; show _ + 6 + _ + 1 ≤ _; omega), g, rfl, [], sc_digits _ a.size (Nat.lt_succ_self _) ⟨by omega, by omega⟩, sR, trivial, rfl, str_add (by simp only [size_app]; show _ + 6 + _ + 1 + _ ≤ _; omega), str_add (by simp only [size_app]; show _ + 6 + _ + 1 + _ + 1 ≤ _; omega), i64_add rfl (by omega), k + 1, step_lt hlt, hlt, ⟨rfl, svq (by rw [hn]; simp only [tArr, app_assoc]; rfl), trivial⟩, trivial, rfl, rfl, rfl, rfl⟩
    · have hge : u.arrays.length ≤ k := ge_of (f := Ar.enc) rfl hc
      rw [List.take_of_length_le hge]
      generalize hT : tCat (u.arrays.map tArr) = T at *
      refine ⟨Nat, fun k => [(8, iInt k), (6, .pv (.val (.string (T ++ tCat ((u.flows.take k).map tFlw)))))], fun _ => [], fun k => u.flows.length - k, fun k => k ≤ u.flows.length, [], 0, Nat.zero_le _, ⟨rfl, svq (app_nil T).symm, trivial⟩, trivial, ?_⟩
      intro k hk
      refine bcase (fun hc => ?_) fun hc => ?_
      · have hlt : k < u.flows.length := lt_of (f := Fl.enc) rfl hc
        obtain ⟨f, hx, hk1, _, hm⟩ := at_lt hlt
        have hty := flws_ty h f hm
        have htys := flws_tys h f hm
        have hpn := tCat_part tFlw u.flows (k + 1)
        have hn := tCat_next tFlw hk1
        rw [hn, size_app] at hpn
        have hb := body_ok h hm (ho.n f hm)
        have hwf := wtF_at hm
        simp only [r8nodes] at hwf
        have hlist := sc_refList _ 100 f.body tTab (Nat.lt_succ_self _) hb.1 hb.2 (by decide) (by omega)
        have hn2 : (tFlw f).size = (tHd f f.types.length).size + 1 + (tLs tTab f.body).size := by simp only [tFlw, size_app]; rfl
        generalize tCat ((u.flows.take k).map tFlw) = S at *
        have g := map_get (f := Fl.enc) hx
        have hd0 := tHd_le f 0
        have k0 := tKind_le f.ty
        have hTS : (T ++ S).size = T.size + S.size := size_app T S
        refine ⟨g, rfl, [], sc_types f.ty hty, sR, trivial, rfl, str_add (by omega), str_add (by rw [size_app]; show _ + _ + 1 ≤ _; omega), str_add (by simp only [size_app]; show _ + _ + 1 + _ ≤ _; omega), ?_⟩
        refine ⟨Nat, fun j => [(10, iInt j), (6, .pv (.val (.string (T ++ S ++ tHd f j))))], fun _ => [], fun j => f.types.length - j, fun j => j ≤ f.types.length, [], 0, Nat.zero_le _, ⟨rfl, svq (by simp only [tHd, app_assoc]; rfl), trivial⟩, trivial, ?_⟩
        intro j hj
        refine bcase (fun hc2 => ?_) fun hc2 => ?_
        · have hlt2 : j < f.types.length := lt_of (f := eInt) rfl hc2
          obtain ⟨t, hx2, _, _, hm2⟩ := at_lt hlt2
          have hg : f.types.getD j 0 = t := by rw [List.getD_eq_getElem?_getD, hx2]; rfl
          have hjn : tHd f (j + 1) = (if (j : Int) = f.params then tHd f j ++ tSemi else tHd f j) ++ tSp ++ tKind t := by rw [← hg]; rfl
          have hjl := tHd_le f j
          have kt := tKind_le t
          have htt := htys t hm2
          refine bcase (fun hp => ?_) fun hp => ?_
          · have hp' : (j : Int) = f.params := eq_of_beq hp
            rw [if_pos hp'] at hjn
            exact ⟨str_add (by rw [size_app]; show _ + _ + 1 ≤ _; omega), str_add (by simp only [size_app]; show _ + _ + _ + 1 + 1 ≤ _; omega), map_get (f := eInt) hx2, rfl, [], sc_types t htt, sR, trivial, rfl, str_add (by simp only [size_app]; show _ + _ + _ + 1 + 1 + _ ≤ _; omega), i64_add rfl (by omega), j + 1, step_lt hlt2, hlt2, ⟨rfl, svq (by rw [hjn]; simp only [app_assoc]; rfl), trivial⟩, trivial, rfl, rfl, rfl, rfl⟩
          · have hp' : ¬ (j : Int) = f.params := by simpa using hp
            rw [if_neg hp'] at hjn
            exact ⟨str_add (by simp only [size_app]; show _ + _ + _ + 1 ≤ _; omega), map_get (f := eInt) hx2, rfl, [], sc_types t htt, sR, trivial, rfl, str_add (by simp only [size_app]; show _ + _ + _ + 1 + _ ≤ _; omega), i64_add rfl (by omega), j + 1, step_lt hlt2, hlt2, ⟨rfl, svq (by rw [hjn]; simp only [app_assoc]; rfl), trivial⟩, trivial, rfl, rfl, rfl, rfl⟩
        · have hge2 : f.types.length ≤ j := ge_of (f := eInt) rfl hc2
          have hj' : j = f.types.length := by omega
          subst hj'
          exact ⟨str_add (by rw [size_app]; show _ + _ + 1 ≤ _; omega), [], hlist, sR, trivial, rfl, str_add (by simp only [size_app]; show _ + _ + _ + 1 + (tLs tTab f.body).size ≤ _; omega), i64_add rfl (by omega), k + 1, step_lt hlt, hlt, ⟨rfl, svq (by rw [hn]; simp only [tFlw, app_assoc]; rfl), trivial⟩, trivial, rfl, rfl, rfl, rfl⟩
      · have hge : u.flows.length ≤ k := ge_of (f := Fl.enc) rfl hc
        rw [List.take_of_length_le hge]
        exact ⟨sE (by rw [printOf, if_pos h, tUnit, hT]), trivial⟩
theorem sc_shTypes (u : Un) (f : Fl) (st : List Int) (hs : st.length = f.types.length) (l : List Int) (hb : l.length ≤ 1073741824) : SC Tryz.prog 126 [.ptr 3 0, .pv (ints l)] (ckS u f 3 st) (fun k => k < 100) (.pv (ints (r8of f.types l))) (ckS u f 3 st) := by
  refine SC.of Tryz.func126 rfl (lb rfl) fun F ρ w => ?_
  refine Tr.lenOf (t := 1) rfl (fun hl => ?_)
  simp only [List.length_map] at hl
  rw [r8of_eq]
  refine tQ <| tG <| sm 1 rfl <| nL <| tQ <| tQ <| Tr.grow (t := 4) (k := 104) ⟨3, 1⟩ rfl rfl rfl rfl rfl <| tG <| sm 1 rfl <| cV rfl (oSm Tryz.underlying35 rfl) <| sm 1 rfl <| nL ?_
  refine Tr.block <| Tr.sub (Sub.of (fr' := [(9, iInt 0), (8, iInt l.length), (7, .pv (ints l)), (4, .sl 104 0), (0, .ptr 3 0)]) ⟨rfl, rfl, rfl, rfl, rfl, trivial⟩) ?_
  refine Tr.loop (fun fr σ m => ∃ (k : Nat) (acc : List Int), (k ≤ l.length) ∧ (acc.length = k) ∧ (r8ofGo f.types [] l = r8ofGo f.types acc (l.drop k)) ∧ fr = [(9, iInt k), (8, iInt l.length), (7, .pv (ints l)), (4, .sl 104 k), (0, .ptr 3 0)] ∧ σ = look ((104, some (.row ⟨3, 1⟩ (acc.map eInt))) :: up (ckS u f 3 st)) ∧ m = l.length - k) (n := l.length - 0) ?_ ?_
  ·exact ⟨0, [], Nat.zero_le _, rfl, rfl, rfl, rfl, rfl⟩
  rintro fr σ m ⟨k, acc, hI0, hI1, hI2, rfl, rfl, rfl⟩
  refine tQ <| tG <| sm 1 rfl <| nL <| tQ ?_
  refine tC rfl (fun hc10 => ?_) fun hc10 => ?_
  ·have hlt : k < l.length := by simpa using hc10
   have hd := List.drop_eq_getElem_cons hlt
   have hm := List.getElem_mem hlt
   have hi := map_get (f := eInt) (List.getElem?_eq_getElem hlt)
   generalize l[k] = x at hd hm hi
   refine Tr.skip <| tQ <| Tr.block <| tQ <| tG <| cV rfl (ok_index_seq rfl rfl rfl Tryz.underlying35 hi tS3 rfl (by rfl)) <| sm 2 rfl <| nL <| tQ <| tQ <| tG <| sm 2 rfl ?_
   refine cE rfl (ocr (sc_shVal u f st x 0) ent141 rfl (po2 rfl rfl) rfl (fun k (h : _) => .inr trivial) rfl rfl) <| sm 1 rfl <| nL ?_
   refine tC rfl (fun hc16 => ?_) fun hc16 => ?_
   ·refine tQ <| tG <| sm 1 rfl <| nL <| Tr.ret ?_
    have hin : r8inr f.types x = false := by
      cases hr : r8inr f.types x with
      | false => rfl
      | true => simp [r8inr] at hr; simp [shVal] at hc16; omega
    rw [hI2, hd]
    simp only [r8ofGo, hin]
    exact ⟨⟨_, rfl, fun _ _ _ _ h => sub_nil h⟩, (po2 rfl rfl)⟩
   have hin : r8inr f.types x = true := by simp [shVal] at hc16; simp [r8inr]; omega
   have hv0 : x.toNat < f.types.length := by simp [r8inr] at hin; omega
   have hvx : x = ((x.toNat : Nat) : Int) := by simp [r8inr] at hin; omega
   have hty : (f.types.map eInt)[x.toNat]? = some [vInt (f.types.getD x.toNat 0)] := by rw [List.getElem?_map]; simp [eInt, List.getD, hv0]
   refine Tr.skip <| tG <| sm 2 rfl <| cV rfl (ok_nilCheck rfl rfl rfl) <| sm 4 rfl <| cV rfl (ok_index_seq rfl rfl rfl Tryz.underlying35 hty tS3 rfl (by omega)) <| sm 1 rfl <| cE rfl (ok_buildSlice rfl rfl Tryz.underlying35 tZ3 tS3 rfl rfl rfl rfl (firmB_ok rfl) rfl) ?_
   refine cE rfl (ok_append rfl rfl rfl rfl (by (simp; omega)) (by simp) Tryz.underlying35 tB3 (by decide) (by (simp [chunks]; done)) (by (simp [chunks, PV.one]; rfl)) (by simp [maxLen, chunks]; omega) (by simp [chunks]; omega)) ?_
   refine sm 1 rfl <| nL <| tG <| cV rfl (oB rfl rfl (i64_add rfl (by omega))) <| sm 1 rfl <| nL ?_
   refine ⟨_, _, ?_, Sub.of (fr' := [(9, iInt (k + 1)), (8, iInt l.length), (7, .pv (ints l)), (4, .sl 104 (k + 1)), (0, .ptr 3 0)]) ⟨rfl, rfl, rfl, rfl, rfl, trivial⟩, (k + 1), (acc ++ [f.types.getD x.toNat 0]), ?_, ?_, ?_, rfl, look_row_snoc2, rfl⟩
   ·omega
   ·omega
   ·simp [hI1]
   rw [hI2, hd]
   simp [r8ofGo, hin]
  refine Tr.exit <| tQ ?_
  refine Tr.freeze (t := 4) (k := 104) rfl rfl (by simpa using hI1) ?_
  refine tG <| sm 2 rfl <| nL <| Tr.ret <| ret_ok rfl ?_ (po2 rfl rfl)
  have hge : l.length ≤ k := by simpa using hc10
  rw [hI2, List.drop_eq_nil_of_le hge]
  rfl
theorem sc_shSum (u : Un) (f : Fl) (st : List Int) (hs : st.length = f.types.length) (x : Nd) : SC Tryz.prog 130 [.ptr 3 0, .pv (ndv x)] (ckS u f 3 st) (fun k => k = 3) (iBool (shSum f st x).1) (ckS u f 3 (shSum f st x).2) := by
  refine SC.of Tryz.func130 rfl (lb rfl) fun F ρ w => ?_
  refine tQ <| tG <| cE rfl (ok_box rfl rfl) <| sm 1 rfl <| nL <| tQ <| tG <| sm 2 rfl <| cE rfl (ocq (sc_shOperand _) ent145 rfl rfl) <| sm 1 rfl <| cV rfl (ok_extract rfl rfl rfl) <| cV rfl (ok_extract rfl rfl rfl) ?_
  refine sm 2 rfl <| nL <| tQ <| tQ <| tG <| sm 3 rfl <| nL ?_
  refine tC rfl (fun hc16 => ?_) fun hc16 => ?_
  ·refine tQ <| tG <| sm 4 rfl ?_
   refine wS 20 rfl (fun hb20 => ?_) fun hb20 => ?_
   ·refine sm 5 rfl ?_
    refine wS 25 rfl (fun hb25 => ?_) fun hb25 => ?_
    ·refine sm 4 rfl <| WL.yes rfl rfl rfl rfl rfl rfl (ok_buildSlice rfl rfl Tryz.underlying35 tZ3 tS3 rfl rfl rfl rfl (firmB_ok rfl) rfl) <| WL.yes rfl rfl rfl rfl rfl rfl (ok_callr (sc_shUses u f st hs x.args [(shOperand x.op).1]) ent127 rfl rfl (Subs.refl _ _) (po2 rfl rfl) (by rfl) (fun k (h : _) => .inr trivial) rfl (by rfl)) <| sm 2 rfl ?_
     refine wS 33 rfl (fun hb33 => ?_) fun hb33 => ?_
     ·refine sm 4 rfl <| WL.yes rfl rfl rfl rfl rfl rfl (ok_buildSlice rfl rfl Tryz.underlying35 tZ3 tS3 rfl rfl rfl rfl (firmB_ok rfl) rfl) <| WL.yes rfl rfl rfl rfl rfl rfl (ok_callr (sc_shSets u f st hs x.outs [(shOperand x.op).2]) ent129 rfl rfl (Subs.refl _ _) (po2 rfl rfl) (by rfl) (fun k (h : _) => .inr h) rfl (by rfl)) <| sm 2 rfl <| nL <| Tr.ret ?_
      (have h2 : (shSum f st x).2 = (shSets f.types st x.outs [(shOperand x.op).2]).2 := (by simp_all [shSum, r1IsOne, andP]; done)
       rw [h2]
       refine ret_ok rfl ?_ (po2 rfl rfl)
       clear h2
       skip
       simp_all [shSum, r1IsOne, andP]
       done)
     refine sm 8 rfl <| nL <| Tr.ret ?_
     (have h2 : (shSum f st x).2 = st := (by simp_all [shSum, r1IsOne, andP]; done)
      rw [h2]
      refine ret_ok rfl ?_ (po2 rfl rfl)
      clear h2
      skip
      simp_all [shSum, r1IsOne, andP]
      done)
    refine sm 16 rfl <| nL <| Tr.ret ?_
    (have h2 : shSum f st x = (false, st) := (by (first | (simp_all [shSum, r1IsOne, andP]; done) | (simp_all [shSum, r1IsOne, andP] <;> omega)))
     rw [h2]
     exact ret_ok rfl rfl (po2 rfl rfl))
   refine sm 21 rfl <| nL <| Tr.ret ?_
   (have h2 : shSum f st x = (false, st) := (by (first | (simp_all [shSum, r1IsOne, andP]; done) | (simp_all [shSum, r1IsOne, andP] <;> omega)))
    rw [h2]
    exact ret_ok rfl rfl (po2 rfl rfl))
  refine Tr.skip <| tQ <| tG <| sm 2 rfl <| cE rfl (ocq (sc_wLevel _) ent146 rfl rfl) <| sm 2 rfl ?_
  refine wS 45 rfl (fun hb45 => ?_) fun hb45 => ?_
  ·refine sm 5 rfl ?_
   refine wS 50 rfl (fun hb50 => ?_) fun hb50 => ?_
   ·refine sm 5 rfl <| WL.yes rfl rfl rfl rfl rfl rfl (ok_buildSlice rfl rfl Tryz.underlying35 tZ3 tS3 rfl rfl rfl rfl (firmB_ok rfl) rfl) <| WL.yes rfl rfl rfl rfl rfl rfl (ok_callr (sc_shUses u f st hs x.args [(shOperand x.op).1, (shOperand x.op).1]) ent127 rfl rfl (Subs.refl _ _) (po2 rfl rfl) (by rfl) (fun k (h : _) => .inr trivial) rfl (by rfl)) <| sm 2 rfl <| nL <| tQ <| Tr.drawn mixed (fun k => k ∈ ([3] : List Nat)) <| wR 4 [0, 1, 2, 3, 4, 5, 6, 7, 8, 9, 10, 11, 12, 13, 14, 15, 16, 17, 18, 19, 20, 21, 22, 23, 24, 25, 26, 27, 28, 29, 30] (by kernel_rfl) (fun _ _ _ h => h) <| smR 2 rfl ?_
    refine WR.split (t := 60) rfl (fun hb60 => ?_) (fun hb60 => ?_)
    ·obtain ⟨a, b, hab, ha0, hal, hb0, hbl⟩ := shUses_two (by simpa using hb60)
     have hi0 : (x.args.map eInt)[0]? = some [vInt a] := by rw [hab]; rfl
     have hi1 : (x.args.map eInt)[1]? = some [vInt b] := by rw [hab]; rfl
     have hta : (f.types.map eInt)[a.toNat]? = some [vInt (f.types.getD a.toNat 0)] := by rw [List.getElem?_map]; simp [eInt, List.getD, hal]
     have htb : (f.types.map eInt)[b.toNat]? = some [vInt (f.types.getD b.toNat 0)] := by rw [List.getElem?_map]; simp [eInt, List.getD, hbl]
     refine smR 1 rfl <| ryV rfl rfl rfl (ok_nilCheck rfl rfl rfl) <| smR 2 rfl <| ryV rfl rfl rfl (oLb Tryz.underlying35 rfl rfl rfl (by decide)) <| smR 2 rfl <| ryV rfl rfl rfl (ok_index_seq rfl rfl rfl Tryz.underlying35 hi0 tS3 rfl (by rfl)) <| smR 1 rfl <| ryV rfl rfl rfl (ok_index_seq rfl rfl rfl Tryz.underlying35 hta tS3 rfl (by omega)) <| smR 2 rfl <| ryV rfl rfl rfl (ok_nilCheck rfl rfl rfl) <| smR 2 rfl <| ryV rfl rfl rfl (oLb Tryz.underlying35 rfl rfl rfl (by decide)) ?_
     refine smR 2 rfl <| ryV rfl rfl rfl (ok_index_seq rfl rfl rfl Tryz.underlying35 hi1 tS3 rfl (by rfl)) <| smR 1 rfl <| ryV rfl rfl rfl (ok_index_seq rfl rfl rfl Tryz.underlying35 htb tS3 rfl (by omega)) <| smR 4 rfl ?_
     refine WR.split (t := 85) rfl (fun hb85 => ?_) (fun hb85 => ?_)
     ·refine smR 4 rfl <| nR <| wO 31 (by kernel_rfl) <| wY rfl rfl rfl (fun k (h : _) => by (simp at h ⊢; omega)) nw (fun _ _ => ok_buildSlice rfl rfl Tryz.underlying35 tZ3 tS3 rfl rfl rfl rfl (firmB_ok rfl) rfl) <| wO 32 (by kernel_rfl) <| wY rfl rfl rfl (fun k (h : _) => by (simp at h ⊢; omega)) (new_app rfl) (fun _ _ => ocr (sc_shSets u f st hs x.outs [(shOperand x.op).2]) ent129 rfl (po2 rfl rfl) rfl (fun k (h : _) => by (simp only [List.mem_cons, List.not_mem_nil, or_false] at h; rcases h with rfl <;> first | exact .inl rfl | exact .inr rfl | exact .inr (by decide))) rfl rfl) <| wR 0 [33, 34] (by kernel_rfl) (fun _ _ _ h => h) <| smR 2 rfl <| nR <| WA.done (by kernel_rfl) <| Tr.ret ?_
      (have h2 : (shSum f st x).2 = (shSets f.types st x.outs [(shOperand x.op).2]).2 := (by (try (clear ha0 hb0)); simp_all [shSum, andP]; done)
       rw [h2]
       refine ret_ok rfl ?_ (po2 rfl rfl)
       clear h2
       try (clear ha0 hb0)
       simp_all [shSum, andP]
       done)
     refine smR 4 rfl <| nR <| wN 31 (by kernel_rfl) (fun _ _ _ h => h) rfl rfl rfl <| wN 32 (by kernel_rfl) (fun _ _ _ h => h) rfl rfl rfl <| wR 0 [33, 34] (by kernel_rfl) (fun _ _ _ h => h) <| smR 2 rfl <| nR <| WA.done (by kernel_rfl) <| Tr.ret ?_
     (have h2 : (shSum f st x).2 = st := (by (try (clear ha0 hb0)); simp_all [shSum, andP]; done)
      rw [h2]
      refine ret_ok rfl ?_ (po2 rfl rfl)
      clear h2
      try (clear ha0 hb0)
      simp_all [shSum, andP]
      done)
    refine smR 29 rfl <| nR <| wN 31 (by kernel_rfl) (fun _ _ _ h => h) rfl rfl rfl <| wN 32 (by kernel_rfl) (fun _ _ _ h => h) rfl rfl rfl <| wR 0 [33, 34] (by kernel_rfl) (fun _ _ _ h => h) <| smR 2 rfl <| nR <| WA.done (by kernel_rfl) <| Tr.ret ?_
    (have h2 : (shSum f st x).2 = st := (by (try (clear ha0 hb0)); simp_all [shSum, andP]; done)
     rw [h2]
     refine ret_ok rfl ?_ (po2 rfl rfl)
     clear h2
     try (clear ha0 hb0)
     simp_all [shSum, andP]
     done)
   refine sm 9 rfl <| nL <| tQ <| Tr.drawn mixed (fun k => k ∈ ([3] : List Nat)) <| wR 4 [0, 1, 2, 3, 4, 5, 6, 7, 8, 9, 10, 11, 12, 13, 14, 15, 16, 17, 18, 19, 20, 21, 22, 23, 24, 25, 26, 27, 28, 29, 30] (by kernel_rfl) (fun _ _ _ h => h) <| smR 31 rfl <| nR <| wN 31 (by kernel_rfl) (fun _ _ _ h => h) rfl rfl rfl <| wN 32 (by kernel_rfl) (fun _ _ _ h => h) rfl rfl rfl <| wR 0 [33, 34] (by kernel_rfl) (fun _ _ _ h => h) <| smR 2 rfl <| nR ?_
   refine WA.done (by kernel_rfl) <| Tr.ret ?_
   (have h2 : shSum f st x = (false, st) := (by (try (clear ha0 hb0)); (first | (simp_all [shSum, andP]; done) | (simp_all [shSum, andP] <;> omega)))
    rw [h2]
    exact ret_ok rfl rfl (po2 rfl rfl))
  refine sm 14 rfl <| nL <| tQ <| Tr.drawn mixed (fun k => k ∈ ([3] : List Nat)) <| wR 4 [0, 1, 2, 3, 4, 5, 6, 7, 8, 9, 10, 11, 12, 13, 14, 15, 16, 17, 18, 19, 20, 21, 22, 23, 24, 25, 26, 27, 28, 29, 30] (by kernel_rfl) (fun _ _ _ h => h) <| smR 31 rfl <| nR <| wN 31 (by kernel_rfl) (fun _ _ _ h => h) rfl rfl rfl <| wN 32 (by kernel_rfl) (fun _ _ _ h => h) rfl rfl rfl <| wR 0 [33, 34] (by kernel_rfl) (fun _ _ _ h => h) <| smR 2 rfl <| nR ?_
  refine WA.done (by kernel_rfl) <| Tr.ret ?_
  (have h2 : shSum f st x = (false, st) := (by (try (clear ha0 hb0)); (first | (simp_all [shSum, andP]; done) | (simp_all [shSum, andP] <;> omega)))
   rw [h2]
   exact ret_ok rfl rfl (po2 rfl rfl))
theorem sc_shEnd (u : Un) (f : Fl) (st : List Int) (hs : st.length = f.types.length) (x : Nd) (wh : Wh) : SC Tryz.prog 109 [.ptr 3 0, .pv (ndv x), .pv (whv wh)] (ckS u f 3 st) (fun k => k = 3) (iBool (shEnd f st x wh)) (ckS u f 3 st) := by
  refine SC.of Tryz.func109 rfl (lb rfl) fun F ρ w => ?_
  refine tQ <| tG <| cE rfl (ok_box rfl rfl) <| cE rfl (ok_box rfl rfl) <| sm 1 rfl <| nL <| tQ <| tG <| sm 2 rfl <| cV rfl (oSm Tryz.underlying35 rfl) <| sm 2 rfl <| nL ?_
  refine tQ <| tQ <| tG <| sm 2 rfl <| nL <| Tr.block <| tQ <| tG <| sm 2 rfl <| nL ?_
  refine tC rfl (fun hc14 => ?_) fun hc14 => ?_
  ·refine tQ <| tG <| sm 2 rfl ?_
   refine wS 17 rfl (fun hb17 => ?_) fun hb17 => ?_
   ·refine sm 4 rfl ?_
    refine wS 21 rfl (fun hb21 => ?_) fun hb21 => ?_
    ·refine sm 5 rfl <| WL.yes rfl rfl rfl rfl rfl rfl (ok_callr (sc_shUses u f st hs x.args wh.Yield) ent127 rfl rfl (Subs.refl _ _) (po2 rfl rfl) (by rfl) (fun k (h : _) => .inr trivial) rfl (by rfl)) <| sm 2 rfl <| nL <| Tr.ret <| ret_ok rfl ?_ (post_ok (And.intro rfl (And.intro rfl (trivial))))
     refine congrArg (fun b => iBool b) ?_
     simp_all [shEnd]
    refine sm 8 rfl <| nL <| Tr.ret <| ret_ok rfl ?_ (post_ok (And.intro rfl (And.intro rfl (trivial))))
    refine congrArg (fun b => iBool b) ?_
    simp_all [shEnd]
   refine sm 12 rfl <| nL <| Tr.ret <| ret_ok rfl ?_ (post_ok (And.intro rfl (And.intro rfl (trivial))))
   refine congrArg (fun b => iBool b) ?_
   simp_all [shEnd]
  refine tQ <| tG <| sm 2 rfl <| nL ?_
  refine tC rfl (fun hc29 => ?_) fun hc29 => ?_
  ·refine tQ <| tG <| sm 2 rfl ?_
   refine wS 32 rfl (fun hb32 => ?_) fun hb32 => ?_
   ·refine sm 4 rfl ?_
    refine wS 36 rfl (fun hb36 => ?_) fun hb36 => ?_
    ·refine sm 5 rfl <| WL.yes rfl rfl rfl rfl rfl rfl (ok_callr (sc_shUses u f st hs x.args wh.Next) ent127 rfl rfl (Subs.refl _ _) (po2 rfl rfl) (by rfl) (fun k (h : _) => .inr trivial) rfl (by rfl)) <| sm 2 rfl <| nL <| Tr.ret <| ret_ok rfl ?_ (post_ok (And.intro rfl (And.intro rfl (trivial))))
     refine congrArg (fun b => iBool b) ?_
     simp_all [shEnd]
    refine sm 8 rfl <| nL <| Tr.ret <| ret_ok rfl ?_ (post_ok (And.intro rfl (And.intro rfl (trivial))))
    refine congrArg (fun b => iBool b) ?_
    simp_all [shEnd]
   refine sm 12 rfl <| nL <| Tr.ret <| ret_ok rfl ?_ (post_ok (And.intro rfl (And.intro rfl (trivial))))
   refine congrArg (fun b => iBool b) ?_
   simp_all [shEnd]
  refine tQ <| tG <| sm 2 rfl <| nL ?_
  refine tC rfl (fun hc44 => ?_) fun hc44 => ?_
  ·refine tQ <| tG <| sm 2 rfl ?_
   refine wS 47 rfl (fun hb47 => ?_) fun hb47 => ?_
   ·refine sm 4 rfl ?_
    refine wS 51 rfl (fun hb51 => ?_) fun hb51 => ?_
    ·refine sm 5 rfl <| WL.yes rfl rfl rfl rfl rfl rfl (ok_callr (sc_shUses u f st hs x.args wh.Left) ent127 rfl rfl (Subs.refl _ _) (po2 rfl rfl) (by rfl) (fun k (h : _) => .inr trivial) rfl (by rfl)) <| sm 2 rfl <| nL <| Tr.ret <| ret_ok rfl ?_ (post_ok (And.intro rfl (And.intro rfl (trivial))))
     refine congrArg (fun b => iBool b) ?_
     simp_all [shEnd]
    refine sm 8 rfl <| nL <| Tr.ret <| ret_ok rfl ?_ (post_ok (And.intro rfl (And.intro rfl (trivial))))
    refine congrArg (fun b => iBool b) ?_
    simp_all [shEnd]
   refine sm 12 rfl <| nL <| Tr.ret <| ret_ok rfl ?_ (post_ok (And.intro rfl (And.intro rfl (trivial))))
   refine congrArg (fun b => iBool b) ?_
   simp_all [shEnd]
  refine Tr.skip <| tQ <| Tr.drawn mixed (fun k => k ∈ ([3, 4] : List Nat)) <| wR 4 [0, 1, 2, 3, 4, 5, 6, 7, 8, 9] (by kernel_rfl) (fun _ _ _ h => h) <| smR 2 rfl ?_
  refine WR.split (t := 60) rfl (fun hb60 => ?_) (fun hb60 => ?_)
  ·refine smR 4 rfl <| ryV rfl rfl rfl (ok_nilCheck rfl rfl rfl) <| smR 2 rfl <| ryV rfl rfl rfl (oLb Tryz.underlying3 rfl rfl rfl (by decide)) <| nR <| wO 10 (by kernel_rfl) <| wY rfl rfl rfl (fun k (h : _) => by (simp at h ⊢; omega)) nw (fun _ _ => ok_buildSlice rfl rfl Tryz.underlying35 tZ3 tS3 rfl rfl rfl rfl (firmB_ok rfl) rfl) <| wO 11 (by kernel_rfl) <| wY rfl rfl rfl (fun k (h : _) => by (simp at h ⊢; omega)) (new_app rfl) (fun _ _ => ocr (sc_shUses u f st hs x.args [f.ty]) ent127 rfl (po2 rfl rfl) rfl (fun k (h : _) => .inr trivial) rfl rfl) <| wR 0 [12, 13] (by kernel_rfl) (fun _ _ _ h => h) <| smR 2 rfl <| nR ?_
   refine WA.done (by kernel_rfl) <| Tr.ret <| ret_ok rfl ?_ (post_ok (And.intro rfl (And.intro rfl (trivial))))
   refine congrArg (fun b => iBool b) ?_
   simp_all [shEnd]
  refine smR 8 rfl <| nR <| wN 10 (by kernel_rfl) (fun _ _ _ h => h) rfl rfl rfl <| wN 11 (by kernel_rfl) (fun _ _ _ h => h) rfl rfl rfl <| wR 0 [12, 13] (by kernel_rfl) (fun _ _ _ h => h) <| smR 2 rfl <| nR <| WA.done (by kernel_rfl) <| Tr.ret <| ret_ok rfl ?_ (post_ok (And.intro rfl (And.intro rfl (trivial))))
  refine congrArg (fun b => iBool b) ?_
  simp_all [shEnd]
set_option maxRecDepth 20000
theorem sc_shSimple (u : Un) (f : Fl) (st : List Int) (hs : st.length = f.types.length) (hg : ∀ g ∈ u.flows, 0 ≤ g.params ∧ g.params ≤ g.types.length) (x : Nd) : SC Tryz.prog 110 [.ptr 3 0, .pv (ndv x)] (ckS u f 3 st) (fun k => k = 3) (iBool (shSimple u f st x).1) (ckS u f 3 (shSimple u f st x).2) := by
  refine SC.sameR (SC.vc tb {} [3] Tryz.func110 rfl rfl ?_) fun k _ h => List.mem_singleton.2 h
  obtain ⟨kind, op, n, name, args, outs, params, kids⟩ := x
  rcases (show kind = 1 ∨ kind = 2 ∨ kind = 3 ∨ kind = 4 ∨ kind = 5 ∨ kind = 6 ∨ kind = 8 ∨ kind = 9 ∨ kind = 7 ∨ (kind ≠ 1 ∧ kind ≠ 2 ∧ kind ≠ 3 ∧ kind ≠ 4 ∧ kind ≠ 5 ∧ kind ≠ 6 ∧ kind ≠ 8 ∧ kind ≠ 9 ∧ kind ≠ 7) by omega) with rfl | rfl | rfl | rfl | rfl | rfl | rfl | rfl | rfl | h
  · have e : shSimple u f st (.mk 1 op n name args outs params kids) = andP (shUses f.types st args []) st (shSets f.types st outs [1]) := rfl
    rw [e]
    have h1 := sc_shUses u f st hs args []
    generalize shUses f.types st args [] = b at h1 ⊢
    cases b
    · exact ⟨[], h1, SubA.same (SubA.same (SubA.cons sN SubA.nil)), ⟨rfl, trivial, rfl, trivial⟩, rfl, sI, rfl, rfl, trivial⟩
    · exact ⟨[], h1, SubA.same (SubA.same (SubA.cons sN SubA.nil)), ⟨rfl, trivial, rfl, trivial⟩, rfl, [], sc_shSets u f st hs outs [1], sR, ⟨rfl, rfl, rfl, trivial⟩, rfl, sI, rfl, rfl, trivial⟩
  · have e : shSimple u f st (.mk 2 op n name args outs params kids) = andP ((n == 0 || n == 1) && shUses f.types st args []) st (shSets f.types st outs [2]) := rfl
    rw [e]
    have h1 := sc_shUses u f st hs args []
    generalize shUses f.types st args [] = b at h1 ⊢
    rcases (show n = 0 ∨ n = 1 ∨ ((n == 0) = false ∧ (n == 1) = false) by simp; omega) with rfl | rfl | ⟨h2, h3⟩
    · cases b
      · exact ⟨[], h1, SubA.same (SubA.same (SubA.cons sN SubA.nil)), ⟨rfl, trivial, rfl, trivial⟩, rfl, sI, rfl, rfl, trivial⟩
      · exact ⟨[], h1, SubA.same (SubA.same (SubA.cons sN SubA.nil)), ⟨rfl, trivial, rfl, trivial⟩, rfl, [], sc_shSets u f st hs outs [2], sR, ⟨rfl, rfl, rfl, trivial⟩, rfl, sI, rfl, rfl, trivial⟩
    · cases b
      · exact ⟨[], h1, SubA.same (SubA.same (SubA.cons sN SubA.nil)), ⟨rfl, trivial, rfl, trivial⟩, rfl, sI, rfl, rfl, trivial⟩
      · exact ⟨[], h1, SubA.same (SubA.same (SubA.cons sN SubA.nil)), ⟨rfl, trivial, rfl, trivial⟩, rfl, [], sc_shSets u f st hs outs [2], sR, ⟨rfl, rfl, rfl, trivial⟩, rfl, sI, rfl, rfl, trivial⟩
    · rw [show ((n == 0 || n == 1) && b) = false by rw [h2, h3]; rfl]
      refine bcase (fun h => absurd (h.symm.trans h2) (by decide)) fun _ => bcase (fun h => absurd (h.symm.trans h3) (by decide)) fun _ => ?_
      exact ⟨sI, rfl, rfl, trivial⟩
  · exact ⟨[], sc_shSum u f st hs (.mk 3 op n name args outs params kids), sR, ⟨rfl, rfl, rfl, trivial⟩, rfl, sI, rfl, rfl, trivial⟩
  · exact ⟨[], sc_shSum u f st hs (.mk 4 op n name args outs params kids), sR, ⟨rfl, rfl, rfl, trivial⟩, rfl, sI, rfl, rfl, trivial⟩
  · have e : shSimple u f st (.mk 5 op n name args outs params kids) = andP (decide (r8Array name u.arrays 0 ≥ 0) && shUses f.types st args [1]) st (shSets f.types st outs [1]) := rfl
    rw [e]
    have h0 := sc_shHas u name
    have h1 := sc_shUses u f st hs args [1]
    generalize shUses f.types st args [1] = b at h1 ⊢
    generalize decide (r8Array name u.arrays 0 ≥ 0) = c at h0 ⊢
    cases c
    · exact ⟨[], h0, sR, trivial, rfl, sI, rfl, rfl, trivial⟩
    · cases b
      · exact ⟨[], h0, sR, trivial, rfl, [], h1, sR, ⟨rfl, trivial, rfl, trivial⟩, rfl, sI, rfl, rfl, trivial⟩
      · exact ⟨[], h0, sR, trivial, rfl, [], h1, sR, ⟨rfl, trivial, rfl, trivial⟩, rfl, [], sc_shSets u f st hs outs [1], sR, ⟨rfl, rfl, rfl, trivial⟩, rfl, sI, rfl, rfl, trivial⟩
  · have e : shSimple u f st (.mk 6 op n name args outs params kids) = andP (decide (r8Array name u.arrays 0 ≥ 0) && shUses f.types st args [1, 1]) st (shSets f.types st outs []) := rfl
    rw [e]
    have h0 := sc_shHas u name
    have h1 := sc_shUses u f st hs args [1, 1]
    generalize shUses f.types st args [1, 1] = b at h1 ⊢
    generalize decide (r8Array name u.arrays 0 ≥ 0) = c at h0 ⊢
    cases c
    · exact ⟨[], h0, sR, trivial, rfl, sI, rfl, rfl, trivial⟩
    · cases b
      · exact ⟨[], h0, sR, trivial, rfl, [], h1, sR, ⟨rfl, trivial, rfl, trivial⟩, rfl, sI, rfl, rfl, trivial⟩
      · exact ⟨[], h0, sR, trivial, rfl, [], h1, sR, ⟨rfl, trivial, rfl, trivial⟩, rfl, [], sc_shSets u f st hs outs [], SubA.same (SubA.same (SubA.cons sN SubA.nil)), ⟨rfl, rfl, rfl, trivial⟩, rfl, sI, rfl, rfl, trivial⟩
  · have e : shSimple u f st (.mk 8 op n name args outs params kids) = andP (shUses f.types st args []) st (shSets f.types st outs [1]) := rfl
    rw [e]
    have h1 := sc_shUses u f st hs args []
    generalize shUses f.types st args [] = b at h1 ⊢
    cases b
    · exact ⟨[], h1, SubA.same (SubA.same (SubA.cons sN SubA.nil)), ⟨rfl, trivial, rfl, trivial⟩, rfl, sI, rfl, rfl, trivial⟩
    · exact ⟨[], h1, SubA.same (SubA.same (SubA.cons sN SubA.nil)), ⟨rfl, trivial, rfl, trivial⟩, rfl, [], sc_shSets u f st hs outs [1], sR, ⟨rfl, rfl, rfl, trivial⟩, rfl, sI, rfl, rfl, trivial⟩
  · have e : shSimple u f st (.mk 9 op n name args outs params kids) = andP (shUses f.types st args [1]) st (shSets f.types st outs []) := rfl
    rw [e]
    have h1 := sc_shUses u f st hs args [1]
    generalize shUses f.types st args [1] = b at h1 ⊢
    cases b
    · exact ⟨[], h1, sR, ⟨rfl, trivial, rfl, trivial⟩, rfl, sI, rfl, rfl, trivial⟩
    · exact ⟨[], h1, sR, ⟨rfl, trivial, rfl, trivial⟩, rfl, [], sc_shSets u f st hs outs [], SubA.same (SubA.same (SubA.cons sN SubA.nil)), ⟨rfl, rfl, rfl, trivial⟩, rfl, sI, rfl, rfl, trivial⟩
  · have e : shSimple u f st (.mk 7 op n name args outs params kids) = shCall u f st (.mk 7 op n name args outs params kids) := rfl
    rw [e]
    refine ⟨[], sc_shPlace u name, sR, trivial, rfl, bcase (fun hc => ?_) fun hc => ?_⟩
    · rw [show shCall u f st (.mk 7 op n name args outs params kids) = (false, st) from if_pos (of_decide_eq_true hc)]
      exact ⟨sI, rfl, rfl, trivial⟩
    · have hl : ¬ r8Place name u.flows 0 < 0 := of_decide_eq_false hc
      have hk0 : r8Place name u.flows 0 ≥ 0 := by omega
      obtain ⟨g, hgk, _⟩ := r8Place_at hk0
      obtain ⟨hgp0, hgpl⟩ := hg g (List.mem_of_getElem? hgk)
      have e2 : shCall u f st (.mk 7 op n name args outs params kids) = andP (shUses f.types st args (g.types.take g.params.toNat)) st (shSets f.types st outs [g.ty]) := by
        show (if r8Place name u.flows 0 < 0 then _ else match u.flows[(r8Place name u.flows 0).toNat]? with | some g => _ | none => _) = _
        rw [if_neg hl, hgk]
        rfl
      rw [e2]
      have h1 := sc_shUses u f st hs args (g.types.take g.params.toNat)
      generalize shUses f.types st args (g.types.take g.params.toNat) = b at h1 ⊢
      have hi := map_get (f := Fl.enc) hgk
      have hkn : (((r8Place name u.flows 0).toNat : Nat) : Int) = r8Place name u.flows 0 := by omega
      have hpn : ((g.params.toNat : Nat) : Int) = g.params := by omega
      have hle : 0 ≤ g.params.toNat := Nat.zero_le _
      have hge : g.params.toNat ≤ (g.types.map eInt).length := by simp; omega
      cases b
      · exact ⟨hi, hkn.symm, _, hpn.symm, hle, hge, hw_int, [], h1, SubA.same (SubA.same (SubA.cons (sP (by simp only [ints, List.map_take]; exact PSub.refl _)) SubA.nil)), ⟨rfl, trivial, rfl, trivial⟩, rfl, sI, rfl, rfl, trivial⟩
      · exact ⟨hi, hkn.symm, _, hpn.symm, hle, hge, hw_int, [], h1, SubA.same (SubA.same (SubA.cons (sP (by simp only [ints, List.map_take]; exact PSub.refl _)) SubA.nil)), ⟨rfl, trivial, rfl, trivial⟩, rfl, [], sc_shSets u f st hs outs [g.ty], sR, ⟨rfl, rfl, rfl, trivial⟩, rfl, sI, rfl, rfl, trivial⟩
  · obtain ⟨h1, h2, h3, h4, h5, h6, h8, h9, h7⟩ := h
    rw [show shSimple u f st (.mk kind op n name args outs params kids) = (false, st) by unfold shSimple; simp [Nd.kind, h1, h2, h3, h4, h5, h6, h7, h8, h9]]
    have no : ∀ {i : Int}, kind ≠ i → (kind == i) = true → False := fun h e => h (eq_of_beq e)
    exact bcase (fun h => (no h1 h).elim) fun _ => bcase (fun h => (no h2 h).elim) fun _ => bcase (fun h => (no h3 h).elim) fun _ => bcase (fun h => (no h4 h).elim) fun _ => bcase (fun h => (no h5 h).elim) fun _ => bcase (fun h => (no h6 h).elim) fun _ => bcase (fun h => (no h8 h).elim) fun _ => bcase (fun h => (no h9 h).elim) fun _ => bcase (fun h => (no h7 h).elim) fun _ => ⟨sI, rfl, rfl, trivial⟩
set_option maxRecDepth 20000
set_option maxHeartbeats 2000000
theorem shTail_c (f : Fl) {x : Nd} (st : List Int) {c : Bool} (h : ((x.outs.length : Int) == 0 || !r8Closed x) = c) : shTail f x st = andP c st (shSets f.types st x.outs (List.replicate x.outs.length 0)) := by rw [shTail, h]
theorem sc_shChoice (u : Un) (f : Fl) (st : List Int) (hs : st.length = f.types.length) (x : Nd) (ka kb : List Nd) (hkids : x.kids = [ka, kb]) (wh : Wh) (deep : Int) (hbo : x.outs.length ≤ 1073741824) (ih : ∀ q ∈ x.kids, ∀ (w : Wh) (st : List Int), st.length = f.types.length → SC Tryz.prog 51 [.ptr 3 0, .pv (nodes q), .pv (whv w), iInt deep] (ckS u f 3 st) (fun k => k = 3) (iBool (shList u f deep w st q).1) (ckS u f 3 (shList u f deep w st q).2)) : SC Tryz.prog 106 [.ptr 3 0, .pv (ndv x), .pv (whv wh), iInt deep] (ckS u f 3 st) (fun k => k = 3) (iBool (if shUses f.types st x.args [2] then andQ (shList u f deep ⟨true, wh.Loop, r8of f.types x.outs, wh.Next, wh.Left⟩ st ka) (fun s1 => andQ (shList u f deep ⟨true, wh.Loop, r8of f.types x.outs, wh.Next, wh.Left⟩ s1 kb) fun s2 => shTail f x s2) else (false, st)).1) (ckS u f 3 (if shUses f.types st x.args [2] then andQ (shList u f deep ⟨true, wh.Loop, r8of f.types x.outs, wh.Next, wh.Left⟩ st ka) (fun s1 => andQ (shList u f deep ⟨true, wh.Loop, r8of f.types x.outs, wh.Next, wh.Left⟩ s1 kb) fun s2 => shTail f x s2) else (false, st)).2) := by
  refine SC.sameR (SC.vc tb {} [3] Tryz.func106 rfl rfl ?_) fun k _ h => List.mem_singleton.2 h
  have hi0 : (x.kids.map eKid)[0]? = some [nodes ka] := by rw [hkids]; rfl
  have hi1 : (x.kids.map eKid)[1]? = some [nodes kb] := by rw [hkids]; rfl
  have hm0 : ka ∈ x.kids := by rw [hkids]; exact .head _
  have hm1 : kb ∈ x.kids := by rw [hkids]; exact .tail _ (.head _)
  have hT := sc_shTypes u f st hs x.outs hbo
  have h1 := sc_shUses u f st hs x.args [2]
  have h2 := ih ka hm0 ⟨true, wh.Loop, r8of f.types x.outs, wh.Next, wh.Left⟩ st hs
  have l2 := (shList_length u f deep ⟨true, wh.Loop, r8of f.types x.outs, wh.Next, wh.Left⟩ st ka).trans hs
  have hC := sc_shClosed x
  generalize shUses f.types st x.args [2] = b1 at h1 ⊢
  generalize shList u f deep ⟨true, wh.Loop, r8of f.types x.outs, wh.Next, wh.Left⟩ st ka = R2 at h2 l2 ⊢
  obtain ⟨b2, st2⟩ := R2
  have h3 := ih kb hm1 ⟨true, wh.Loop, r8of f.types x.outs, wh.Next, wh.Left⟩ st2 l2
  have l3 := (shList_length u f deep ⟨true, wh.Loop, r8of f.types x.outs, wh.Next, wh.Left⟩ st2 kb).trans l2
  cases b1
  · exact ⟨[], hT, sR, ⟨rfl, by decide, rfl, trivial⟩, rfl, [], h1, sR, ⟨rfl, trivial, rfl, trivial⟩, rfl, sI, rfl, rfl, trivial⟩
  cases b2
  · exact ⟨[], hT, sR, ⟨rfl, by decide, rfl, trivial⟩, rfl, [], h1, sR, ⟨rfl, trivial, rfl, trivial⟩, rfl, hi0, rfl, [], h2, sR, ⟨rfl, rfl, rfl, trivial⟩, rfl, sI, rfl, rfl, trivial⟩
  rw [show andQ (true, st2) (fun s1 => andQ (shList u f deep ⟨true, wh.Loop, r8of f.types x.outs, wh.Next, wh.Left⟩ s1 kb) fun s2 => shTail f x s2) = andQ (shList u f deep ⟨true, wh.Loop, r8of f.types x.outs, wh.Next, wh.Left⟩ st2 kb) (fun s2 => shTail f x s2) from rfl]
  generalize shList u f deep ⟨true, wh.Loop, r8of f.types x.outs, wh.Next, wh.Left⟩ st2 kb = R3 at h3 l3 ⊢
  obtain ⟨b3, st3⟩ := R3
  cases b3
  · exact ⟨[], hT, sR, ⟨rfl, by decide, rfl, trivial⟩, rfl, [], h1, sR, ⟨rfl, trivial, rfl, trivial⟩, rfl, hi0, rfl, [], h2, sR, ⟨rfl, rfl, rfl, trivial⟩, rfl, hi1, rfl, [], h3, sR, ⟨rfl, rfl, rfl, trivial⟩, rfl, sI, rfl, rfl, trivial⟩
  rw [show andQ (true, st3) (fun s2 => shTail f x s2) = shTail f x st3 from rfl]
  have hA := sc_shAll u f st3 l3 x.outs hbo
  refine ⟨[], hT, sR, ⟨rfl, by decide, rfl, trivial⟩, rfl, [], h1, sR, ⟨rfl, trivial, rfl, trivial⟩, rfl, hi0, rfl, [], h2, sR, ⟨rfl, rfl, rfl, trivial⟩, rfl, hi1, rfl, [], h3, sR, ⟨rfl, rfl, rfl, trivial⟩, rfl, bcase (fun h => ?_) fun h => ?_⟩
  · rw [shTail_c f st3 (c := true) (by rw [List.length_map] at h; rw [h, Bool.true_or])]
    exact ⟨[], hA, sR, ⟨rfl, rfl, rfl, trivial⟩, rfl, sI, rfl, rfl, trivial⟩
  · rw [List.length_map] at h
    have hq : ((x.outs.length : Int) == 0 || !r8Closed x) = !r8Closed x := by rw [h, Bool.false_or]
    rw [shTail_c f st3 hq]
    generalize r8Closed x = c at hC ⊢
    cases c
    · exact ⟨[], hC, sR, trivial, rfl, [], hA, sR, ⟨rfl, rfl, rfl, trivial⟩, rfl, sI, rfl, rfl, trivial⟩
    · exact ⟨[], hC, sR, trivial, rfl, sI, rfl, rfl, trivial⟩
theorem sc_shLoop (u : Un) (f : Fl) (st : List Int) (hs : st.length = f.types.length) (x : Nd) (ka : List Nd) (hkids : x.kids = [ka]) (deep : Int) (hbo : x.outs.length ≤ 1073741824) (hbp : x.params.length ≤ 1073741824) (ih : ∀ q ∈ x.kids, ∀ (w : Wh) (st : List Int), st.length = f.types.length → SC Tryz.prog 51 [.ptr 3 0, .pv (nodes q), .pv (whv w), iInt deep] (ckS u f 3 st) (fun k => k = 3) (iBool (shList u f deep w st q).1) (ckS u f 3 (shList u f deep w st q).2)) : SC Tryz.prog 107 [.ptr 3 0, .pv (ndv x), iInt deep] (ckS u f 3 st) (fun k => k = 3) (iBool (if shUses f.types st x.args (r8of f.types x.params) then andQ (shSets f.types st x.params (List.replicate x.params.length 0)) (fun s1 => andQ (shList u f deep ⟨false, true, [], r8of f.types x.params, r8of f.types x.outs⟩ s1 ka) fun s2 => shTail f x (shHide s2 x.params)) else (false, st)).1) (ckS u f 3 (if shUses f.types st x.args (r8of f.types x.params) then andQ (shSets f.types st x.params (List.replicate x.params.length 0)) (fun s1 => andQ (shList u f deep ⟨false, true, [], r8of f.types x.params, r8of f.types x.outs⟩ s1 ka) fun s2 => shTail f x (shHide s2 x.params)) else (false, st)).2) := by
  refine SC.sameR (SC.vc tb {} [3] Tryz.func107 rfl rfl ?_) fun k _ h => List.mem_singleton.2 h
  have hi0 : (x.kids.map eKid)[0]? = some [nodes ka] := by rw [hkids]; rfl
  have hm0 : ka ∈ x.kids := by rw [hkids]; exact .head _
  have hT := sc_shTypes u f st hs x.params hbp
  have hT2 := sc_shTypes u f st hs x.outs hbo
  have h1 := sc_shUses u f st hs x.args (r8of f.types x.params)
  have hA1 := sc_shAll u f st hs x.params hbp
  have l1 := (shSets_length f.types st x.params (List.replicate x.params.length 0)).trans hs
  have hC := sc_shClosed x
  generalize shUses f.types st x.args (r8of f.types x.params) = b1 at h1 ⊢
  cases b1
  · exact ⟨[], hT, sR, ⟨rfl, by decide, rfl, trivial⟩, rfl, [], hT2, sR, ⟨rfl, by decide, rfl, trivial⟩, rfl, [], h1, sR, ⟨rfl, trivial, rfl, trivial⟩, rfl, sI, rfl, rfl, trivial⟩
  have hpin : (shSets f.types st x.params (List.replicate x.params.length 0)).1 = true → ∀ v ∈ x.params, 0 ≤ v ∧ v < f.types.length := fun h => shSets_in h
  generalize shSets f.types st x.params (List.replicate x.params.length 0) = R2 at hA1 l1 hpin ⊢
  obtain ⟨b2, st1⟩ := R2
  cases b2
  · exact ⟨[], hT, sR, ⟨rfl, by decide, rfl, trivial⟩, rfl, [], hT2, sR, ⟨rfl, by decide, rfl, trivial⟩, rfl, [], h1, sR, ⟨rfl, trivial, rfl, trivial⟩, rfl, [], hA1, sR, ⟨rfl, rfl, rfl, trivial⟩, rfl, sI, rfl, rfl, trivial⟩
  have hpin := hpin rfl
  have h2 := ih ka hm0 ⟨false, true, [], r8of f.types x.params, r8of f.types x.outs⟩ st1 l1
  have l2 := (shList_length u f deep ⟨false, true, [], r8of f.types x.params, r8of f.types x.outs⟩ st1 ka).trans l1
  rw [show andQ (true, st1) (fun s1 => andQ (shList u f deep ⟨false, true, [], r8of f.types x.params, r8of f.types x.outs⟩ s1 ka) fun s2 => shTail f x (shHide s2 x.params)) = andQ (shList u f deep ⟨false, true, [], r8of f.types x.params, r8of f.types x.outs⟩ st1 ka) (fun s2 => shTail f x (shHide s2 x.params)) from rfl]
  generalize shList u f deep ⟨false, true, [], r8of f.types x.params, r8of f.types x.outs⟩ st1 ka = R3 at h2 l2 ⊢
  obtain ⟨b3, st2⟩ := R3
  cases b3
  · exact ⟨[], hT, sR, ⟨rfl, by decide, rfl, trivial⟩, rfl, [], hT2, sR, ⟨rfl, by decide, rfl, trivial⟩, rfl, [], h1, sR, ⟨rfl, trivial, rfl, trivial⟩, rfl, [], hA1, sR, ⟨rfl, rfl, rfl, trivial⟩, rfl, hi0, rfl, [], h2, SubA.same (SubA.same (SubA.cons (sP (nilP_agg _)) sR)), ⟨rfl, rfl, rfl, trivial⟩, rfl, sI, rfl, rfl, trivial⟩
  have hH := sc_shHide u f st2 l2 x.params hpin
  have l3 := (shHide_length x.params st2).trans l2
  rw [show andQ (true, st2) (fun s2 => shTail f x (shHide s2 x.params)) = shTail f x (shHide st2 x.params) from rfl]
  generalize shHide st2 x.params = st3 at hH l3 ⊢
  have hA := sc_shAll u f st3 l3 x.outs hbo
  refine ⟨[], hT, sR, ⟨rfl, by decide, rfl, trivial⟩, rfl, [], hT2, sR, ⟨rfl, by decide, rfl, trivial⟩, rfl, [], h1, sR, ⟨rfl, trivial, rfl, trivial⟩, rfl, [], hA1, sR, ⟨rfl, rfl, rfl, trivial⟩, rfl, hi0, rfl, [], h2, SubA.same (SubA.same (SubA.cons (sP (nilP_agg _)) sR)), ⟨rfl, rfl, rfl, trivial⟩, rfl, [], hH, sR, ⟨rfl, rfl, rfl, trivial⟩, rfl, bcase (fun h => ?_) fun h => ?_⟩
  · rw [shTail_c f st3 (c := true) (by rw [List.length_map] at h; rw [h, Bool.true_or])]
    exact ⟨[], hA, sR, ⟨rfl, rfl, rfl, trivial⟩, rfl, sI, rfl, rfl, trivial⟩
  · rw [List.length_map] at h
    have hq : ((x.outs.length : Int) == 0 || !r8Closed x) = !r8Closed x := by rw [h, Bool.false_or]
    rw [shTail_c f st3 hq]
    generalize r8Closed x = c at hC ⊢
    cases c
    · exact ⟨[], hC, sR, trivial, rfl, [], hA, sR, ⟨rfl, rfl, rfl, trivial⟩, rfl, sI, rfl, rfl, trivial⟩
    · exact ⟨[], hC, sR, trivial, rfl, sI, rfl, rfl, trivial⟩
theorem sc_shNode (u : Un) (f : Fl) (hg : ∀ g ∈ u.flows, 0 ≤ g.params ∧ g.params ≤ g.types.length) (x : Nd) (deep : Int) (hd : 0 ≤ deep ∧ deep ≤ 100) (wh : Wh) (st : List Int) (hs : st.length = f.types.length) (hbo : x.outs.length ≤ 1073741824) (hbp : x.params.length ≤ 1073741824) (ih : ∀ q ∈ x.kids, ∀ (w : Wh) (st : List Int), st.length = f.types.length → SC Tryz.prog 51 [.ptr 3 0, .pv (nodes q), .pv (whv w), iInt (deep + 1)] (ckS u f 3 st) (fun k => k = 3) (iBool (shList u f (deep + 1) w st q).1) (ckS u f 3 (shList u f (deep + 1) w st q).2)) : SC Tryz.prog 79 [.ptr 3 0, .pv (ndv x), .pv (whv wh), iInt deep] (ckS u f 3 st) (fun k => k = 3) (iBool (shNode u f deep wh st x).1) (ckS u f 3 (shNode u f deep wh st x).2) := by
  refine SC.of Tryz.func79 rfl (lb rfl) fun F ρ w => ?_
  refine tQ <| tG <| cE rfl (ok_box rfl rfl) <| cE rfl (ok_box rfl rfl) <| sm 1 rfl <| nL <| tQ <| Tr.block <| tQ <| tG <| cV rfl (ok_load_ept_agg rfl rfl Tryz.underlying38 rfl tS38 (lb rfl)) <| cE rfl (ocq (sc_shBare _) ent105 rfl rfl) ?_
  refine sm 2 rfl <| nL ?_
  refine tC rfl (fun hc9 => ?_) fun hc9 => ?_
  ·refine tQ <| tG <| sm 1 rfl <| nL <| Tr.ret ?_
   have hbare : r8bare x = false := by simpa using hc9
   rw [shNode_bare _ _ _ _ _ hbare]
   exact ret_ok rfl rfl (po2 rfl rfl)
  have hbare : r8bare x = true := by simpa using hc9
  refine tQ <| tG <| sm 4 rfl <| nL ?_
  refine tC rfl (fun hc13 => ?_) fun hc13 => ?_
  ·have hk10 : x.kind = 10 := by simpa using hc13
   obtain ⟨ka, kb, hkids⟩ := r8bare_if hbare hk10
   refine tQ <| tG <| sm 1 rfl <| cV rfl (ok_load_ept_agg rfl rfl Tryz.underlying38 rfl tS38 (lb rfl)) <| cV rfl (ok_load_ept_agg rfl rfl Tryz.underlying96 rfl tS96 (lb rfl)) <| sm 1 rfl <| cV rfl (oB rfl rfl (i64_add rfl (by omega))) <| cE rfl (ocr (sc_shChoice u f st hs x ka kb hkids wh (deep + 1) hbo ih) ent106 rfl (po2 rfl rfl) rfl (fun k (h : _) => .inr h) rfl rfl) <| sm 1 rfl <| nL <| Tr.ret ?_
   rw [shNode_if _ _ _ _ _ hbare hk10 hkids]
   exact ret_ok rfl rfl (po2 rfl rfl)
  refine tQ <| tG <| sm 4 rfl <| nL ?_
  refine tC rfl (fun hc23 => ?_) fun hc23 => ?_
  ·have hk11 : x.kind = 11 := by simpa using hc23
   obtain ⟨ka, hkids⟩ := r8bare_loop hbare hk11
   refine tQ <| tG <| sm 1 rfl <| cV rfl (ok_load_ept_agg rfl rfl Tryz.underlying38 rfl tS38 (lb rfl)) <| sm 1 rfl <| cV rfl (oB rfl rfl (i64_add rfl (by omega))) <| cE rfl (ocr (sc_shLoop u f st hs x ka hkids (deep + 1) hbo hbp ih) ent107 rfl (po2 rfl rfl) rfl (fun k (h : _) => .inr h) rfl rfl) <| sm 1 rfl <| nL <| Tr.ret ?_
   rw [shNode_loop _ _ _ _ _ hbare hk11 hkids]
   exact ret_ok rfl rfl (po2 rfl rfl)
  refine tQ <| tG <| cV rfl (ok_load_ept_agg rfl rfl Tryz.underlying38 rfl tS38 (lb rfl)) <| cE rfl (ocq (sc_shEnds _) ent108 rfl rfl) <| sm 1 rfl <| nL ?_
  refine tC rfl (fun hc32 => ?_) fun hc32 => ?_
  ·refine tQ <| tG <| sm 1 rfl <| cV rfl (ok_load_ept_agg rfl rfl Tryz.underlying38 rfl tS38 (lb rfl)) <| cV rfl (ok_load_ept_agg rfl rfl Tryz.underlying96 rfl tS96 (lb rfl)) <| cE rfl (ocr (sc_shEnd u f st hs x wh) ent109 rfl (po2 rfl rfl) rfl (fun k (h : _) => .inr h) rfl rfl) <| sm 1 rfl <| nL <| Tr.ret ?_
   rw [shNode_end _ _ _ _ _ hbare hc13 hc23 hc32]
   exact ret_ok rfl rfl (po2 rfl rfl)
  refine Tr.skip <| tQ <| tG <| sm 1 rfl <| cV rfl (ok_load_ept_agg rfl rfl Tryz.underlying38 rfl tS38 (lb rfl)) <| cE rfl (ocr (sc_shSimple u f st hs hg x) ent110 rfl (po2 rfl rfl) rfl (fun k (h : _) => .inr h) rfl rfl) <| sm 1 rfl <| nL <| Tr.ret ?_
  rw [shNode_simple _ _ _ _ _ hbare hc13 hc23 hc32]
  exact ret_ok rfl rfl (po2 rfl rfl)
theorem sc_shList_aux (N : Nat) : ∀ (u : Un) (f : Fl) (hg : ∀ g ∈ u.flows, 0 ≤ g.params ∧ g.params ≤ g.types.length) (l : List Nd) (deep : Int) (hd : 0 ≤ deep ∧ deep ≤ 101) (wh : Wh) (st : List Int) (hs : st.length = f.types.length) (hb : lsW l ≤ 1073741824), SizeOf.sizeOf l < N → SC Tryz.prog 51 [.ptr 3 0, .pv (nodes l), .pv (whv wh), iInt deep] (ckS u f 3 st) (fun k => k = 3) (iBool (shList u f deep wh st l).1) (ckS u f 3 (shList u f deep wh st l).2) := by
  induction N with
  | zero => intro u f hg l deep hd wh st hs hb hN; exact absurd hN (Nat.not_lt_zero _)
  | succ N ih =>
    intro u f hg l deep hd wh st hs hb hN
    refine SC.of Tryz.func51 rfl (lb rfl) fun F ρ w => ?_
    refine Tr.lenOf (t := 1) rfl (fun hl => ?_)
    simp only [List.length_map] at hl
    refine tQ <| tG <| cE rfl (ok_box rfl rfl) <| sm 1 rfl <| nL <| tQ <| tQ <| tG <| sm 1 rfl <| cV rfl (oSm Tryz.underlying39 rfl) <| sm 1 rfl <| nL ?_
    refine Tr.block <| Tr.sub (Sub.of (fr' := [(15, iInt 0), (14, iInt l.length), (13, .pv (nodes l)), (6, .pv (.ept [vBool wh.If, vBool wh.Loop, ints wh.Yield, ints wh.Next, ints wh.Left] 0)), (0, .ptr 3 0), (1, .pv (nodes l)), (3, iInt deep)]) ⟨rfl, rfl, rfl, rfl, rfl, rfl, rfl, trivial⟩) ?_
    refine Tr.loop (fun fr σ m => ∃ (k : Nat) (s : List Int), (k ≤ l.length) ∧ (shGo u f deep wh st l = shGo u f deep wh s (l.drop k)) ∧ (s.length = f.types.length) ∧ fr = [(15, iInt k), (14, iInt l.length), (13, .pv (nodes l)), (6, .pv (.ept [vBool wh.If, vBool wh.Loop, ints wh.Yield, ints wh.Next, ints wh.Left] 0)), (0, .ptr 3 0), (1, .pv (nodes l)), (3, iInt deep)] ∧ σ = look (up (ckS u f 3 s)) ∧ m = l.length - k) (n := l.length - 0) ?_ ?_
    ·exact ⟨0, st, Nat.zero_le _, rfl, hs, rfl, rfl, rfl⟩
    rintro fr σ m ⟨k, s, hI0, hI1, hI2, rfl, rfl, rfl⟩
    refine tQ <| tG <| sm 1 rfl <| nL <| tQ ?_
    refine tC rfl (fun hc16 => ?_) fun hc16 => ?_
    ·have hlt : k < l.length := by simpa using hc16
     have hd2 := List.drop_eq_getElem_cons hlt
     have hm := List.getElem_mem hlt
     have hi := nodes_get (List.getElem?_eq_getElem hlt)
     generalize l[k] = x at hd2 hm hi
     have hWx := ndW_eq x
     have hWl := ndW_mem hm
     have hxo : x.outs.length ≤ 1073741824 := by omega
     have hxp : x.params.length ≤ 1073741824 := by omega
     refine Tr.skip <| tQ <| Tr.block <| tQ <| tG <| sm 1 rfl <| cV rfl (ok_index_seq rfl rfl rfl Tryz.underlying39 hi tS38 rfl (by rfl)) <| cV rfl (ok_load_ept_agg rfl rfl Tryz.underlying38 rfl tS38 (lb rfl)) <| cE rfl (ok_alloc (k := 110) rfl tZ38 rfl rfl rfl rfl) <| sm 1 rfl <| c0 (ok_store_box_agg rfl rfl rfl rfl rfl (by simp) tS38 (firmL_ok rfl) (lb rfl)) <| nL ?_
     refine tQ <| Tr.freezeBox (t := 10) (k := 110) rfl rfl rfl ?_
     refine Tr.heap (σ' := look (up (ckS u f 3 s))) (fun k => by
       simp only [look]
       by_cases h : 110 = k
       · subst h; rfl
       · simp [beq_ne h]) ?_
     refine tG <| sm 3 rfl ?_
     refine wS 22 rfl (fun hb22 => ?_) fun hb22 => ?_
     ·refine sm 17 rfl <| nL <| Tr.condT rfl <| tQ <| tG <| sm 1 rfl <| nL <| Tr.ret ?_
      (have h2 : shList u f deep wh st l = (false, s) := by
         unfold shList
         rw [hI1, hd2]
         unfold shGo
         rw [if_pos (by simpa using hb22)]
         simp [andQ]
       rw [h2]
       exact ret_ok rfl rfl (po2 rfl rfl))
     refine sm 1 rfl <| yV rfl rfl (ok_load_ept_agg rfl rfl Tryz.underlying38 rfl tS38 (lb rfl)) <| yV rfl rfl (ok_load_ept_agg rfl rfl Tryz.underlying96 rfl tS96 (lb rfl)) <| sm 1 rfl <| WL.yes rfl rfl rfl rfl rfl rfl (ok_callr (sc_shNode u f hg x deep ⟨hd.1, by simp at hb22; omega⟩ wh s hI2 hxo hxp (fun q hq w st hst => ih u f hg q (deep + 1) ⟨by omega, by simp at hb22; omega⟩ w st hst (by have := kdW_mem hq; omega) (Nat.lt_of_lt_of_le (kid_lt hm rfl hq) (Nat.le_of_lt_succ hN)))) ent79 rfl rfl (Subs.refl _ _) (po2 rfl rfl) (by rfl) (fun k (h : _) => .inr h) rfl (by rfl)) <| sm 3 rfl ?_
     refine wS 30 rfl (fun hb30 => ?_) fun hb30 => ?_
     ·refine sm 9 rfl <| nL <| Tr.condT rfl <| tQ <| tG <| sm 1 rfl <| nL <| Tr.ret ?_
      (have h2 : shList u f deep wh st l = (false, (shNode u f deep wh s x).2) := by
         unfold shList
         rw [hI1, hd2]
         unfold shGo
         rw [if_neg (by simpa using hb22)]
         have hn1 : (shNode u f deep wh s x).1 = false := by simpa using hb30
         simp [andQ, hn1]
       rw [h2]
       exact ret_ok rfl rfl (po2 rfl rfl))
     refine yV rfl rfl (ok_load_ept_agg rfl rfl Tryz.underlying38 rfl tS38 (lb rfl)) <| WL.yes rfl rfl rfl rfl rfl rfl (ok_callq (sc_shClosed x) ent80 rfl rfl (Subs.refl _ _) rfl) <| sm 2 rfl <| yV rfl rfl (oSm Tryz.underlying39 rfl) <| yV rfl rfl (oB rfl rfl (i64_sub rfl (by omega))) <| sm 1 rfl <| yV rfl rfl (ok_neq_bool rfl rfl rfl Tryz.underlying4) <| sm 1 rfl <| nL ?_
     refine tC rfl (fun hc39 => ?_) fun hc39 => ?_
     ·refine tQ <| tG <| sm 1 rfl <| nL <| Tr.ret ?_
      (have h2 : shList u f deep wh st l = (false, (shNode u f deep wh s x).2) := by
         unfold shList
         rw [hI1, hd2]
         unfold shGo
         rw [if_neg (by simpa using hb22)]
         have hn1 : (shNode u f deep wh s x).1 = true := by simpa using hb30
         have hcl : (r8Closed x != (l.drop (k + 1)).isEmpty) = true := by rw [drop_isEmpty hlt]; simpa using hc39
         simp [andQ, hn1, hcl]
       rw [h2]
       exact ret_ok rfl rfl (po2 rfl rfl))
     refine Tr.skip <| tG <| cV rfl (oB rfl rfl (i64_add rfl (by omega))) <| sm 1 rfl <| nL ?_
     refine ⟨_, _, ?_, Sub.of (fr' := [(15, iInt (k + 1)), (14, iInt l.length), (13, .pv (nodes l)), (6, .pv (.ept [vBool wh.If, vBool wh.Loop, ints wh.Yield, ints wh.Next, ints wh.Left] 0)), (0, .ptr 3 0), (1, .pv (nodes l)), (3, iInt deep)]) ⟨rfl, rfl, rfl, rfl, rfl, rfl, rfl, trivial⟩, (k + 1), (shNode u f deep wh s x).2, ?_, ?_, ?_, rfl, (look_app_same rfl), rfl⟩
     ·omega
     ·omega
     ·rw [hI1, hd2]
      have hn1 : (shNode u f deep wh s x).1 = true := by simpa using hb30
      have hcl : (r8Closed x != (l.drop (k + 1)).isEmpty) = false := by rw [drop_isEmpty hlt]; simpa using hc39
      have hdp : ¬ deep > 100 := by simpa using hb22
      conv => lhs; unfold shGo
      simp only [if_neg hdp, andQ, hn1, hcl, if_true]
      rfl
     exact (shNode_length ..).trans hI2
    refine Tr.exit <| tQ <| tQ ?_
    have hgo2 : shGo u f deep wh st l = (true, s) := by rw [hI1, List.drop_eq_nil_of_le (by simpa using hc16)]; simp [shGo]
    have hgo : (shGo u f deep wh st l).1 = true := by rw [hgo2]
    have hs0 := hI2
    generalize s = s0 at hgo2 hs0 ⊢
    refine tG <| sm 1 rfl <| cV rfl (oSm Tryz.underlying39 rfl) <| sm 1 rfl <| nL <| Tr.block <| Tr.sub (Sub.of (fr' := [(43, iInt 0), (42, iInt l.length), (41, .pv (nodes l)), (0, .ptr 3 0), (1, .pv (nodes l))]) ⟨rfl, rfl, rfl, rfl, rfl, trivial⟩) ?_
    refine Tr.loop (fun fr σ m => ∃ (k : Nat) (s : List Int), (k ≤ l.length) ∧ (shHideAll s0 l = shHideAll s (l.drop k)) ∧ (s.length = f.types.length) ∧ fr = [(43, iInt k), (42, iInt l.length), (41, .pv (nodes l)), (0, .ptr 3 0), (1, .pv (nodes l))] ∧ σ = look (up (ckS u f 3 s)) ∧ m = l.length - k) (n := l.length - 0) ?_ ?_
    ·exact ⟨0, s0, Nat.zero_le _, rfl, hs0, rfl, rfl, rfl⟩
    rintro fr σ m ⟨k, s, hJ0, hJ1, hJ2, rfl, rfl, rfl⟩
    refine tQ <| tG <| sm 1 rfl <| nL <| tQ ?_
    refine tC rfl (fun hc44 => ?_) fun hc44 => ?_
    ·have hlt : k < l.length := by simpa using hc44
     have hd2 := List.drop_eq_getElem_cons hlt
     have hm := List.getElem_mem hlt
     have hi := nodes_get (List.getElem?_eq_getElem hlt)
     generalize l[k] = x at hd2 hm hi
     refine Tr.skip <| tQ <| Tr.block <| tQ <| tG <| cV rfl (ok_index_seq rfl rfl rfl Tryz.underlying39 hi tS38 rfl (by rfl)) <| cV rfl (ok_load_ept_agg rfl rfl Tryz.underlying38 rfl tS38 (lb rfl)) <| cE rfl (ok_alloc (k := 112) rfl tZ38 rfl rfl rfl rfl) <| c0 (ok_store_box_agg rfl rfl rfl rfl rfl (by simp) tS38 (firmL_ok rfl) (lb rfl)) <| nL <| Tr.freezeBox (t := 12) (k := 112) rfl rfl rfl ?_
     refine Tr.heap (σ' := look (up (ckS u f 3 s))) (fun k => by
       simp only [look]
       by_cases h : 112 = k
       · subst h; rfl
       · simp [beq_ne h]) ?_
     refine tG <| sm 3 rfl <| cE rfl (ocr (sc_shHide u f s hJ2 x.outs (shGo_outs hgo x hm)) ent81 rfl (po2 rfl rfl) rfl (fun k (h : _) => .inr h) rfl rfl) <| nL <| tG <| cV rfl (oB rfl rfl (i64_add rfl (by omega))) <| sm 1 rfl <| nL ?_
     refine ⟨_, _, ?_, Sub.of (fr' := [(43, iInt (k + 1)), (42, iInt l.length), (41, .pv (nodes l)), (0, .ptr 3 0), (1, .pv (nodes l))]) ⟨rfl, rfl, rfl, rfl, rfl, trivial⟩, (k + 1), (shHide s x.outs), ?_, ?_, ?_, rfl, (look_app_same rfl), rfl⟩
     ·omega
     ·omega
     ·rw [hJ1, hd2]; rfl
     exact (shHide_length ..).trans hJ2
    refine Tr.exit <| tQ <| tG <| sm 1 rfl <| cV rfl (oSm Tryz.underlying39 rfl) <| sm 2 rfl <| nL <| Tr.ret ?_
    have hge : l.length ≤ k := by simpa using hc44
    have h2 : shList u f deep wh st l = (decide ((l.length : Int) > 0), s) := by
      unfold shList
      rw [hgo2]
      simp only [andQ, if_true, shFin, hJ1, List.drop_eq_nil_of_le hge]
      rfl
    rw [h2]
    exact ret_ok rfl rfl (po2 rfl rfl)
theorem sc_shList (u : Un) (f : Fl) (hg : ∀ g ∈ u.flows, 0 ≤ g.params ∧ g.params ≤ g.types.length) (l : List Nd) (deep : Int) (hd : 0 ≤ deep ∧ deep ≤ 101) (wh : Wh) (st : List Int) (hs : st.length = f.types.length) (hb : lsW l ≤ 1073741824) : SC Tryz.prog 51 [.ptr 3 0, .pv (nodes l), .pv (whv wh), iInt deep] (ckS u f 3 st) (fun k => k = 3) (iBool (shList u f deep wh st l).1) (ckS u f 3 (shList u f deep wh st l).2) := sc_shList_aux _ u f hg l deep hd wh st hs hb (Nat.lt_succ_self _)
theorem sc_shFlow (u : Un) (f : Fl) (hg : ∀ g ∈ u.flows, 0 ≤ g.params ∧ g.params ≤ g.types.length) (hp : 0 ≤ f.params ∧ f.params ≤ f.types.length) (hb : lsW f.body ≤ 536870912) : SC Tryz.prog 28 [.pv u.enc, .pv (.agg f.enc)] [] (fun _ => False) (iBool (shFlow u f)) [] := by
  refine SC.of Tryz.func28 rfl (lb rfl) fun F ρ w => ?_
  refine tQ <| tG <| cE rfl (ok_box rfl rfl) <| cE rfl (ok_box rfl rfl) <| sm 1 rfl <| nL <| tQ <| tQ <| tG <| sm 4 rfl ?_
  refine wS 10 rfl (fun hb10 => ?_) fun hb10 => ?_
  ·refine sm 10 rfl <| nL <| Tr.condT rfl <| tQ <| tG <| sm 1 rfl <| nL <| Tr.ret <| ret_ok rfl ?_ no_post
   have hno : (decide (f.params > 8) || decide ((f.types.length : Int) > 20000) || f.types.any (fun t => !isTy t)) = true := by
     simp_all
   simp only [shFlow, hno, Bool.not_true, Bool.false_and]
  refine sm 2 rfl <| yV rfl rfl (oSm Tryz.underlying35 rfl) <| sm 3 rfl ?_
  refine wS 16 rfl (fun hb16 => ?_) fun hb16 => ?_
  ·refine sm 4 rfl <| nL <| Tr.condT rfl <| tQ <| tG <| sm 1 rfl <| nL <| Tr.ret <| ret_ok rfl ?_ no_post
   have hno : (decide (f.params > 8) || decide ((f.types.length : Int) > 20000) || f.types.any (fun t => !isTy t)) = true := by
     simp_all
   simp only [shFlow, hno, Bool.not_true, Bool.false_and]
  refine sm 2 rfl <| WL.yes rfl rfl rfl rfl rfl rfl (ok_callq (sc_has_int 50 [] [] rfl ent50 (fun t => !isTy t) f.types (fun x hm => (sc_flow1 x).anyR)) ent49 rfl rfl (Subs.same rfl (Subs.cons (fun _ _ _ _ h => sub_func h) Subs.nil)) rfl) <| sm 1 rfl <| nL ?_
  refine tC rfl (fun hc20 => ?_) fun hc20 => ?_
  ·refine tQ <| tG <| sm 1 rfl <| nL <| Tr.ret <| ret_ok rfl ?_ no_post
   have hno : (decide (f.params > 8) || decide ((f.types.length : Int) > 20000) || f.types.any (fun t => !isTy t)) = true := by
     simp_all
   simp only [shFlow, hno, Bool.not_true, Bool.false_and]
  ·have hpar : f.params ≤ 8 ∧ f.types.length ≤ 20000 := by
     (simp_all <;> omega)
   have hpt : f.params.toNat ≤ f.types.length := by omega
   have hpi : f.params = (f.params.toNat : Int) := by omega
   have hno : (decide (f.params > 8) || decide ((f.types.length : Int) > 20000) || f.types.any (fun t => !isTy t)) = false := by
     clear hpi
     simp_all
   refine Tr.skip <| tQ <| Tr.drawn mixed (fun k => k < 3) <| wR 4 [0, 1, 2, 3, 4] (by kernel_rfl) (fun _ _ _ h => h) <| rV rfl rfl (ok_load_ept_agg rfl rfl Tryz.underlying25 rfl tS25 (lb rfl)) <| rV rfl rfl (ok_load_ept_agg rfl rfl Tryz.underlying41 rfl tS41 (lb rfl)) <| smR 2 rfl <| rV rfl rfl (oSm Tryz.underlying35 rfl) <| nR <| wO 5 (by kernel_rfl) <| wI rfl rfl nf (new_one rfl) (fun _ _ => ok_makeSlice (k := 4) (s := ⟨3, 1⟩) rfl rfl rfl Tryz.underlying35 tZ3 tC3 rfl (by decide) (by omega) (by omega) rfl rfl rfl rfl) <| wR 2 [6] (by kernel_rfl) (fun _ _ _ h => h) ?_
   refine rV rfl rfl (by exact ok_build rfl rfl tZ93 tP93 rfl (firmHp_ok (by (simp [firmHp, firm1, look, PV.one]; exact ⟨_, _, ⟨rfl, rfl⟩, by simp⟩)))) <| nR <| wO 7 (by kernel_rfl) <| wI rfl rfl nf (new_one rfl) (fun _ _ => ok_boxOwn (k := 3) rfl rfl rfl rfl rfl rfl rfl) <| wR 0 [8] (by kernel_rfl) (fun _ _ _ h => h) <| smR 1 rfl <| nR <| WA.done (by kernel_rfl) <| tQ <| tQ <| tG <| sm 3 rfl ?_
   refine nL <| Tr.block <| Tr.sub (Sub.of (fr' := [(31, iInt 0), (30, iInt f.params), (5, .ptr 3 0), (2, .pv (.ept [arrs u.arrays, flws u.flows] 0)), (3, .pv (.ept [vStr f.name, vInt f.ty, vInt f.params, ints f.types, nodes f.body] 0))]) ⟨rfl, rfl, rfl, rfl, rfl, trivial⟩) ?_
   refine Tr.heap (σ' := look (up (ckS u f 3 (seens 0 f.types.length)))) (fun k => by
  rw [show (seens 0 f.types.length) = List.replicate f.types.length 0 by simp [seens]]
  simp only [ckS, up, List.map_cons, List.map_nil, look, List.length_map, List.length_replicate, List.map_replicate]
  by_cases h3 : 3 = k
  · subst h3; rfl
  · by_cases h4 : 4 = k
    · subst h4; rfl
    · simp [beq_ne h3, beq_ne h4]) ?_
   refine Tr.loop (fun fr σ m => ∃ (k : Nat), (k ≤ f.params.toNat) ∧ fr = [(31, iInt k), (30, iInt f.params), (5, .ptr 3 0), (2, .pv (.ept [arrs u.arrays, flws u.flows] 0)), (3, .pv (.ept [vStr f.name, vInt f.ty, vInt f.params, ints f.types, nodes f.body] 0))] ∧ σ = look (up (ckS u f 3 (seens k f.types.length))) ∧ m = f.params.toNat - k) (n := f.params.toNat - 0) ?_ ?_
   ·exact ⟨0, Nat.zero_le _, rfl, rfl, rfl⟩
   rintro fr σ m ⟨k, hI0, rfl, rfl, rfl⟩
   refine tQ <| tG <| sm 1 rfl <| nL <| tQ ?_
   refine tC rfl (fun hc32 => ?_) fun hc32 => ?_
   ·have hkp : k < f.params.toNat := by simp at hc32; omega
    have hkt : k < f.types.length := by omega
    have hst : ((seens k f.types.length).map eInt)[k]? = some [vInt 0] := by
      rw [List.getElem?_map]
      simp only [seens]
      rw [List.getElem?_append_right (by simp)]
      simp [List.getElem?_replicate, eInt]
      omega
    have hstl : k < ((seens k f.types.length).map eInt).length := by rw [List.length_map, seens_length (by omega)]; exact hkt
    refine Tr.skip <| tQ <| Tr.block <| tQ <| tG <| sm 2 rfl <| nL <| tG <| sm 1 rfl <| cV rfl (ok_nilCheck rfl rfl rfl) <| sm 3 rfl <| cV rfl (ok_index_row rfl rfl rfl rfl rfl Tryz.underlying35 tS3 (by assumption) (by rfl)) ?_
    refine c0 (ok_store_row rfl rfl rfl rfl rfl (Nat.add_zero _).symm (by assumption) (by simp) tS3 rfl ((fun h => h))) <| nL <| tG <| cV rfl (oB rfl rfl (i64_add rfl (by omega))) <| sm 1 rfl <| nL ?_
    refine ⟨_, _, ?_, Sub.of (fr' := [(31, iInt (k + 1)), (30, iInt f.params), (5, .ptr 3 0), (2, .pv (.ept [arrs u.arrays, flws u.flows] 0)), (3, .pv (.ept [vStr f.name, vInt f.ty, vInt f.params, ints f.types, nodes f.body] 0))]) ⟨rfl, rfl, rfl, rfl, rfl, trivial⟩, (k + 1), ?_, rfl, (by rw [← seens_set hkt]; exact funext ckS_set), rfl⟩
    all_goals omega
   refine Tr.exit <| tQ ?_
   have hkp : k = f.params.toNat := by simp at hc32; omega
   subst hkp
   refine tG <| sm 3 rfl <| cV rfl (ok_build_pure rfl rfl tZ96 tP96 rfl (firmB_ok rfl) rfl) <| cE rfl (ok_callr (sc_shList u f hg f.body 1 ⟨by omega, by omega⟩ r8where0 (seens f.params.toNat f.types.length) (seens_length hpt) (by omega)) ent51 rfl rfl (Subs.same rfl (Subs.same rfl (Subs.cons (fun _ _ _ _ h => sub_pv (q := whv r8where0) (PSub.agg (ps := [vBool false, vBool false, .val (.slice none 0 0), .val (.slice none 0 0), .val (.slice none 0 0)]) (And.intro (PSub.refl _) (And.intro (PSub.refl _) (And.intro PSub.nil (And.intro PSub.nil (And.intro PSub.nil trivial)))))) h) (Subs.same rfl Subs.nil)))) (po2 rfl rfl) (by rfl) (fun k (h : _) => (show False from h).elim) rfl (by rfl)) <| sm 1 rfl <| nL <| Tr.ret <| ret_ok rfl ?_ no_post
   simp only [shFlow, hno, Bool.not_false, Bool.true_and]
set_option maxRecDepth 20000
set_option maxHeartbeats 2000000
theorem sc_tkLetter (n : Int) : SC Tryz.prog 73 [.pv (.val (.int .i32 n))] [] (fun _ => False) (iBool (isLetter n)) [] := by
  refine SC.anyR (SC.vc tb {} [] Tryz.func73 rfl rfl ?_)
  unfold isLetter
  refine bcase (fun h1 => bcase (fun h2 => ⟨sE (by rw [h1, h2]; rfl), trivial⟩) fun h2 => ?_) fun h1 => ?_
  · refine bcase (fun h3 => bcase (fun h4 => ⟨sE (by rw [h1, h2, h3, h4]; rfl), trivial⟩) fun h4 => ⟨sE (by rw [h1, h2, h3, h4]; rfl), trivial⟩) fun h3 => ⟨sE (by rw [h1, h2, h3]; rfl), trivial⟩
  · refine bcase (fun h3 => bcase (fun h4 => ⟨sE (by rw [h1, h3, h4]; rfl), trivial⟩) fun h4 => ⟨sE (by rw [h1, h3, h4]; rfl), trivial⟩) fun h3 => ⟨sE (by rw [h1, h3]; rfl), trivial⟩
theorem sc_tkDigit (n : Int) : SC Tryz.prog 104 [.pv (.val (.int .i32 n))] [] (fun _ => False) (iBool (isDigit n)) [] := by
  refine SC.anyR (SC.vc tb {} [] Tryz.func104 rfl rfl ?_)
  unfold isDigit
  exact bcase (fun h1 => ⟨sE (by rw [h1]; rfl), trivial⟩) fun h1 => ⟨sE (by rw [h1]; rfl), trivial⟩
theorem sc_tkWord (s : ByteArray) : SC Tryz.prog 75 [iStr s] [] (fun _ => False) (iBool (isWord s)) [] := by
  refine SC.anyR (SC.vc tb {} [] Tryz.func75 rfl rfl ?_)
  have N : ∀ {b : Bool} {P : Prop}, b = true → b = false → P := fun h g => by rw [h] at g; cases g
  have T : ∀ {b : Bool}, b = true → SubI (iBool true) (iBool b) := fun h => sE (by rw [h])
  exact bcase (fun h => bcase (fun _ => ⟨T (by unfold isWord; rw [h]; simp only [Bool.or_true, Bool.true_or]), trivial⟩) fun g => N h g) fun h1 => bcase (fun h => bcase (fun _ => ⟨T (by unfold isWord; rw [h]; simp only [Bool.or_true, Bool.true_or]), trivial⟩) fun g => N h g) fun h2 => bcase (fun h => bcase (fun _ => ⟨T (by unfold isWord; rw [h]; simp only [Bool.or_true, Bool.true_or]), trivial⟩) fun g => N h g) fun h3 => bcase (fun h => bcase (fun _ => ⟨T (by unfold isWord; rw [h]; simp only [Bool.or_true, Bool.true_or]), trivial⟩) fun g => N h g) fun h4 => bcase (fun h => bcase (fun _ => ⟨T (by unfold isWord; rw [h]; simp only [Bool.or_true, Bool.true_or]), trivial⟩) fun g => N h g) fun h5 => bcase (fun h => bcase (fun _ => ⟨T (by unfold isWord; rw [h]; simp only [Bool.or_true, Bool.true_or]), trivial⟩) fun g => N h g) fun h6 => bcase (fun h => bcase (fun _ => ⟨T (by unfold isWord; rw [h]; simp only [Bool.or_true, Bool.true_or]), trivial⟩) fun g => N h g) fun h7 => bcase (fun h => bcase (fun _ => ⟨T (by unfold isWord; rw [h]; simp only [Bool.or_true, Bool.true_or]), trivial⟩) fun g => N h g) fun h8 => bcase (fun h => bcase (fun _ => ⟨T (by unfold isWord; rw [h]; simp only [Bool.or_true, Bool.true_or]), trivial⟩) fun g => N h g) fun h9 => bcase (fun h => bcase (fun _ => ⟨T (by unfold isWord; rw [h]; simp only [Bool.or_true, Bool.true_or]), trivial⟩) fun g => N h g) fun h10 => bcase (fun h => bcase (fun _ => ⟨T (by unfold isWord; rw [h]; simp only [Bool.or_true, Bool.true_or]), trivial⟩) fun g => N h g) fun h11 => bcase (fun h => bcase (fun _ => ⟨T (by unfold isWord; rw [h]; simp only [Bool.or_true, Bool.true_or]), trivial⟩) fun g => N h g) fun h12 => bcase (fun h => bcase (fun _ => ⟨T (by unfold isWord; rw [h]; simp only [Bool.or_true, Bool.true_or]), trivial⟩) fun g => N h g) fun h13 => bcase (fun h => bcase (fun _ => ⟨T (by unfold isWord; rw [h]; simp only [Bool.or_true, Bool.true_or]), trivial⟩) fun g => N h g) fun h14 => bcase (fun h => bcase (fun _ => ⟨T (by unfold isWord; rw [h]; simp only [Bool.or_true, Bool.true_or]), trivial⟩) fun g => N h g) fun h15 => bcase (fun h => bcase (fun _ => ⟨T (by unfold isWord; rw [h]; simp only [Bool.or_true, Bool.true_or]), trivial⟩) fun g => N h g) fun h16 => bcase (fun h => bcase (fun _ => ⟨T (by unfold isWord; rw [h]; simp only [Bool.or_true, Bool.true_or]), trivial⟩) fun g => N h g) fun h17 => bcase (fun h => ⟨T (by unfold isWord; rw [h]; simp only [Bool.or_true, Bool.true_or]), trivial⟩) fun h18 => ⟨sE (by unfold isWord; rw [h1, h2, h3, h4, h5, h6, h7, h8, h9, h10, h11, h12, h13, h14, h15, h16, h17, h18]; rfl), trivial⟩
theorem sc_tkRun (s : ByteArray) : SC Tryz.prog 74 [iStr s] [] (fun _ => False) (iStr (runOf s)) [] := by
  refine SC.of Tryz.func74 rfl (lb rfl) fun F ρ w => ?_
  refine tQ <| tG <| sm 1 rfl <| nL <| tQ ?_
  refine Tr.strRange rfl rfl rfl rfl rfl rfl rfl rfl Tryz.underlying9 rfl rfl rfl rfl rfl rfl rfl rfl rfl rfl rfl (fun _ h => h) (fun k fr => (k ≤ s.toList.length ∧ (s.toList.take k).all isLD = true) ∧ fr = [(0, iStr s)]) ⟨[(0, iStr s)], Sub.of ⟨rfl, trivial⟩, ⟨Nat.zero_le _, rfl⟩, rfl⟩ ?_ ?_
  ·rintro b0 k _ hk ⟨hI, rfl⟩
   refine tQ <| tG <| sm 2 rfl <| nL <| Tr.ret <| ret_ok rfl ?_ no_post
   have hall : s.toList.all isLD = true := by
     have := hI.2
     rwa [List.take_of_length_le (by rw [ba_len]; exact hk)] at this
   simp [runOf, hall]
  rintro ρ2 w2 b0 k _ hk ⟨hI, rfl⟩
  have hlt : k < s.toList.length := by rw [ba_len]; exact hk
  refine Tr.block <| tQ <| tG <| cV rfl (ok_extract rfl rfl rfl) <| cV rfl (ok_extract rfl rfl rfl) <| sm 2 rfl <| nL <| tQ <| tG <| sm 1 rfl <| cE rfl (ocq (sc_tkLetter _) ent73 rfl rfl) <| sm 2 rfl ?_
  refine wS 14 rfl (fun hb14 => ?_) fun hb14 => ?_
  ·refine sm 1 rfl <| WL.yes rfl rfl rfl rfl rfl rfl (ok_callq (sc_tkDigit _) ent104 rfl rfl (Subs.refl _ _) rfl) <| sm 2 rfl <| nL ?_
   refine tC rfl (fun hc18 => ?_) fun hc18 => ?_
   ·refine tQ <| tG <| sm 2 rfl <| cV rfl (ok_slice_str rfl rfl Tryz.underlying9 (.inl ⟨rfl, rfl⟩) (.inr ⟨_, _, rfl, rfl⟩) (by omega) (Nat.le_of_lt (by assumption))) <| sm 1 rfl <| nL <| Tr.ret <| ret_ok rfl ?_ no_post
    have hld : isLDr (Utf8.decode s k).1 = false := by
      simp only [isLDr]
      simp_all
    rw [runOf_at hI.2 (List.getElem?_eq_getElem hlt) ((decode_ld hlt).2 hld)]
   refine Tr.skip ?_
   refine ⟨rfl, [(0, iStr s)], Sub.of ⟨rfl, rfl, trivial⟩, ?_, rfl⟩
   have hld : isLDr (Utf8.decode s k).1 = true := by
     simp only [isLDr]
     simp_all
   obtain ⟨hw1, hb1⟩ := (decode_ld hlt).1 hld
   rw [hw1]
   exact ⟨by omega, by rw [List.take_succ_eq_append_getElem hlt, List.all_append, hI.2]; simp [hb1]⟩
  refine sm 4 rfl <| nL <| Tr.condF rfl <| Tr.skip ?_
  refine ⟨rfl, [(0, iStr s)], Sub.of ⟨rfl, rfl, trivial⟩, ?_, rfl⟩
  have hld : isLDr (Utf8.decode s k).1 = true := by
    simp only [isLDr]
    simp_all
  obtain ⟨hw1, hb1⟩ := (decode_ld hlt).1 hld
  rw [hw1]
  exact ⟨by omega, by rw [List.take_succ_eq_append_getElem hlt, List.all_append, hI.2]; simp [hb1]⟩
theorem sc_tkName (s : ByteArray) : SC Tryz.prog 46 [iStr s] [] (fun _ => False) (iBool (isName s)) [] := by
  refine SC.of Tryz.func46 rfl (lb rfl) fun F ρ w => ?_
  refine tQ <| tG <| sm 1 rfl <| nL <| tQ <| tG <| sm 1 rfl <| cV rfl (ok_bin_str rfl rfl rfl rfl) <| sm 1 rfl ?_
  refine wS 5 rfl (fun hb5 => ?_) fun hb5 => ?_
  ·have hne : s.toList ≠ [] := by simpa using hb5
   obtain ⟨b0, r0, hs0⟩ := List.exists_cons_of_ne_nil hne
   have hi0 : s[0]? = some b0 := by rw [ba_get (i := 0) (by rw [hs0]; simp)]; simp [hs0]
   have hw0 : IntKind.i32.wrap (b0.toNat : Int) = b0.toNat := by
     have : b0.toNat < 256 := b0.toNat_lt
     simp [IntKind.wrap, IntKind.bits, IntKind.signed]
     omega
   have hre := runOf_eq s
   refine sm 1 rfl <| yV rfl rfl (ok_index_str rfl rfl rfl Tryz.underlying9 (by assumption) (by rfl)) <| yV rfl rfl (ok_conv_int rfl rfl ⟨_, Tryz.underlying5⟩ Tryz.underlying21) <| WL.yes rfl rfl rfl rfl rfl rfl (ok_callq (sc_tkLetter _) ent73 rfl rfl (Subs.refl _ _) rfl) <| sm 2 rfl ?_
   refine wS 11 rfl (fun hb11 => ?_) fun hb11 => ?_
   ·refine sm 1 rfl <| WL.yes rfl rfl rfl rfl rfl rfl (ok_callq (sc_tkRun s) ent74 rfl rfl (Subs.refl _ _) rfl) <| sm 1 rfl <| yV rfl rfl (ok_bin_str rfl rfl rfl rfl) <| sm 2 rfl ?_
    refine wS 17 rfl (fun hb17 => ?_) fun hb17 => ?_
    ·refine sm 1 rfl <| yV rfl rfl (ok_len_str rfl rfl Tryz.underlying9) <| sm 3 rfl ?_
     refine wS 22 rfl (fun hb22 => ?_) fun hb22 => ?_
     ·refine sm 1 rfl <| WL.yes rfl rfl rfl rfl rfl rfl (ok_callq (sc_tkWord s) ent75 rfl rfl (Subs.refl _ _) rfl) <| sm 3 rfl <| nL <| Tr.ret <| ret_ok rfl ?_ no_post
      refine congrArg (fun b => iBool b) ?_
      simp_all [isName]
     refine sm 5 rfl <| nL <| Tr.ret <| ret_ok rfl ?_ no_post
     refine congrArg (fun b => iBool b) ?_
     (simp_all [isName] <;> omega)
    refine sm 10 rfl <| nL <| Tr.ret <| ret_ok rfl ?_ no_post
    refine congrArg (fun b => iBool b) ?_
    simp_all [isName]
   refine sm 16 rfl <| nL <| Tr.ret <| ret_ok rfl ?_ no_post
   refine congrArg (fun b => iBool b) ?_
   simp_all [isName]
  refine sm 22 rfl <| nL <| Tr.ret <| ret_ok rfl ?_ no_post
  refine congrArg (fun b => iBool b) ?_
  simp_all [isName]
set_option maxRecDepth 20000
set_option maxHeartbeats 2000000
theorem sc_shHead (u : Un) (hW : r8Weight u ≤ 536870912) : SC Tryz.prog 27 [.pv u.enc] [] (fun _ => False) (iBool (shHead u)) [] := by
  refine SC.anyR (SC.vc tb {} [] Tryz.func27 rfl rfl ?_)
  have hw1 : u.arrays.length ≤ r8Weight u := by unfold r8Weight; omega
  have hw2 : u.flows.length ≤ r8Weight u := by unfold r8Weight; omega
  refine ⟨Nat × List (Value × PV), fun (k, _) => [(13, iInt k)], fun (_, es) => [(109, .map es)], fun (k, _) => u.arrays.length - k, fun (k, es) => k ≤ u.arrays.length ∧ u.arrays.all shArr = (u.arrays.drop k).all shArr ∧ countA [] u.arrays = countA es (u.arrays.drop k) ∧ Cnt es, [], (0, []), ⟨Nat.zero_le _, rfl, rfl, Cnt.nil⟩, ⟨rfl, trivial⟩, ⟨rfl, trivial⟩, ?_⟩
  rintro ⟨k, es⟩ ⟨hk, hA, hC, hes⟩
  refine bcase (fun hc => ?_) fun hc => ?_
  · have hlt := lt_of (f := Ar.enc) rfl hc
    obtain ⟨a, ha, _, hd, _⟩ := at_lt hlt
    rw [hd] at hA hC
    rw [List.all_cons] at hA
    obtain ⟨n, hn⟩ := hes.find (.string a.name)
    have bad : shArr a = false → SubI (iBool false) (iBool (shHead u)) := fun h => sE (by unfold shHead; rw [hA, h]; rfl)
    have hNm := sc_tkName a.name
    cases hN : isName a.name with
    | false =>
      rw [hN] at hNm
      exact ⟨map_get (f := Ar.enc) ha, rfl, VAsk.mk (p := vInt n) (b := (mfind (.string a.name) es).isSome) rfl hes.1 (Prod.ext hn rfl) ⟨rfl, rfl, hes.1, [], hNm, sR, trivial, rfl, bad (by unfold shArr; rw [hN]; rfl), trivial⟩⟩
    | true =>
      rw [hN] at hNm
      refine ⟨map_get (f := Ar.enc) ha, rfl, VAsk.mk (p := vInt n) (b := (mfind (.string a.name) es).isSome) rfl hes.1 (Prod.ext hn rfl) ⟨rfl, rfl, hes.1, [], hNm, sR, trivial, rfl, bcase (fun h1 => ⟨bad (by unfold shArr; rw [hN, show decide (a.size < 1) = true from h1]; rfl), trivial⟩) fun h1 => bcase (fun h2 => ⟨bad (by unfold shArr; rw [hN, show decide (a.size < 1) = false from h1, show decide (a.size > 1000) = true from h2]; rfl), trivial⟩) fun h2 => ?_⟩⟩
      have good : shArr a = true := by unfold shArr; rw [hN, show decide (a.size < 1) = false from h1, show decide (a.size > 1000) = false from h2]; rfl
      exact ⟨i64_add rfl (by omega), (k + 1, bump a.name es), step_lt hlt, ⟨hlt, by rw [hA, good]; rfl, hC, hes.bump _⟩, ⟨rfl, trivial⟩, ⟨mpq (bump_eq hn).symm, trivial⟩, rfl, rfl, rfl, rfl⟩
  · have hge := ge_of (f := Ar.enc) rfl hc
    rw [List.drop_eq_nil_of_le hge] at hA hC
    refine ⟨Nat × List (Value × PV), fun (k, _) => [(40, iInt k)], fun (_, es) => [(109, .map es)], fun (k, _) => u.flows.length - k, fun (k, es) => k ≤ u.flows.length ∧ u.flows.all shFlw = (u.flows.drop k).all shFlw ∧ countF (countA [] u.arrays) u.flows = countF es (u.flows.drop k) ∧ Cnt es, [], (0, es), ⟨Nat.zero_le _, rfl, by rw [hC]; rfl, hes⟩, ⟨rfl, trivial⟩, ⟨rfl, trivial⟩, ?_⟩
    rintro ⟨k, es⟩ ⟨hk, hF, hC, hes⟩
    refine bcase (fun hc => ?_) fun hc => ?_
    · have hlt := lt_of (f := Fl.enc) rfl hc
      obtain ⟨f, hf, _, hd, hm⟩ := at_lt hlt
      rw [hd] at hF hC
      rw [List.all_cons] at hF
      obtain ⟨n, hn⟩ := hes.find (.string f.name)
      have bad : shFlw f = false → SubI (iBool false) (iBool (shHead u)) := fun h => sE (by unfold shHead; rw [hA, hF, h]; rfl)
      have hNm := sc_tkName f.name
      cases hN : isName f.name with
      | false =>
        rw [hN] at hNm
        exact ⟨map_get (f := Fl.enc) hf, rfl, VAsk.mk (p := vInt n) (b := (mfind (.string f.name) es).isSome) rfl hes.1 (Prod.ext hn rfl) ⟨rfl, rfl, hes.1, [], hNm, sR, trivial, rfl, bad (by unfold shFlw; rw [hN]; rfl), trivial⟩⟩
      | true =>
        rw [hN] at hNm
        have hT := sc_isTy f.ty
        cases hty : isTy f.ty with
        | false =>
          rw [hty] at hT
          exact ⟨map_get (f := Fl.enc) hf, rfl, VAsk.mk (p := vInt n) (b := (mfind (.string f.name) es).isSome) rfl hes.1 (Prod.ext hn rfl) ⟨rfl, rfl, hes.1, [], hNm, sR, trivial, rfl, [], hT, sR, trivial, rfl, bad (by unfold shFlw; rw [hN, hty]; rfl), trivial⟩⟩
        | true =>
          rw [hty] at hT
          refine ⟨map_get (f := Fl.enc) hf, rfl, VAsk.mk (p := vInt n) (b := (mfind (.string f.name) es).isSome) rfl hes.1 (Prod.ext hn rfl) ⟨rfl, rfl, hes.1, [], hNm, sR, trivial, rfl, [], hT, sR, trivial, rfl, bcase (fun h1 => ⟨bad (by unfold shFlw; rw [hN, hty, show decide (f.params < 0) = true from h1]; rfl), trivial⟩) fun h1 => bcase (fun h2 => ⟨bad (by unfold shFlw; rw [hN, hty, show decide (f.params < 0) = false from h1, show decide (f.params > f.types.length) = true by simpa using h2]; rfl), trivial⟩) fun h2 => ?_⟩⟩
          have good : shFlw f = true := by unfold shFlw; rw [hN, hty, show decide (f.params < 0) = false from h1, show decide (f.params > f.types.length) = false by simpa using h2]; rfl
          exact ⟨i64_add rfl (by omega), (k + 1, bump f.name es), step_lt hlt, ⟨hlt, by rw [hF, good]; rfl, hC, hes.bump _⟩, ⟨rfl, trivial⟩, ⟨mpq (bump_eq hn).symm, trivial⟩, rfl, rfl, rfl, rfl⟩
    · have hge := ge_of (f := Fl.enc) rfl hc
      rw [List.drop_eq_nil_of_le hge] at hF hC
      have hG : shHead u = ((es.length : Int) == u.arrays.length + u.flows.length && r8main u) := by unfold shHead; rw [hA, hF, hC]; rfl
      rw [hG]
      have N : ∀ {P : Prop} {b : Bool}, b = true → b = false → P := fun h g => by rw [h] at g; cases g
      cases hb : ((es.length : Int) == u.arrays.length + u.flows.length) with
      | false => exact ⟨[], sc_shPlace u mainName, sR, trivial, rfl, i64_add rfl (by simp; omega), bcase (fun h => N (show ((es.length : Int) == u.arrays.length + u.flows.length) = true by simpa using h) hb) fun _ => ⟨sI, trivial⟩⟩
      | true =>
        cases hp : decide (r8Place mainName u.flows 0 ≥ 0) with
        | false => exact ⟨[], sc_shPlace u mainName, sR, trivial, rfl, i64_add rfl (by simp; omega), bcase (fun _ => bcase (fun h => N h hp) fun _ => ⟨sE (by unfold r8main; rw [hp]; rfl), trivial⟩) fun h => N hb (by simpa using h)⟩
        | true =>
          have h0 : r8Place mainName u.flows 0 ≥ 0 := by simpa using hp
          obtain ⟨g, hg, _⟩ := r8Place_at h0
          have hD : u.flows.getD (r8Place mainName u.flows 0).toNat flDef = g := by rw [List.getD_eq_getElem?_getD, hg]; rfl
          have hi := map_get (f := Fl.enc) hg
          refine ⟨[], sc_shPlace u mainName, sR, trivial, rfl, i64_add rfl (by simp; omega), bcase (fun _ => bcase (fun _ => ⟨hi, by omega, bcase (fun h1 => ⟨hi, by omega, sE ?_, trivial⟩) fun h1 => ⟨sE ?_, trivial⟩⟩) fun h => N hp h) fun h => N hb (by simpa using h)⟩
          · unfold r8main; rw [hp, hD, show (g.ty == 1) = true from h1]; rfl
          · unfold r8main; rw [hp, hD, show (g.ty == 1) = false from h1]; rfl
theorem sc_shCheck (u : Un) (hW : r8Weight u ≤ 536870912) : SC Tryz.prog 14 [.pv u.enc] [] (fun _ => False) (.tup [iInt (shCheck u).1, iInt (shCheck u).2]) [] := by
  refine SC.of Tryz.func14 rfl (lb rfl) fun F ρ w => ?_
  refine tQ <| tG <| cE rfl (ok_box rfl rfl) <| sm 2 rfl <| nL <| tQ <| tQ <| tG <| cV rfl (ok_load_ept_agg rfl rfl Tryz.underlying25 rfl tS25 (lb rfl)) <| cE rfl (ocq (sc_shHead u hW) ent27 rfl rfl) <| sm 1 rfl <| nL ?_
  refine tC rfl (fun hc8 => ?_) fun hc8 => ?_
  ·refine tQ <| tG <| sm 2 rfl <| nL <| Tr.ret <| ret_ok rfl ?_ no_post
   have hg : shHead u = false := by simpa using hc8
   simp [shCheck, hg]
  have hg : shHead u = true := by simpa using hc8
  refine Tr.skip <| tQ <| tQ <| tG <| sm 2 rfl ?_
  refine WL.lenOf (t := 10) rfl (fun hl1 => ?_)
  simp only [List.length_map] at hl1
  refine cV rfl (oSm Tryz.underlying23 rfl) <| sm 1 rfl <| nL <| Tr.block <| Tr.sub (Sub.of (fr' := [(12, iInt 0), (11, iInt u.flows.length), (10, .pv (flws u.flows)), (1, .pv (.ept [arrs u.arrays, flws u.flows] 0))]) ⟨rfl, rfl, rfl, rfl, trivial⟩) ?_
  refine Tr.loop (fun fr σ m => ∃ (k : Nat), (k ≤ u.flows.length) ∧ (shflows u u.flows 0 = shflows u (u.flows.drop k) k) ∧ fr = [(12, iInt k), (11, iInt u.flows.length), (10, .pv (flws u.flows)), (1, .pv (.ept [arrs u.arrays, flws u.flows] 0))] ∧ σ = look [] ∧ m = u.flows.length - k) (n := u.flows.length - 0) ?_ ?_
  ·exact ⟨0, Nat.zero_le _, rfl, rfl, rfl, rfl⟩
  rintro fr σ m ⟨k, hI0, hI1, rfl, rfl, rfl⟩
  refine tQ <| tG <| sm 1 rfl <| nL <| tQ ?_
  refine tC rfl (fun hc13 => ?_) fun hc13 => ?_
  ·have hlt : k < u.flows.length := by simpa using hc13
   have hd := List.drop_eq_getElem_cons hlt
   have hm := List.getElem_mem hlt
   have hi := map_get (f := Fl.enc) (List.getElem?_eq_getElem hlt)
   generalize u.flows[k] = x at hd hm hi
   refine Tr.skip <| tQ <| Tr.block <| tQ <| tG <| sm 1 rfl <| cV rfl (ok_index_seq rfl rfl rfl Tryz.underlying23 hi tS41 rfl (by rfl)) <| cV rfl (ok_load_ept_agg rfl rfl Tryz.underlying41 rfl tS41 (lb rfl)) <| cE rfl (ok_alloc (k := 105) rfl tZ41 rfl rfl rfl rfl) <| sm 1 rfl <| c0 (ok_store_box_agg rfl rfl rfl rfl rfl ((fun h => h)) tS41 (firmL_ok rfl) (lb rfl)) <| nL ?_
   refine tQ <| Tr.freezeBox (t := 5) (k := 105) rfl rfl rfl <| Tr.heap (σ' := look []) (fun k => by simp only [look]; cases Nat.beq 105 k <;> rfl) <| tG <| cV rfl (ok_load_ept_agg rfl rfl Tryz.underlying25 rfl tS25 (lb rfl)) <| cV rfl (ok_load_ept_agg rfl rfl Tryz.underlying41 rfl tS41 (lb rfl)) <| cE rfl (ocq (sc_shFlow u x (shHead_params hg) (shHead_params hg x hm) (flow_le hW hm)) ent28 rfl rfl) <| sm 1 rfl <| nL ?_
   refine tC rfl (fun hc20 => ?_) fun hc20 => ?_
   ·refine tQ <| tG <| sm 3 rfl <| nL <| Tr.ret <| ret_ok rfl ?_ no_post
    have hx : shFlow u x = false := by simpa using hc20
    simp only [shCheck, hg, if_true, hI1, hd, shflows, hx, Bool.false_eq_true, if_false]
   refine Tr.skip <| tG <| cV rfl (oB rfl rfl (i64_add rfl (by omega))) <| sm 1 rfl <| nL ?_
   refine ⟨_, _, ?_, Sub.of (fr' := [(12, iInt (k + 1)), (11, iInt u.flows.length), (10, .pv (flws u.flows)), (1, .pv (.ept [arrs u.arrays, flws u.flows] 0))]) ⟨rfl, rfl, rfl, rfl, trivial⟩, (k + 1), ?_, ?_, rfl, rfl, rfl⟩
   ·omega
   ·omega
   rw [hI1, hd]
   have hx : shFlow u x = true := by simpa using hc20
   simp only [shflows, hx, if_true]
   rfl
  refine Tr.exit <| tQ <| tG <| sm 2 rfl <| nL <| Tr.ret <| ret_ok rfl ?_ no_post
  have hge : u.flows.length ≤ k := by simpa using hc13
  simp only [shCheck, hg, if_true, hI1, List.drop_eq_nil_of_le hge, shflows]
set_option maxRecDepth 20000
set_option maxHeartbeats 8000000
theorem okf_boxT {P : Program} {o : Oper} {fr : Fr} {hp : Hp} {Rl : List Nat} {t : TypeId} {x : Operand} (k : Nat) (ho : o.op = .box t x) (hx : fr.ev x = some (.pv (.agg [.val (.pointer none), .val (.slice none 0 0)]))) :
    OkF P Rl o fr hp ⟨.ptr k 0, [(k, some (.box [.tnil k (tyTag + t), .pv (.val (.slice none 0 0))]))], [k], [k]⟩ := fun c fr2 hp2 _ hc0 hg _ hf => by
  obtain ⟨f1, f2, f3⟩ := frsh_ok (hf k (.head _))
  exact ok_boxT ho (hg.ev hx (by rw [ho]; simp [Op.operands])) f3 (hc0 k (.head _)) f1 f2
theorem okf_String {o : Oper} {fr : Fr} {hp : Hp} {Rl : List Nat} {x : Operand} {n : Nat} {s : ByteArray} {tys : Array TypeId} (ho : o.op = .call { callee := .value (.func 19), args := #[x], argTypes := tys }) (hx : fr.ev x = some (.ptr 1001 0))
    (h1 : look hp 1001 = some (.box [bPt, .sl 1002 n])) (h2 : look hp 1002 = some (.row bRt (tEls s))) (hn : (tEls s).length = n) (h0 : s.size ≠ 0) (hR : nIn 1002 Rl = false) : OkF Tryz.prog Rl o fr hp ⟨.pv (.val (.string s)), [(1002, none)], [1001, 1002], []⟩ :=
  fun c fr2 hp2 hc _ hg hh _ => ok_String ho (hg.ev hx (by rw [ho]; simp [Op.operands, Call.operands])) (hh.at h1 (.head _)) (hh.at h2 (.tail _ (.head _))) hn h0 (notR hc hR)
theorem tTabs0 : tTabs 0 = ⟨#[]⟩ := rfl
theorem tTabs1 : tTabs 1 = tTab := rfl
theorem tHd_ge (f : Fl) : ∀ k, 1 ≤ (tHd f k).size
  | 0 => by
    simp only [tHd, size_app]
    have e : tSp.size = 1 := rfl
    omega
  | k + 1 => by
    have e : tSp.size = 1 := rfl
    simp only [tHd, size_app]
    omega
theorem tUnit_ne {u : Un} (h : u.flows ≠ []) : (tUnit u).size ≠ 0 := by
  match hf : u.flows, h with
  | f :: r, _ =>
    have := tHd_ge f f.types.length
    simp only [tUnit, hf, List.map_cons, tCat, tFlw, size_app]
    omega
theorem sc_showPrint (u : Un) (ho : PrOk u) : SC Tryz.prog 9 [.pv u.enc] [] (fun k => k ∈ []) (.tup [.pv (.val (.string (printOf u).1)), iInt (printOf u).2]) [] := by
  refine SC.vc tb { pb := [101], an := [4001, 16003], gh := [(5, [.growC 1001 1 1002 5 1])] } [] Tryz.func9 rfl rfl ?_
  have hsc := sc_shCheck u ho.w
  rw [shCheck_eq] at hsc
  refine ⟨[], hsc, sR, trivial, rfl, bcase (fun hb => ?_) fun hb => ?_⟩
  · have h : ¬ (r8Check u).1 = 0 := by simpa using hb
    exact ⟨sE (by rw [printOf, if_neg h]), trivial⟩
  · have h : (r8Check u).1 = 0 := by simpa using hb
    have hU := tUnit_le h ho
    have hAr := arrs_ok h
    have hU2 := hU
    simp only [tUnit, size_app] at hU2
    have hw := ho.w
    simp only [r8Weight] at hw
    refine ⟨okf_boxT 1001 rfl rfl, ?_⟩
    refine ⟨Nat × IV, fun (k, _) => [(23, iInt k)], fun (k, c) => bd c (tCat ((u.arrays.take k).map tArr)), fun (k, _) => u.arrays.length - k, fun (k, c) => k ≤ u.arrays.length ∧ BdC c, [], (0, bTn), ⟨Nat.zero_le _, .inl rfl⟩, ⟨rfl, trivial⟩, ⟨rfl, rfl, trivial⟩, ?_⟩
    rintro ⟨k, c0⟩ ⟨hk, hC⟩
    refine bcase (fun hc => ?_) fun hc => ?_
    · have hlt : k < u.arrays.length := lt_of (f := Ar.enc) rfl hc
      obtain ⟨a, hx, hk1, _, hm⟩ := at_lt hlt
      have hA := hAr a hm
      have hpn := tCat_part tArr u.arrays (k + 1)
      have hn := tCat_next tArr hk1
      have hl := sc_line hC 0 (by omega) [⟨#[97, 114, 114, 97, 121, 32]⟩, a.name, tSp, tNum a.size] (by simp) (t := tCat ((u.arrays.take k).map tArr)) (t' := tCat ((u.arrays.take (k + 1)).map tArr)) (by rw [hn]; simp only [tLine, tCat, tArr, app_assoc, app_nil, nil_app, tTabs0]) (by omega)
      have hi := sc_Itoa a.size ⟨by omega, by omega⟩
      have g := map_get (f := Ar.enc) hx
      rcases hC with rfl | rfl
      all_goals exact ⟨g, rfl, [], hi, sR, trivial, rfl, [], hl, sR, ⟨rfl, rfl, trivial⟩, rfl, i64_add rfl (by omega), (k + 1, bPt), step_lt hlt, ⟨hlt, .inr rfl⟩, ⟨rfl, trivial⟩, ⟨rfl, rfl, trivial⟩, rfl, rfl, rfl, rfl⟩
    · have hge : u.arrays.length ≤ k := ge_of (f := Ar.enc) rfl hc
      rw [List.take_of_length_le hge]
      generalize hT : tCat (u.arrays.map tArr) = T at *
      refine ⟨Nat × IV, fun (k, _) => [(39, iInt k)], fun (k, c) => bd c (T ++ tCat ((u.flows.take k).map tFlw)), fun (k, _) => u.flows.length - k, fun (k, c) => k ≤ u.flows.length ∧ BdC c ∧ (1 ≤ k → c = bPt), [], (0, c0), ⟨Nat.zero_le _, hC, fun h => absurd h (by decide)⟩, ⟨rfl, trivial⟩, ?_, ?_⟩
      · have e : T ++ tCat ((u.flows.take 0).map tFlw) = T := app_nil T
        show subH _ (bd c0 (T ++ tCat ((u.flows.take 0).map tFlw)))
        rw [e]
        exact ⟨rfl, rfl, trivial⟩
      rintro ⟨k, c1⟩ ⟨hk, hC2, hk0⟩
      refine bcase (fun hc => ?_) fun hc => ?_
      · have hlt : k < u.flows.length := lt_of (f := Fl.enc) rfl hc
        obtain ⟨f, hx, hk1, _, hm⟩ := at_lt hlt
        have hpn := tCat_part tFlw u.flows (k + 1)
        have hn := tCat_next tFlw hk1
        have hb := body_ok h hm (ho.n f hm)
        have hwf := wtF_at hm
        simp only [r8nodes] at hwf
        have hhd := sc_head f (by omega) (by omega)
        have e : T ++ tCat ((u.flows.take (k + 1)).map tFlw) = T ++ tCat ((u.flows.take k).map tFlw) ++ tLine 0 [tHd f f.types.length] ++ tLs (tTabs 1) f.body := by
          rw [hn]
          simp only [tLine, tCat, tFlw, app_assoc, app_nil, nil_app, tTabs0, tTabs1]
        have hsz : (T ++ tCat ((u.flows.take (k + 1)).map tFlw)).size ≤ 70368744177664 := by rw [size_app]; omega
        have hsz2 := hsz
        rw [e, size_app] at hsz2
        have h1 := sc_line hC2 0 (by omega) [tHd f f.types.length] (by simp) (t := T ++ tCat ((u.flows.take k).map tFlw)) rfl (by omega)
        have h2 := sc_showList _ 1 100 f.body (Nat.lt_succ_self _) (by omega) hb.1 hb.2 (by omega) (t := T ++ tCat ((u.flows.take k).map tFlw) ++ tLine 0 [tHd f f.types.length]) e hsz
        have g := map_get (f := Fl.enc) hx
        rcases hC2 with rfl | rfl
        all_goals exact ⟨g, rfl, [], hhd, sR, trivial, rfl, [], h1, sR, ⟨rfl, rfl, trivial⟩, rfl, [], h2, sR, ⟨rfl, rfl, trivial⟩, rfl, i64_add rfl (by omega), (k + 1, bPt), step_lt hlt, ⟨hlt, .inr rfl, fun _ => rfl⟩, ⟨rfl, trivial⟩, ⟨rfl, rfl, trivial⟩, rfl, rfl, rfl, rfl⟩
      · have hge : u.flows.length ≤ k := ge_of (f := Fl.enc) rfl hc
        have hne := flws_ne h
        obtain rfl := hk0 (by
          have : u.flows.length ≠ 0 := fun e => hne (List.eq_nil_of_length_eq_zero e)
          omega)
        rw [List.take_of_length_le hge]
        have e : T ++ tCat (u.flows.map tFlw) = tUnit u := by rw [tUnit, hT]
        rw [e]
        have h0 : (tUnit u).size ≠ 0 := tUnit_ne hne
        exact ⟨okf_String rfl rfl rfl rfl rfl h0 rfl, sE (by rw [printOf, if_pos h]), trivial⟩
set_option maxRecDepth 20000
set_option maxHeartbeats 4000000
def numU (n : Int) : Un := ⟨[], [⟨mainName, 1, 0, [1], [.mk 1 0 n ⟨#[]⟩ [] [0] [] [], .mk 15 0 0 ⟨#[]⟩ [0] [] [] []]⟩]⟩
def nilv : PV := .val (.slice none 0 0)
def numRaw (n : Int) : PV := .agg [nilv, .seq [[vStr mainName, vInt 1, vInt 0, .seq [[vInt 1]], .seq [[vInt 1, vInt 0, vInt n, vStr ⟨#[]⟩, nilv, .seq [[vInt 0]], nilv, nilv], [vInt 15, vInt 0, vInt 0, vStr ⟨#[]⟩, .seq [[vInt 0]], nilv, nilv, nilv]]]]]
theorem num_sub (n : Int) : PSub (numRaw n) (numU n).enc := by
  refine PSub.agg (ps := [_, _]) (qs := [_, _]) ?_
  repeat' (first | exact PSub.nil | exact PSub.refl _ | exact trivial | refine And.intro ?_ ?_ | refine PSub.seq (ps := [_, _]) (qs := [_, _]) ?_ | refine PSub.seq (ps := [_]) (qs := [_]) ?_)
theorem num_check (n : Int) : (r8Check (numU n)).1 = 0 := by
  have h1 : isName mainName = true := by decide +kernel
  have h2 : eqS mainName mainName = true := by decide +kernel
  rw [check_iff]
  refine ⟨?_, fun f hf => ?_⟩
  · simp [r8globals, r8gA, r8gF, gFlw, r8main, numU, r8Place, h1, h2]
  · simp only [numU, List.mem_singleton] at hf
    subst hf
    simp [r8Flow, r8list, ne, r8go, r8node, andT, andS, r8bare, r8simple, r8types, r8typesGo, r8sets, r8setsGo, r8use, r8op, r8num, r8name, r8kn, firsts, iota, r8Closed, Nd.kind, Nd.op, Nd.n, Nd.name, Nd.args, Nd.outs, Nd.params, Nd.kids, r8bad, r8Ender]
theorem num_weight (n : Int) : r8Weight (numU n) ≤ 536870912 := by
  simp [r8Weight, numU, wtA, wtF, r8nodes, wtL, wtN, wtK]
  decide
theorem num_ok {n : Int} (h : N64 n) : PrOk (numU n) := ⟨num_weight n, fun f hf => by
  simp only [numU, List.mem_singleton] at hf
  subst hf
  simp only [n64L, n64N, n64K]
  exact ⟨⟨h, trivial⟩, ⟨⟨by decide, by decide⟩, trivial⟩, trivial⟩⟩
def emptyU : Un := ⟨[], []⟩
theorem empty_ok : PrOk emptyU := ⟨by decide, fun f hf => by simp [emptyU] at hf⟩
theorem empty_print : printOf emptyU = (⟨#[]⟩, 1) := rfl
theorem wake_text : tUnit (numU (-7)) = ⟨#[105, 110, 116, 32, 109, 97, 105, 110, 59, 32, 105, 110, 116, 10, 9, 118, 48, 32, 61, 32, 45, 55, 10, 9, 114, 101, 116, 117, 114, 110, 32, 118, 48, 10]⟩ := by decide +kernel
theorem sc_awake : SC Tryz.prog 8 [] [] (fun k => k ∈ []) (iBool true) [] := by
  have h1 := sc_showPrint (numU (-7)) (num_ok ⟨by decide, by decide⟩)
  have h2 := sc_showPrint emptyU empty_ok
  rw [empty_print] at h2
  rw [printOf, if_pos (num_check _), wake_text] at h1
  refine SC.vc tb {} [] Tryz.func8 rfl rfl ?_
  refine ⟨[], h1, SubA.cons (sP (num_sub (-7))) sR, trivial, rfl, [], h2, SubA.cons (sP (nilP_agg _)) sR, trivial, rfl, bcase (fun _ => ?_) fun h => absurd h (by simp)⟩
  exact ⟨sI, trivial⟩
set_option maxRecDepth 20000
set_option maxHeartbeats 4000000
theorem sc_ShowAny (u : Un) (hW : r8Weight u ≤ 536870912) (h64 : ∀ f ∈ u.flows, n64L f.body) : SC Tryz.prog 3 [.pv u.enc] [] (fun k => k ∈ []) (iBool true) [] := by
  have h1 := sc_showPrint u ⟨hW, h64⟩
  have h2 := sc_refPrint u ⟨hW, h64⟩
  generalize printOf u = p at h1 h2
  obtain ⟨s, e⟩ := p
  refine SC.vc tb { pb := [101] } [] Tryz.func3 rfl rfl ?_
  refine ⟨[], sc_r8Weight u (by omega), sR, trivial, rfl, bcase (fun _ => ?_) fun _ => ?_⟩
  · exact ⟨[], sc_awake, sR, trivial, rfl, sI, trivial⟩
  · exact ⟨[], h1, sR, trivial, rfl, [], h2, sR, trivial, rfl, [], sc_awake, sR, trivial, rfl, bcase (fun _ => ⟨sE (by simp), trivial⟩) fun h => absurd h (by simp)⟩
section
open Go Go.ChangeShapes Go.WideShapes Go.ChangeAt Go.RowKit
section
variable {H : Type} {enc : TypeId × Value → H} {P : Program} {w : World} {base : Nat} {spare : Nat → Bool} {held : Bool}
def RepEl (own : Nat → Prop) (w : World) (ps : List PV) (cs : List Value) : Prop := ps.length = cs.length ∧ ∀ (j : Nat) p v, ps[j]? = some p → cs[j]? = some v → RepP own w p v
theorem RepEl.nil {own : Nat → Prop} : RepEl own w [] [] := ⟨rfl, fun j p v h => by simp at h⟩
theorem RepEl.cons {own : Nat → Prop} {p : PV} {v : Value} {ps : List PV} {cs : List Value} (h : RepP own w p v) (hr : RepEl own w ps cs) : RepEl own w (p :: ps) (v :: cs) := by
  refine ⟨by simp [hr.1], fun j q x hq hx => ?_⟩
  cases j with
  | zero => simp at hq hx; subst hq; subst hx; exact h
  | succ j => exact hr.2 j q x (by simpa using hq) (by simpa using hx)
theorem choose_els {α : Type} (f : α → List PV) (wt : α → Nat) {own : Nat → Prop} (R : Nat → DataW H × List MemPlace → List Value → Prop)
    (hR : ∀ i y cs, R i y cs → ∃ z : α, RepEl own w (f z) cs ∧ wt z + 1 ≤ Rows.uptoBulk y.1) :
    ∀ (ys : List (DataW H × List MemPlace)) (s : Nat), (∀ i y, ys[i]? = some y → ∃ cs, R (s + i) y cs) →
      ∃ l : List α, l.length = ys.length ∧ (∀ i z, l[i]? = some z → ∃ y cs, ys[i]? = some y ∧ R (s + i) y cs ∧ RepEl own w (f z) cs) ∧ (l.map wt).sum + l.length ≤ Rows.uptoBulkAll (ys.map (·.1))
  | [], _, _ => ⟨[], rfl, fun i z h => by simp at h, by simp [Rows.uptoBulkAll]⟩
  | y :: ys, s, h => by
    obtain ⟨cs, hcs⟩ := h 0 y rfl
    obtain ⟨z, hz, hw⟩ := hR _ _ _ hcs
    obtain ⟨l, hl, hg, hb⟩ := choose_els f wt R hR ys (s + 1) (fun i y' hy => by
      have := h (i + 1) y' (by simpa using hy)
      rwa [show s + 1 + i = s + (i + 1) by omega])
    refine ⟨z :: l, by simp [hl], fun i z' hz' => ?_, ?_⟩
    ·cases i with
     | zero => simp at hz'; subst hz'; exact ⟨y, cs, rfl, hcs, hz⟩
     | succ i =>
       obtain ⟨y', cs', h1, h2, h3⟩ := hg i z' (by simpa using hz')
       exact ⟨y', cs', by simpa using h1, by rwa [show s + (i + 1) = s + 1 + i by omega], h3⟩
    simp only [List.map_cons, List.sum_cons, List.length_cons, Rows.uptoBulkAll]; omega
theorem trod_list {α : Type} (f : α → List PV) (wt : α → Nat) {own : Nat → Prop} (hown : ∀ b, b < w.heap.size → ¬ own b) {t e : TypeId} {fuel : Nat} {cs : List Value} {x : DataW H × List MemPlace} {N : Nat} (ht : P.underlying t = some (.slice e)) (hC : P.cellsOf e = N) (hN : 0 < N)
    (h : DataW.trod enc P w base spare held fuel t cs = some x)
    (hel : ∀ n cs' y, n < fuel → cs'.length = N → DataW.trod enc P w base spare held n e cs' = some y → ∃ z : α, RepEl own w (f z) cs' ∧ wt z + 1 ≤ Rows.uptoBulk y.1) :
    ∃ (l : List α) (v : Value), cs = [v] ∧ RepP own w (.seq (l.map f)) v ∧ (l.map wt).sum + l.length + 1 ≤ Rows.uptoBulk x.1 := by
  rcases DataW.trod_slice ht h with ⟨rfl, rfl⟩ | ⟨a, len, cap, elems, rest, n, rfl, rfl, rfl, hb, hl, hm, hlen, hg, _, _⟩
  ·refine ⟨[], _, rfl, ?_, by simp [Rows.uptoBulk]⟩
   have := RepP.seq (own := own) (w := w) [] none 0 0 0 (fun _ _ => default) (fun h => absurd rfl h) (fun h => absurd rfl h) (Nat.le_refl _) (Nat.zero_le _) (fun i el h => by simp at h) (fun i el h => by simp at h)
   simpa using this
  obtain ⟨l, hll, hat, hsum⟩ := choose_els (w := w) f wt (own := own) (fun i y cs => w.cells? base (a.add (i * P.cellsOf e)) (P.cellsOf e) = some cs ∧ DataW.trod enc P w base spare held n e cs = some y)
    (fun i y cs' hr => hel n cs' y (Nat.lt_succ_self _) (by rw [(World.cells?_some hr.1).2.1, hC]) hr.2) elems 0 (fun i y hy => by
      have hlt : i < len := by rw [← hlen]; exact (List.getElem?_eq_some_iff.1 hy).1
      have h1 := hg i hlt
      rw [hy, Option.bind_eq_some_iff] at h1
      obtain ⟨cs', h2, h3⟩ := h1
      exact ⟨cs', by rw [Nat.zero_add]; exact h2, h3⟩)
  obtain ⟨ab, ao, asp⟩ := a
  have hlen2 : l.length = len := by rw [hll, hlen]
  -- a cell that can be read
  have hsp : l ≠ [] → asp = none ∧ ab < w.heap.size := by
    intro hne
    obtain ⟨z, r, rfl⟩ := List.exists_cons_of_ne_nil hne
    obtain ⟨y, cs', _, hr, hrep⟩ := hat 0 z rfl
    obtain ⟨_, hcl, hcell⟩ := World.cells?_some hr.1
    have h0 := hcell 0 (by rw [hC]; exact hN)
    have hlt : 0 < cs'.length := by rw [hcl, hC]; exact hN
    rw [List.getElem?_eq_getElem hlt] at h0
    unfold World.cell? at h0
    have e0 : (Addr.add (Addr.add ⟨ab, ao, asp⟩ ((0 + 0) * P.cellsOf e)) 0) = ⟨ab, ao, asp⟩ := by simp [Addr.add]
    rw [e0] at h0
    split at h0
    ·rename_i hh
     refine ⟨?_, (Array.getElem?_eq_some_iff.1 hh).1⟩
     cases asp with
     | none => rfl
     | some _ => simp at h0
    cases h0
  refine ⟨l, _, rfl, ?_, ?_⟩
  ·-- the cells of an element
   have key : ∀ i z, l[i]? = some z → ∃ cs', RepEl own w (f z) cs' ∧ cs'.length = N ∧ ∀ j, j < N → w.cell? ⟨ab, ao + i * N + j, none⟩ = cs'[j]? := by
     intro i z hz
     obtain ⟨y, cs', _, hr, hrep⟩ := hat i z hz
     obtain ⟨_, hcl, hcell⟩ := World.cells?_some hr.1
     refine ⟨cs', hrep, hcl.trans hC, fun j hj => ?_⟩
     have h1 := hcell j (by rw [hC]; exact hj)
     have hne : l ≠ [] := by intro e; subst e; simp at hz
     have hs := (hsp hne).1
     subst hs
     rw [← h1, Addr.add_mid, Addr.add_mid, hC, Nat.zero_add]
   have hrep := RepP.seq (own := own) (w := w) (l.map f) (some ⟨ab, ao, asp⟩) cap ab ao (fun i j => (w.cell? ⟨ab, ao + i * N + j, none⟩).getD default)
     (fun hne => by rw [(hsp (by intro e; subst e; exact hne rfl)).1]) (fun hne => by
       have := (hsp (by intro e; subst e; exact hne rfl)).2
       exact ⟨hown _ this, this⟩) (by simp; omega) hm ?_ ?_
   ·rw [List.length_map, hlen2] at hrep; exact hrep
   ·intro i el hi j c hj
    rw [List.getElem?_map, Option.map_eq_some_iff] at hi
    obtain ⟨z, hz, rfl⟩ := hi
    obtain ⟨cs', hrep, hcl, hcell⟩ := key i z hz
    have hjN : j < N := by have := (List.getElem?_eq_some_iff.1 hj).1; rw [hrep.1, hcl] at this; exact this
    have h1 := hcell j hjN
    have hfl : (f z).length = N := by rw [hrep.1, hcl]
    rw [hfl, h1, List.getElem?_eq_getElem (by omega)]
    rfl
   intro i el hi j c hj
   rw [List.getElem?_map, Option.map_eq_some_iff] at hi
   obtain ⟨z, hz, rfl⟩ := hi
   obtain ⟨cs', hrep, hcl, hcell⟩ := key i z hz
   have hjN : j < N := by have := (List.getElem?_eq_some_iff.1 hj).1; rw [hrep.1, hcl] at this; exact this
   have h1 := hcell j hjN
   rw [List.getElem?_eq_getElem (by omega)] at h1
   rw [h1]
   exact hrep.2 j c _ hj (List.getElem?_eq_getElem (by omega))
  simp only [Rows.uptoBulk]; omega
theorem trod_ints {own : Nat → Prop} (hown : ∀ b, b < w.heap.size → ¬ own b) {t e : TypeId} {fuel : Nat} {cs : List Value} {x : DataW H × List MemPlace} (ht : P.underlying t = some (.slice e)) (he : P.underlying e = some (.int .i64)) (hC : P.cellsOf e = 1)
    (h : DataW.trod enc P w base spare held fuel t cs = some x) : ∃ (l : List Int) (v : Value), cs = [v] ∧ RepP own w (ints l) v ∧ l.length + 1 ≤ Rows.uptoBulk x.1 := by
  obtain ⟨l, v, h1, h2, h3⟩ := trod_list eInt (fun _ => 0) hown ht hC (by decide) h (fun n cs' y _ _ hy => by
    obtain ⟨k, rfl, rfl, _⟩ := DataW.trod_int he hy
    exact ⟨k, RepEl.cons (.val _) .nil, by simp [Rows.uptoBulk]⟩)
  exact ⟨l, v, h1, h2, by omega⟩
end
end
section
open Go Go.ChangeShapes Go.WideShapes Go.ChangeAt Go.RowKit Go.Deep
section
variable {H : Type} {enc : TypeId × Value → H} {w : World} {base : Nat} {spare : Nat → Bool} {held : Bool}
theorem trod_fields {P : Program} {t : TypeId} {fs : Array Field} {fuel : Nat} {cs : List Value} {x : DataW H × List MemPlace} (hs : P.underlying t = some (.struct fs)) (hone : oneCellFields P fs = true)
    (h : DataW.trod enc P w base spare held fuel t cs = some x) : ∃ (xs : List (DataW H × List MemPlace)) (n : Nat), fuel = n + 1 ∧ x.1 = .agg (xs.map (·.1)) ∧ xs.length = fs.size ∧
      ∀ (j : Nat) (f : Field) (v : Value) y, fs[j]? = some f → cs[j]? = some v → xs[j]? = some y → DataW.trod enc P w base spare held n f.type [v] = some y := by
  obtain ⟨xs, n, hn, rfl, hl, hxl, hg⟩ := DataW.trod_struct hs h
  refine ⟨xs, n, hn, rfl, hxl, fun j f v y hf hv hy => ?_⟩
  obtain ⟨ho, hk⟩ := hone_of hone j f hf
  have h1 := hg j f hf
  rw [ho, hk] at h1
  have hjl : j < cs.length := (List.getElem?_eq_some_iff.1 hv).1
  have hvv : cs[j] = v := (List.getElem?_eq_some_iff.1 hv).2
  rw [List.drop_eq_getElem_cons hjl] at h1
  simp only [List.take_succ_cons, List.take_zero, hvv] at h1
  rw [h1, hy]
theorem str_len (s : ByteArray) : s.data.toList.length = s.size := Array.length_toList
theorem len2 {α : Type} : ∀ {l : List α}, l.length = 2 → ∃ a b, l = [a, b]
  | [a, b], _ => ⟨a, b, rfl⟩
theorem len5 {α : Type} : ∀ {l : List α}, l.length = 5 → ∃ a b c d e, l = [a, b, c, d, e]
  | [a, b, c, d, e], _ => ⟨a, b, c, d, e, rfl⟩
theorem len8 {α : Type} : ∀ {l : List α}, l.length = 8 → ∃ a b c d e f g h, l = [a, b, c, d, e, f, g, h]
  | [a, b, c, d, e, f, g, h], _ => ⟨a, b, c, d, e, f, g, h, rfl⟩
theorem wtL_sum : ∀ l : List Nd, wtL l = (l.map wtN).sum
  | [] => rfl
  | x :: r => by simp [wtL, wtL_sum r]
theorem wtK_sum : ∀ l : List (List Nd), wtK l = (l.map fun q => q.length + wtL q).sum + l.length
  | [] => rfl
  | x :: r => by simp only [wtK, wtK_sum r, List.map_cons, List.sum_cons, List.length_cons]; omega
theorem wtA_sum : ∀ l : List Ar, wtA l = (l.map fun a => a.name.size).sum
  | [] => rfl
  | x :: r => by simp [wtA, wtA_sum r]
theorem wtF_sum : ∀ l : List Fl, wtF l = (l.map fun f => f.name.size + f.types.length + r8nodes f.body).sum
  | [] => rfl
  | x :: r => by simp [wtF, wtF_sum r]
end
end
section
open Go Go.ChangeShapes Go.WideShapes Go.ChangeAt Go.RowKit Go.Deep
theorem Tryz.own : ownKnob Tryz.prog.godebug = none := by kernel_rfl
theorem Tryz.laidOut : laidOutB Tryz.prog = true := by kernel_rfl
section
variable {H : Type} {enc : TypeId × Value → H} {P : Program}
theorem sameAt_of {W W' : World} {p : MemPlace} (h : W'.heap[p.block]? = W.heap[p.block]?) : W.sameAt W' p := by
  cases p <;> simp_all [World.sameAt, MemPlace.block, World.cell?]
theorem trodAll_stays (hl : laidOutB P = true) {W W' : World} (hb : ∀ b, b < W.heap.size → W'.heap[b]? = W.heap[b]?) : ∀ (ts : List TypeId) (vs : List Value) (ds : List (DataW H)) (ps : List MemPlace),
    (∀ t ∈ ts, P.readableRec t = true ∧ t < P.types.size) → DataW.TrodAll enc P W 0 (fun _ => true) true ts vs ds ps → (∀ x ∈ ps, x.block < W.heap.size) →
    DataW.TrodAll enc P W' 0 (fun b => decide (b < W.heap.size)) true ts vs ds ps
  | [], vs, ds, ps, _, h, _ => by
    obtain ⟨rfl, rfl, rfl⟩ := trodAll_nil h
    exact trodAll_mk0
  | t :: ts, vs, ds, ps, hr, h, hp => by
    obtain ⟨v, vs', d, ds', p, q, rfl, rfl, rfl, h1, h2⟩ := trodAll_cons h
    have ht := hr t (.head _)
    refine ⟨p, q, ?_, trodAll_stays hl hb ts vs' ds' q (fun t' h' => hr t' (.tail _ h')) h2 (fun x hx => hp x (List.mem_append_right _ hx)), rfl⟩
    refine WideElems.Trod_stays hl ht.1 ht.2 h1 (fun x hx => ?_) (fun x hx => by simpa using hp x (List.mem_append_left _ hx))
    exact sameAt_of (hb _ (hp x (List.mem_append_left _ hx)))
theorem keptBut_of {W W' : World} (may : MemPlace → Prop) (hos : W'.os = W.os) (hout : W'.output = W.output) (hb : ∀ b, b < W.heap.size → W'.heap[b]? = W.heap[b]?) : W.keptBut W' may := by
  refine ⟨hos, hout, fun i hi => ?_⟩
  rw [hb i hi]
  rcases h : W.heap[i]? with _ | o
  ·trivial
  cases o with
  | cells c t fr => exact ⟨rfl, rfl, rfl, fun _ _ => rfl⟩
  | map es clock => exact .inr ⟨rfl, rfl⟩
  | _ => rfl
theorem post_true {f : Func} {s : ChangeSpec} {apart fresh handsOn : Bool} {W W' : World} {args : Array Value} {ds gs : List (DataW H)} {before : List MemPlace} {tb : TypeId} (hl : laidOutB P = true) (hv0 : s.vars = [])
    (hW : DataW.Whole enc P f.params.toList s.vars apart W args.toList ds gs before) (hrd : ∀ t ∈ f.params.toList, P.readableRec t = true ∧ t < P.types.size) (hres : f.resultTypes = #[tb]) (htb : P.underlying tb = some .bool)
    (hs : s.fn H (ds ++ gs) = { results := [.lit (.bool true)], args := ds }) (hos : W'.os = W.os) (hout : W'.output = W.output) (hb : ∀ b, b < W.heap.size → W'.heap[b]? = W.heap[b]?) :
    s.post enc P f apart fresh handsOn false W args (.bool true) W' := by
  have hlt := hW.lt
  have hW' := hW
  obtain ⟨p, q, hA, hV, rfl, _, _⟩ := hW
  refine ⟨ds, gs, p ++ q, [], p, [], hW', ?_, ?_, ?_, keptBut_of _ hos hout hb, fun h => by cases h⟩
  ·rw [hs, hres]
   exact trodAll_mk1 ⟨1, by simp [DataW.trod, htb, Value.cells]⟩
  ·rw [hs]
   exact trodAll_stays hl hb _ _ _ _ hrd hA (fun x hx => hlt x (List.mem_append_left _ hx))
  rw [hs, hv0]
  exact rfl
end
theorem relH_none {W : World} : RelH (fun _ => False) (fun _ => none) (look (up [])) W where
  inj _ _ _ _ _ h := by cases h
  apart _ _ _ h := by cases h
  old _ h := h.elim
  obj _ _ _ h := by cases h
  real _ _ h := by cases h
theorem call_true {P : Program} {f : FuncId} {args : List IV} {R : Nat → Prop} (hsc : SC P f args [] R (iBool true) []) {W : World} {vs : List Value} (hK : Kept W (owned (fun _ => False) fun _ => none)) (hr : RepL (fun _ => False) (fun _ => none) (look (up [])) W args vs) :
    Calls P f vs.toArray W fun e W' => e = .returned (.bool true) ∧ W'.os = W.os ∧ W'.output = W.output ∧ ∀ b, b < W.heap.size → W'.heap[b]? = W.heap[b]? := by
  refine (hsc (fun _ => False) (fun _ => none) W vs hK relH_none hr).mono ?_
  rintro e W' ⟨ρ', v, rfl, hv, _, t⟩
  refine ⟨?_, t.os, t.output, fun b hb => t.blk b hb fun k c h => by cases h⟩
  cases hv with
  | pv _ _ hp => cases hp; rfl
theorem own_none {b : Nat} : ¬ owned (fun _ => False) (fun _ => none) b := by
  rintro (h | ⟨_, _, h⟩)
  ·exact h
  cases h
end
section
open Go Go.ChangeShapes Go.WideShapes Go.ChangeAt Go.RowKit Go.Deep
theorem repEl_agg {own : Nat → Prop} {w : World} {ps : List PV} {cs : Array Value} (h : RepEl own w ps cs.toList) : RepP own w (.agg ps) (.agg cs) := by
  refine .agg ps cs (fun j => cs[j]?.getD default) (by simpa using h.1.symm) (fun j c hj => ?_) (fun j c hj => ?_)
  ·have hlt : j < cs.size := by have := (List.getElem?_eq_some_iff.1 hj).1; rw [h.1] at this; simpa using this
   rw [Array.getElem?_eq_getElem hlt]; rfl
  have hlt : j < cs.size := by have := (List.getElem?_eq_some_iff.1 hj).1; rw [h.1] at this; simpa using this
  refine h.2 j c _ hj ?_
  rw [Array.getElem?_toList, Array.getElem?_eq_getElem hlt]; rfl
theorem repL_one {x : IV} {v : Value} {F : Nat → Prop} {ρ : Loc} {σ : Heap'} {w : World} (h : RepI F ρ σ w x v) : RepL F ρ σ w [x] [v] := by
  refine ⟨rfl, fun j y hj => ?_⟩
  cases j with
  | zero => simp at hj; subst hj; exact ⟨v, rfl, h⟩
  | succ j => simp at hj
section
variable {H : Type} {enc : TypeId × Value → H} {w : World} {base : Nat} {spare : Nat → Bool} {held : Bool}
theorem n64L_sub : ∀ l : List { x : Nd // n64N x }, n64L (l.map (·.1))
  | [] => by simp [n64L]
  | x :: r => by simp only [List.map_cons, n64L]; exact ⟨x.2, n64L_sub r⟩
theorem n64K_sub : ∀ l : List { x : List Nd // n64L x }, n64K (l.map (·.1))
  | [] => by simp [n64K]
  | x :: r => by simp only [List.map_cons, n64K]; exact ⟨x.2, n64K_sub r⟩
theorem lit_64 {k : Int} (hk : (Lit.int .i64 k).wf = true) : N64 k := by
  simp [Lit.wf, IntKind.min, IntKind.max, IntKind.bits, IntKind.signed] at hk
  unfold N64
  omega
theorem trod_nodes64 {own : Nat → Prop} (hown : ∀ b, b < w.heap.size → ¬ own b) : ∀ (N fuel : Nat) (cs : List Value) (x : DataW H × List MemPlace), fuel < N → DataW.trod enc Tryz.prog w base spare held fuel 39 cs = some x →
    ∃ (l : List Nd) (v : Value), cs = [v] ∧ RepP own w (nodes l) v ∧ wtL l + l.length + 1 ≤ Rows.uptoBulk x.1 ∧ n64L l
  | 0, fuel, _, _, h, _ => absurd h (Nat.not_lt_zero _)
  | N + 1, fuel, cs, x, hN, h => by
    obtain ⟨l, v, h1, h2, h3⟩ := trod_list (fun z : { x : Nd // n64N x } => z.1.enc) (fun z => wtN z.1) hown Tryz.underlying39 (N := 8) (by kernel_rfl) (by decide) h (fun n cs' y hn hcl hy => by
      obtain ⟨xs, m, rfl, hx, hxl, hf⟩ := trod_fields Tryz.underlying38 (by kernel_rfl) hy
      obtain ⟨c0, c1, c2, c3, c4, c5, c6, c7, rfl⟩ := len8 hcl
      obtain ⟨y0, y1, y2, y3, y4, y5, y6, y7, rfl⟩ := len8 hxl
      obtain ⟨k0, e0, f0, _⟩ := DataW.trod_int Tryz.underlying3 (hf 0 _ _ _ rfl rfl rfl)
      obtain ⟨k1, e1, f1, _⟩ := DataW.trod_int Tryz.underlying3 (hf 1 _ _ _ rfl rfl rfl)
      obtain ⟨k2, e2, f2, hk2⟩ := DataW.trod_int Tryz.underlying3 (hf 2 _ _ _ rfl rfl rfl)
      obtain ⟨s, e3, f3, _⟩ := DataW.trod_string Tryz.underlying9 (hf 3 _ _ _ rfl rfl rfl)
      obtain ⟨as_, v4, e4, r4, b4⟩ := trod_ints hown Tryz.underlying35 Tryz.underlying3 (by kernel_rfl) (hf 4 _ _ _ rfl rfl rfl)
      obtain ⟨os_, v5, e5, r5, b5⟩ := trod_ints hown Tryz.underlying35 Tryz.underlying3 (by kernel_rfl) (hf 5 _ _ _ rfl rfl rfl)
      obtain ⟨ps_, v6, e6, r6, b6⟩ := trod_ints hown Tryz.underlying35 Tryz.underlying3 (by kernel_rfl) (hf 6 _ _ _ rfl rfl rfl)
      obtain ⟨ks, v7, e7, r7, b7⟩ := trod_list (fun z : { x : List Nd // n64L x } => eKid z.1) (fun q => q.1.length + wtL q.1) hown Tryz.underlying36 (N := 1) (by kernel_rfl) (by decide) (hf 7 _ _ _ rfl rfl rfl) (fun n' cs2 y' hn' _ hy' => by
        obtain ⟨q, v', h1', h2', h3', h4'⟩ := trod_nodes64 hown N n' cs2 y' (by omega) hy'
        subst h1'
        exact ⟨⟨q, h4'⟩, RepEl.cons h2' .nil, by show q.length + wtL q + 1 ≤ _; omega⟩)
      cases e0; cases e1; cases e2; cases e3; cases e4; cases e5; cases e6; cases e7
      refine ⟨⟨.mk k0 k1 k2 s as_ os_ ps_ (ks.map (·.1)), by simp only [n64N]; exact ⟨lit_64 hk2, n64K_sub ks⟩⟩, ?_, ?_⟩
      · refine RepEl.cons (.val _) (.cons (.val _) (.cons (.val _) (.cons (.val _) (.cons r4 (.cons r5 (.cons r6 (.cons ?_ .nil)))))))
        rw [Nd.encK_eq, List.map_map]; exact r7
      · rw [hx]
        have hs := str_len s
        have e9 : (ks.map (·.1)).map (fun q => q.length + wtL q) = ks.map fun q => q.1.length + wtL q.1 := by rw [List.map_map]; rfl
        simp only [Rows.uptoBulk, Rows.uptoBulkAll, List.map_cons, List.map_nil, f0, f1, f2, f3, wtN, wtK_sum, hs, e9, List.length_map]
        omega)
    refine ⟨l.map (·.1), v, h1, ?_, ?_, n64L_sub l⟩
    ·unfold nodes
     rw [List.map_map]
     exact h2
    rw [wtL_sum, List.map_map, List.length_map]
    exact h3
theorem trod_unit64 {own : Nat → Prop} (hown : ∀ b, b < w.heap.size → ¬ own b) {fuel : Nat} {cs : List Value} {x : DataW H × List MemPlace} (h : DataW.trod enc Tryz.prog w base spare held fuel 25 cs = some x) :
    ∃ u : Un, RepEl own w [arrs u.arrays, flws u.flows] cs ∧ r8Weight u ≤ Rows.uptoBulk x.1 ∧ ∀ f ∈ u.flows, n64L f.body := by
  have hcl : cs.length = 2 := by
    obtain ⟨_, _, _, _, hl, _, _⟩ := DataW.trod_struct Tryz.underlying25 h
    exact hl.trans (by kernel_rfl)
  obtain ⟨xs, m, rfl, hx, hxl, hf⟩ := trod_fields Tryz.underlying25 (by kernel_rfl) h
  obtain ⟨c0, c1, rfl⟩ := len2 hcl
  obtain ⟨y0, y1, rfl⟩ := len2 hxl
  obtain ⟨as_, v0, e0, r0, b0⟩ := trod_list Ar.enc (fun a => a.name.size) hown Tryz.underlying22 (N := 2) (by kernel_rfl) (by decide) (hf 0 _ _ _ rfl rfl rfl) (fun n cs' y hn hcl hy => by
    obtain ⟨xs, m, rfl, hx, hxl, hf⟩ := trod_fields Tryz.underlying46 (by kernel_rfl) hy
    obtain ⟨c0, c1, rfl⟩ := len2 hcl
    obtain ⟨y0, y1, rfl⟩ := len2 hxl
    obtain ⟨s, e3, f3, _⟩ := DataW.trod_string Tryz.underlying9 (hf 0 _ _ _ rfl rfl rfl)
    obtain ⟨k0, e0, f0, _⟩ := DataW.trod_int Tryz.underlying3 (hf 1 _ _ _ rfl rfl rfl)
    cases e0; cases e3
    refine ⟨⟨s, k0⟩, RepEl.cons (.val _) (.cons (.val _) .nil), ?_⟩
    rw [hx]
    have hs := str_len s
    simp only [Rows.uptoBulk, Rows.uptoBulkAll, List.map_cons, List.map_nil, f0, f3, hs]
    omega)
  obtain ⟨fs_, v1, e1, r1, b1⟩ := trod_list (fun z : { f : Fl // n64L f.body } => z.1.enc) (fun z => z.1.name.size + z.1.types.length + r8nodes z.1.body) hown Tryz.underlying23 (N := 5) (by kernel_rfl) (by decide) (hf 1 _ _ _ rfl rfl rfl) (fun n cs' y hn hcl hy => by
    obtain ⟨xs, m, rfl, hx, hxl, hf⟩ := trod_fields Tryz.underlying41 (by kernel_rfl) hy
    obtain ⟨c0, c1, c2, c3, c4, rfl⟩ := len5 hcl
    obtain ⟨y0, y1, y2, y3, y4, rfl⟩ := len5 hxl
    obtain ⟨s, e3, f3, _⟩ := DataW.trod_string Tryz.underlying9 (hf 0 _ _ _ rfl rfl rfl)
    obtain ⟨k0, e0, f0, _⟩ := DataW.trod_int Tryz.underlying3 (hf 1 _ _ _ rfl rfl rfl)
    obtain ⟨k1, e1, f1, _⟩ := DataW.trod_int Tryz.underlying3 (hf 2 _ _ _ rfl rfl rfl)
    obtain ⟨ts_, v4, e4, r4, b4⟩ := trod_ints hown Tryz.underlying35 Tryz.underlying3 (by kernel_rfl) (hf 3 _ _ _ rfl rfl rfl)
    obtain ⟨q, v5, e5, r5, b5, q64⟩ := trod_nodes64 hown _ _ _ _ (Nat.lt_succ_self _) (hf 4 _ _ _ rfl rfl rfl)
    cases e0; cases e1; cases e3; cases e4; cases e5
    refine ⟨⟨⟨s, k0, k1, ts_, q⟩, q64⟩, RepEl.cons (.val _) (.cons (.val _) (.cons (.val _) (.cons r4 (.cons r5 .nil)))), ?_⟩
    rw [hx]
    have hs := str_len s
    simp only [Rows.uptoBulk, Rows.uptoBulkAll, List.map_cons, List.map_nil, f0, f1, f3, hs, r8nodes]
    omega)
  cases e0; cases e1
  refine ⟨⟨as_, fs_.map (·.1)⟩, RepEl.cons r0 (.cons ?_ .nil), ?_, fun f hf => ?_⟩
  ·unfold flws
   rw [List.map_map]
   exact r1
  ·rw [hx]
   have e9 : (fs_.map (·.1)).map (fun f => f.name.size + f.types.length + r8nodes f.body) = fs_.map fun z => z.1.name.size + z.1.types.length + r8nodes z.1.body := by rw [List.map_map]; rfl
   simp only [Rows.uptoBulk, Rows.uptoBulkAll, List.map_cons, List.map_nil, r8Weight, wtA_sum, wtF_sum, e9, List.length_map]
   omega
  obtain ⟨z, _, rfl⟩ := List.mem_map.1 hf
  exact z.2
end
set_option maxRecDepth 100000 in
theorem open_unit {H : Type} {enc : TypeId × Value → H} {W : World} {base b0 : Nat} {spare : Nat → Bool} {held : Bool} {r : Reach} {v : Value} {d : DataW H} {p : List MemPlace} (hv : Value.okWide Tryz.prog W r b0 25 v)
    (h : DataW.Trod enc Tryz.prog W base spare held 25 v d p) : ∃ u : Un, RepI (fun _ => False) (fun _ => none) (look (up [])) W (.pv u.enc) v ∧ r8Weight u ≤ Rows.uptoBulk d ∧ ∀ f ∈ u.flows, n64L f.body := by
  obtain ⟨cs, rfl, _⟩ := okWide_struct Tryz.underlying25 hv
  obtain ⟨fuel, hf⟩ := h
  obtain ⟨u, h1, h2, h3⟩ := trod_unit64 (own := owned (fun _ => False) (fun _ => none)) (fun _ _ => own_none) hf
  exact ⟨u, .pv _ _ (repEl_agg h1), h2, h3⟩
theorem bulk_of {H : Type} {l : List (DataW H)} (hk : Rows.uptoSmall H l = true) : Rows.uptoBulkAll l ≤ 1048576 := by
  unfold Rows.uptoSmall at hk
  exact of_decide_eq_true hk
def laidL : List (String × DataW Unit) := Rows.showAnyRow.laid
theorem tab_of {P : Program} {W : World} {name : String} {k : IntKind} {zs : List Int} {rest : List (String × DataW Unit)} {g : Nat} {t e : TypeId} {n : Nat} {ps : List MemPlace}
    (hg : P.globalNamed name = some g) (hty : (P.globals[g]?).map (·.type) = some t) (ht : P.underlying t = some (.array n e)) (he : P.underlying e = some (.int k)) (hce : P.cellsOf e = 1) (hct : P.cellsOf t = n)
    (h : DataW.LaidVars P W ((name, Lib.tabData k zs) :: rest) ps) : W.var? P name = some (zs.map fun z => Value.int k z).toArray := by
  obtain ⟨g', t', cs, fuel, p, q, hg', ht', hvar, hd, _, _⟩ := h
  obtain rfl := Option.some.inj (hg.symm.trans hg')
  obtain rfl := Option.some.inj (hty.symm.trans ht')
  rw [hvar, ← Lib.cells_of_tab ht he hce hct hd]
theorem kept_of {W : World} (h : laidMet Tryz.prog laidL W) : Kept W (owned (fun _ => False) fun _ => none) := by
  obtain ⟨ps, ⟨_, _, _, _, _, _, _, _, _, _, ⟨_, _, _, _, _, _, _, _, _, _, h3, _⟩, _⟩, _⟩ := h
  intro e he
  simp only [tabs, List.mem_singleton] at he
  subst he
  refine ⟨?_, own_none⟩
  have h4 := tab_of (P := Tryz.prog) (name := "internal/strconv.uint64pow10") (k := .u64) (zs := Lib.pow10Tab) (g := 0) (t := 150) (e := 131) (n := 20) (by kernel_rfl) (by kernel_rfl) Tryz.underlying150 Tryz.underlying131 (by kernel_rfl) (by kernel_rfl) h3
  unfold World.var? at h4
  rw [show Tryz.prog.globalNamed "internal/strconv.uint64pow10" = some 0 by kernel_rfl] at h4
  dsimp only [Option.bind_some, Option.bind] at h4
  split at h4
  ·rename_i cs T f hh
   cases h4
   exact ⟨T, f, hh⟩
  cases h4
def setTab (k : IntKind) (zs : List Int) : Obj → Obj
  | .cells _ t frozen => .cells (zs.map fun z => Value.int k z).toArray t frozen
  | o => o
def zsOf : DataW Unit → List Int
  | .agg l => l.map fun
    | .lit (.int _ z) => z
    | _ => 0
  | _ => []
noncomputable def laidWorld (os : Os) : World :=
  let w0 := World.holding Tryz.prog os ⟨#[], #[], []⟩
  { w0 with heap := ((w0.heap.modify 2 (setTab .u8 (zsOf Rows.laid_math_bits_deBruijn32tab))).modify 3 (setTab .u8 (zsOf Rows.laid_math_bits_deBruijn64tab))).modify 0 (setTab .u64 Lib.pow10Tab) }
set_option maxRecDepth 100000 in
theorem laidWorld_met (os : Os) (args : Array Value) : laidMet Tryz.prog laidL ((laidWorld os).forCall (fun _ _ => 0) ⟨#[], args, []⟩).memory :=
  laidMet_of_run' 8 (by kernel_rfl) (by kernel_rfl)
theorem returnsInHanded_of_cond_and {H : Type} {enc : TypeId × Value → H} {a : Assume} {C : Checked} {os : Os} {f : FuncId} {fn : Func} {s : OpenSpec} {k : (H : Type) → List (DataW H) → Bool} (hk : s.cond = some k) {F : Stop.Interp} {conds : List PathCond} {apart fresh handsOn again : Bool} {X : World → Array Value → Prop}
    (hX : ∀ (w w' : World) (args : Array Value), w.heap = w'.heap → X w args → X w' args)
    (own : ownKnob C.prog.godebug = none) (started : os.Started) (noInit : C.prog.inits.idxOf? f = none) (hfn : C.prog.funcs[f]? = some fn)
    (witness : ∃ (w : World) (tape : Tape) (i : Input), w.os = os ∧ (w.forCall tape i).Shaped C.prog ∧ i.vars = [] ∧ Input.okWide C.prog (w.forCall tape i) .any w.heap.size f i ∧
      ((s.pre enc C.prog fn conds apart (w.forCall tape i).memory i.args ∧ X (w.forCall tape i).memory i.args) ∧ sizedMet enc C.prog fn s apart (w.forCall tape i).memory i.args) ∧ a.holds C.prog (lone (Frame.enter C.prog f i.args .normal) [] (w.forCall tape i)))
    (contract : ∀ (W : World) (base : Nat) (args : Array Value) (ds gs : List (DataW H)) (before : List MemPlace),
      (∀ (j : Nat) t v, fn.params[j]? = some t → args[j]? = some v → Value.okWide C.prog W .any base t v) →
      DataW.Whole enc C.prog fn.params.toList s.vars apart W args.toList ds gs before → k H (ds ++ gs) = true → X W args →
      Calls C.prog f args W fun e W' => ∃ v, e = .returned v ∧ (s.at F).post enc C.prog fn apart fresh handsOn again W args v W') :
    ReturnsInHanded a C os f .any (fun w args => (s.pre enc C.prog fn conds apart w args ∧ X w args) ∧ sizedMet enc C.prog fn s apart w args) ((s.at F).post enc C.prog fn apart fresh handsOn again) := by
  refine returnsInHanded_of_calls own started noInit witness ?_
  intro w tape i _ _ _ hok hpre hholds
  obtain ⟨_, _, _, fn', hfn', _, _, _, _, hval⟩ := hok
  have e : fn' = fn := Option.some.inj (hfn'.symm.trans hfn)
  subst e
  obtain ⟨⟨hp0, hx⟩, _⟩ := hpre
  obtain ⟨ds, gs, before, hw, hc, hkk⟩ := (OpenSpec.pre_some hk conds apart _ _).1 hp0
  have hw' := DataW.Whole.of_heap (w' := w.forCall tape i) (by rfl) hw
  refine (contract (w.forCall tape i) w.heap.size i.args ds gs before hval hw' hkk (hX _ _ _ (by rfl) hx)).mono fun e W' ⟨v, he, hp⟩ => ?_
  subst he
  exact ChangeSpec.post_blind hp
set_option maxRecDepth 100000 in
theorem showAny_lifted (hsc : ∀ u : Un, r8Weight u ≤ 1048576 → (∀ f ∈ u.flows, n64L f.body) → SC Tryz.prog 3 [.pv u.enc] [] (fun k => k ∈ []) (iBool true) []) (os : Os) (started : os.Started) (H : Type) (enc : TypeId × Value → H) (F : Stop.Interp) :
    ReturnsInHanded {} Tryz.checked os 3 .any (fun w args => ((Rows.OpenSpec.upto Rows.showAnySpec).pre enc Tryz.prog Tryz.f3 Rows.showAnyUptoRow.domain false w args ∧ laidMet Tryz.prog laidL w) ∧ sizedMet enc Tryz.prog Tryz.f3 (Rows.OpenSpec.upto Rows.showAnySpec) false w args) (((Rows.OpenSpec.upto Rows.showAnySpec).at F).post enc Tryz.prog Tryz.f3 false true false false) := by
  have hx : DataW.whole enc Tryz.prog ((laidWorld os).forCall (fun _ _ => 0) ⟨#[], #[.agg #[.slice none 0 0, .slice none 0 0]], []⟩).memory Tryz.f3.params.toList (Rows.OpenSpec.upto Rows.showAnySpec).vars false [.agg #[.slice none 0 0, .slice none 0 0]] 8 = some ([.agg [.nil, .nil]], [], []) := by kernel_rfl
  refine returnsInHanded_of_cond_and (C := Tryz.checked) (s := Rows.OpenSpec.upto Rows.showAnySpec) (k := Rows.uptoSmall) rfl (X := fun w _ => laidMet Tryz.prog laidL w) (fun _ _ _ hh h => h.of_heap hh) Tryz.own started (by kernel_rfl) Tryz.func3
    ⟨laidWorld os, fun _ _ => 0, ⟨#[], #[.agg #[.slice none 0 0, .slice none 0 0]], []⟩, rfl, World.shaped_of_B (by kernel_rfl) (by kernel_rfl), rfl, (Input.okWide_of_okWideB (by kernel_rfl)).2,
      ⟨⟨(OpenSpec.pre_some rfl _ _ _ _).2 ⟨[.agg [.nil, .nil]], [], [], DataW.Whole_of_whole hx, rfl, by kernel_rfl⟩, laidWorld_met os _⟩, sizedMet_of_sizedB (fuel := 8) (by kernel_rfl)⟩, by
        simp only [Assume.holds]
        exact ⟨by simp, by simp, fun _ => Modest.zero, by simp, by simp⟩⟩ ?_
  intro W base args ds gs before hval0 hW hk hL
  have hval : ∀ (j : Nat) t v, Tryz.f3.params[j]? = some t → args[j]? = some v → Value.okWide Tryz.prog W .any base t v := hval0
  clear hval0
  have hW' := hW
  obtain ⟨p, q, hA0, hV, rfl, hfz, hnd⟩ := hW
  have hA : DataW.TrodAll enc Tryz.prog W 0 (fun _ => true) true Tryz.f3.params.toList args.toList ds p := hA0
  rw [Tryz.params3] at hA hval
  obtain ⟨v0, vs0, d0, ds0, p0, q0, hargs, rfl, rfl, h0, r0⟩ := trodAll_cons hA
  obtain ⟨rfl, rfl, rfl⟩ := trodAll_nil r0
  obtain rfl : args = #[v0] := by cases args; simp_all
  obtain ⟨rfl, rfl⟩ := trodVars_none hV
  obtain ⟨u, hu, hw, h64⟩ := open_unit (hval 0 25 v0 rfl rfl) h0
  have hb := bulk_of hk
  simp only [List.append_nil, Rows.uptoBulkAll] at hb
  refine (call_true (hsc u (by omega) h64) (kept_of hL) (repL_one hu)).mono ?_
  rintro e W' ⟨rfl, hos, hout, hbl⟩
  exact ⟨_, rfl, post_true Tryz.laidOut rfl hW' (fun t ht => by
    have ht' : t ∈ Tryz.f3.params.toList := ht
    rw [Tryz.params3] at ht'
    obtain rfl : t = 25 := by simpa using ht'
    exact ⟨by kernel_rfl, of_decide_eq_true (by kernel_rfl)⟩) (by kernel_rfl) Tryz.underlying4 rfl hos hout hbl⟩
theorem showAny_of (hsc : ∀ u : Un, r8Weight u ≤ 1048576 → (∀ f ∈ u.flows, n64L f.body) → SC Tryz.prog 3 [.pv u.enc] [] (fun k => k ∈ []) (iBool true) []) : Rows.ShowAnyUptoSaid :=
  OpenClaim.holds_of_cond 3 Tryz.f3 rfl rfl rfl rfl rfl rfl rfl ⟨rfl, rfl, rfl, rfl, rfl⟩ rfl rfl rfl rfl rfl (by kernel_rfl) Tryz.func3 (by kernel_rfl)
    (of_decide_eq_true (by kernel_rfl)) (by unfold Func.isWrapper; first | (rw [if_pos (by decide +kernel)]; kernel_rfl) | (rw [if_neg (by decide +kernel)]; exact ⟨rfl, rfl⟩))
    (fun os started H enc _ F => showAny_lifted hsc os started H enc F)
end
theorem showAny_holds : Rows.ShowAnyUptoSaid := showAny_of fun u hW h64 => sc_ShowAny u (Nat.le_trans hW (Nat.le_of_ble_eq_true rfl)) h64
theorem showAnyCard_holds : Rows.ShowAnyUptoCardSaid :=
  Claim7.holds_tied_plain_at .later [] [.data, .data, .data] true (true, "84563aa7610ad8d083a9852d4a05201b6768f8dd70055e04f99e7581d59bc703") false
    showAny_holds (fun _ h => by cases h) (by kernel_rfl) (fun _ h => by cases h) showAnyUpto_row_tie rfl ⟨rfl, rfl⟩ (by kernel_rfl) rfl
    (fun f fn hf hfn => by
      obtain rfl : f = 3 := Option.some.inj ((show Tryz.prog.funcNamed "boxhedge/boxhedgelaw09.ShowAny" = some 3 by kernel_rfl).symm.trans hf) |>.symm
      obtain rfl : fn = Tryz.f3 := (Option.some.inj (Tryz.func3.symm.trans hfn)).symm
      exact ⟨by kernel_rfl, fun j t ht => by
        rw [Tryz.params3] at ht
        have hm : t ∈ [25] := by
          have := Array.mem_of_getElem? ht
          simpa using this
        have hall : ([25].all fun u => !Tryz.prog.wantsStandIn u) = true := by kernel_rfl
        exact (show Tryz.prog.wantsStandIn t = false by simpa using List.all_eq_true.1 hall t hm)⟩)
    (by kernel_rfl)
end Go.Proofs.YtahpinmlgnfklaaGreatDoor
