/- PART 2 of 6 of a proof: see the last part. -/
import Derived.Test.YthbcibeddfacbaaGreatSs1
set_option maxRecDepth 8000
set_option maxHeartbeats 2000000
set_option linter.unusedSimpArgs false
set_option linter.unusedVariables false
set_option linter.unusedSectionVars false
namespace Go.Proofs.YthbcibeddfacbaaGreat
open Go
def andT (r : Bool × List Bool) (k : List Bool -> Bool × List Bool) : Bool × List Bool := if r.1 then k r.2 else (false, r.2)
def ne (l : List Nd) (r : Bool × List Bool) : Bool × List Bool := if l.isEmpty then (false, r.2) else r
mutual
def ndW : Nd -> Nat
  | .mk _ _ _ _ args outs params kids => 1 + args.length + outs.length + params.length + kdW kids
def lsW : List Nd -> Nat
  | [] => 0
  | x :: r => ndW x + lsW r
def kdW : List (List Nd) -> Nat
  | [] => 0
  | l :: r => 1 + lsW l + kdW r
end
def z1c (f : Fl) (x : Nd) (set : List Bool) : Bool × List Bool :=
  andS ((x.outs.length : Int) == 0 || !z09 x) set (z0p f.types set x.outs (List.replicate x.outs.length 0))
mutual
def z14 (u : Un) (f : Fl) (deep : Int) (w : Wh) (seen : List Int) (set : List Bool) : Nd -> Bool × List Bool
  | .mk kind op n name args outs params kids =>
    if !z0k (.mk kind op n name args outs params kids) then (false, set)
    else if kind == 10 then
      if z07 f.types seen args [2] then
        match kids with
        | a :: b :: _ =>
          andT (ne a (r8go u f (deep + 1) ⟨true, w.Loop, r8of f.types outs, w.Next, w.Left⟩ seen set a)) fun s1 =>
          andT (ne b (r8go u f (deep + 1) ⟨true, w.Loop, r8of f.types outs, w.Next, w.Left⟩ seen s1 b)) fun s2 =>
          z1c f (.mk kind op n name args outs params kids) s2
        | _ => (false, set)
      else (false, set)
    else if kind == 11 then
      if z07 f.types seen args (r8of f.types params) then
        andT (z0p f.types set params (List.replicate params.length 0)) fun s1 =>
        match kids with
        | a :: _ =>
          andT (ne a (r8go u f (deep + 1) ⟨false, true, [], r8of f.types params, r8of f.types outs⟩ (seen ++ params) s1 a)) fun s2 =>
          z1c f (.mk kind op n name args outs params kids) s2
        | _ => (false, s1)
      else (false, set)
    else z02 u f set (.mk kind op n name args outs params kids) seen w
def r8go (u : Un) (f : Fl) (deep : Int) (w : Wh) (all : List Int) (set : List Bool) : List Nd -> Bool × List Bool
  | [] => (true, set)
  | x :: r =>
    if deep > 100 then (false, set)
    else andT (z14 u f deep w all set x) fun s1 =>
      if z09 x != r.isEmpty then (false, s1)
      else r8go u f deep w (all ++ x.outs) s1 r
end
def z0l (u : Un) (f : Fl) (deep : Int) (w : Wh) (all : List Int) (set : List Bool) (l : List Nd) : Bool × List Bool := ne l (r8go u f deep w all set l)
theorem ze0 {b : Bool} {set : List Bool} {r : Bool × List Bool} {n : Nat} (h1 : set.length = n) (h2 : r.2.length = n) : (andS b set r).2.length = n := by unfold andS; split <;> assumption
theorem z5d {r : Bool × List Bool} {k : List Bool -> Bool × List Bool} {n : Nat} (h1 : r.2.length = n) (h2 : ∀ s, s.length = n -> (k s).2.length = n) : (andT r k).2.length = n := by
  unfold andT; split
  ·exact h2 _ h1
  exact h1
theorem z97 {l : List Nd} {r : Bool × List Bool} {n : Nat} (h : r.2.length = n) : (ne l r).2.length = n := by unfold ne; split <;> exact h
theorem y1u {p : Prop} [Decidable p] {a b : Bool × List Bool} {n : Nat} (h1 : a.2.length = n) (h2 : b.2.length = n) : (if p then a else b).2.length = n := by split <;> assumption
theorem zh4 (u : Un) (f : Fl) (set : List Bool) (x : Nd) (seen : List Int) (w : Wh) : (z02 u f set x seen w).2.length = set.length := by
  have hS : ∀ b l t, (andS b set (z0p f.types set l t)).2.length = set.length := fun b l t => ze0 rfl (z11 ..)
  unfold z02 z0r
  repeat' (first | exact hS _ _ _ | exact rfl | refine y1u ?_ ?_ | split)
theorem zc2 {f : Fl} {x : Nd} {set : List Bool} {n : Nat} (h : set.length = n) : (z1c f x set).2.length = n := ze0 h ((z11 ..).trans h)
mutual
theorem z6u (u : Un) (f : Fl) : ∀ (x : Nd) (deep : Int) (w : Wh) (seen : List Int) (set : List Bool), (z14 u f deep w seen set x).2.length = set.length
  | .mk kind op n name args outs params kids, deep, w, seen, set => by
    unfold z14
    split
    ·rfl
    split
    ·split
     ·match kids with
      | [] => rfl
      | [_] => rfl
      | a :: b :: _ =>
        refine z5d (z97 (z5m u f a ..)) fun s hs => z5d (z97 ((z5m u f b ..).trans hs)) fun s hs => zc2 hs
     rfl
    split
    ·split
     ·refine z5d (z11 ..) fun s hs => ?_
      match kids with
      | [] => exact hs
      | a :: _ => exact z5d (z97 ((z5m u f a ..).trans hs)) fun s hs => zc2 hs
     rfl
    exact zh4 ..
theorem z5m (u : Un) (f : Fl) : ∀ (l : List Nd) (deep : Int) (w : Wh) (all : List Int) (set : List Bool), (r8go u f deep w all set l).2.length = set.length
  | [], _, _, _, _ => by simp [r8go]
  | x :: r, deep, w, all, set => by
    unfold r8go
    split
    ·rfl
    refine z5d (z6u u f x ..) fun s hs => ?_
    split
    ·exact hs
    exact (z5m u f r ..).trans hs
end
theorem z31 (u : Un) (f : Fl) (deep : Int) (w : Wh) (all : List Int) (set : List Bool) (l : List Nd) : (z0l u f deep w all set l).2.length = set.length := z97 (z5m ..)
theorem z35 {u : Un} {f : Fl} {bt : TypeId} {set set' : List Bool} (h : set'.length = set.length) : ∀ k ob, look (up (ckHp u f bt set')) k = some ob -> zg8 ob = true ∨ (k = 3 /\ look (up (ckHp u f bt set)) k = some ob) := by
  intro k ob hk
  have hm := z3y hk
  simp only [ckHp, List.mem_cons, List.not_mem_nil, or_false, Prod.mk.injEq] at hm
  rcases hm with ⟨rfl, rfl⟩ | ⟨rfl, rfl⟩
  ·exact .inr ⟨rfl, by simp [ckHp, up, look, h]⟩
  refine .inl ?_
  simp [zg8, zc4, y17]
theorem z8n {x : Nd} (h : z0k x = true) : (x.kids.length : Int) = r8kn x := by
  simp only [z0k, Bool.and_eq_true, beq_iff_eq] at h
  exact h.1.2
theorem z3t {x : Nd} (h : z0k x = true) (hk : x.kind = 10) : ∃ a b, x.kids = [a, b] := by
  have := z8n h
  simp [r8kn, hk] at this
  match hx : x.kids with
  | [] => simp [hx] at this
  | [a] => simp [hx] at this
  | [a, b] => exact ⟨a, b, rfl⟩
  | a :: b :: c :: r => simp [hx] at this; omega
theorem z2n {x : Nd} (h : z0k x = true) (hk : x.kind = 11) : ∃ a, x.kids = [a] := by
  have := z8n h
  simp [r8kn, hk] at this
  match hx : x.kids with
  | [] => simp [hx] at this
  | [a] => exact ⟨a, rfl⟩
  | a :: b :: r => simp [hx] at this; omega
theorem z8o (u : Un) (f : Fl) (deep : Int) (w : Wh) (seen : List Int) (set : List Bool) {x : Nd} (h : z0k x = false) : z14 u f deep w seen set x = (false, set) := by
  cases x; unfold z14; simp [h]
theorem z16 (u : Un) (f : Fl) (deep : Int) (w : Wh) (seen : List Int) (set : List Bool) {x : Nd} {a b : List Nd} (h : z0k x = true) (hk : x.kind = 10) (hx : x.kids = [a, b]) :
    z14 u f deep w seen set x = if z07 f.types seen x.args [2] then
        andT (z0l u f (deep + 1) ⟨true, w.Loop, r8of f.types x.outs, w.Next, w.Left⟩ seen set a) fun s1 =>
        andT (z0l u f (deep + 1) ⟨true, w.Loop, r8of f.types x.outs, w.Next, w.Left⟩ seen s1 b) fun s2 => z1c f x s2
      else (false, set) := by
  cases x; simp only [Nd.kind, Nd.kids, Nd.args, Nd.outs] at *; subst hk hx; unfold z14; simp [h, z0l]; rfl
theorem z0e (u : Un) (f : Fl) (deep : Int) (w : Wh) (seen : List Int) (set : List Bool) {x : Nd} {a : List Nd} (h : z0k x = true) (hk : x.kind = 11) (hx : x.kids = [a]) :
    z14 u f deep w seen set x = if z07 f.types seen x.args (r8of f.types x.params) then
        andT (z0p f.types set x.params (List.replicate x.params.length 0)) fun s1 =>
        andT (z0l u f (deep + 1) ⟨false, true, [], r8of f.types x.params, r8of f.types x.outs⟩ (seen ++ x.params) s1 a) fun s2 => z1c f x s2
      else (false, set) := by
  cases x; simp only [Nd.kind, Nd.kids, Nd.args, Nd.outs, Nd.params] at *; subst hk hx; unfold z14; simp [h, z0l]; rfl
theorem z6v (u : Un) (f : Fl) (deep : Int) (w : Wh) (seen : List Int) (set : List Bool) {x : Nd} (h : z0k x = true) (h1 : (x.kind == 10) = false) (h2 : (x.kind == 11) = false) :
    z14 u f deep w seen set x = z02 u f set x seen w := by
  cases x; simp only [Nd.kind] at *; unfold z14; simp [h, h1, h2]
theorem z96 (x : Nd) : ndW x = 1 + x.args.length + x.outs.length + x.params.length + kdW x.kids := by cases x; simp [ndW, Nd.args, Nd.outs, Nd.params, Nd.kids]
theorem ck_row {u : Un} {f : Fl} {bt : TypeId} {s s' : List Bool} {k : Nat} {o o2 : Option HO} : look ((k, o) :: (up (ckHp u f bt s') ++ ((k, o2) :: up (ckHp u f bt s)))) = look ((k, o) :: up (ckHp u f bt s')) := by
  funext j
  simp only [look]
  cases hkj : Nat.beq k j with
  | true => rfl
  | false =>
    simp only [cond_false]
    rw [z2c]
    simp only [look, hkj, cond_false, ckHp, up, List.map_cons, List.map_nil]
    cases Nat.beq 3 j <;> cases Nat.beq 4 j <;> rfl
theorem ck_row' {u : Un} {f : Fl} {bt : TypeId} {s s' : List Bool} {k : Nat} {t : RT} {al l : List Int} {o2 : Option HO} : look ((k, some (.row t (al.map eInt ++ l.map eInt))) :: (up (ckHp u f bt s') ++ ((k, o2) :: up (ckHp u f bt s)))) = look ((k, some (.row t ((al ++ l).map eInt))) :: up (ckHp u f bt s')) := by
  rw [ck_row, List.map_append]
theorem zh3 {u : Un} {f : Fl} {deep : Int} {w : Wh} {all : List Int} {set : List Bool} {l : List Nd} {k : Nat} (h : k < l.length) : z0l u f deep w all set l = r8go u f deep w all set l := by
  unfold z0l ne
  rw [if_neg]
  simp
  intro e; subst e; simp at h
theorem z5x {l : List Nd} {k : Nat} (h : k < l.length) : (l.drop (k + 1)).isEmpty = ((k : Int) == (l.length : Int) - 1) := by
  by_cases e : k + 1 = l.length
  ·rw [List.drop_eq_nil_of_le oM0]
   have : (k : Int) = (l.length : Int) - 1 := by omega
   simp [this]
  have h1 : l.drop (k + 1) ≠ [] := fun h0 => by have := congrArg List.length h0; simp at this; omega
  have h2 : ¬ (k : Int) = (l.length : Int) - 1 := by omega
  rw [beq_eq_false_iff_ne.2 h2]
  cases hq : l.drop (k + 1) with
  | nil => exact absurd hq h1
  | cons => rfl
theorem ba_sz (s : ByteArray) : s.data.toList.length = s.size := rfl
theorem y38 (s : ByteArray) : ∀ (n i : Nat) (acc : List UInt8), s.size - i = n -> ByteArray.toList.loop s i acc = acc.reverse ++ s.data.toList.drop i
  | 0, i, acc, h => by
    rw [ByteArray.toList.loop]
    have : ¬ i < s.size := by omega
    rw [if_neg this, List.drop_eq_nil_of_le (by rw [ba_sz]; omega)]
    simp
  | n + 1, i, acc, h => by
    rw [ByteArray.toList.loop]
    have hi : i < s.size := by omega
    rw [if_pos hi, y38 s n (i + 1) _ oM0]
    have hi2 : i < s.data.toList.length := by rw [ba_sz]; exact hi
    rw [List.drop_eq_getElem_cons hi2]
    have hget : s.get! i = s.data.toList[i] := by
      show s.data[i]! = _
      rw [getElem!_pos s.data i hi]
      rfl
    simp [hget]
theorem z6a (s : ByteArray) : s.toList = s.data.toList := by
  rw [ByteArray.toList, y38 s _ 0 [] rfl]; simp
theorem z8c (s : ByteArray) : s.toList.length = s.size := by rw [z6a]; rfl
theorem y0u {s : ByteArray} {i : Nat} (h : i < s.toList.length) : s[i]? = some (s.toList[i]) := by
  have h2 : i < s.size := by rwa [z8c] at h
  rw [getElem?_pos s i h2]
  congr 1
  simp only [z6a]
  rfl
def z1z (n : Int) : Bool := (decide (n ≥ 97) && decide (n <= 122)) || (decide (n ≥ 65) && decide (n <= 90)) || n == 95
def z6p (n : Int) : Bool := decide (n ≥ 48) && decide (n <= 57)
def isLD (b : UInt8) : Bool := z1z b.toNat || z6p b.toNat
def z0u (s : ByteArray) : Bool := s.toList == ByteArray.toList ⟨#[105, 110, 116]⟩ || s.toList == ByteArray.toList ⟨#[98, 111, 111, 108]⟩ || s.toList == ByteArray.toList ⟨#[105, 102]⟩ || s.toList == ByteArray.toList ⟨#[101, 108, 115, 101]⟩ || s.toList == ByteArray.toList ⟨#[119, 104, 105, 108, 101]⟩ || s.toList == ByteArray.toList ⟨#[98, 114, 101, 97, 107]⟩ || s.toList == ByteArray.toList ⟨#[99, 111, 110, 116, 105, 110, 117, 101]⟩ || s.toList == ByteArray.toList ⟨#[114, 101, 116, 117, 114, 110]⟩ || s.toList == ByteArray.toList ⟨#[112, 114, 105, 110, 116]⟩ || s.toList == ByteArray.toList ⟨#[114, 101, 97, 100]⟩ || s.toList == ByteArray.toList ⟨#[116, 114, 117, 101]⟩ || s.toList == ByteArray.toList ⟨#[102, 97, 108, 115, 101]⟩ || s.toList == ByteArray.toList ⟨#[105, 56]⟩ || s.toList == ByteArray.toList ⟨#[105, 49, 54]⟩ || s.toList == ByteArray.toList ⟨#[105, 51, 50]⟩ || s.toList == ByteArray.toList ⟨#[117, 56]⟩ || s.toList == ByteArray.toList ⟨#[117, 49, 54]⟩ || s.toList == ByteArray.toList ⟨#[117, 51, 50]⟩
def z45 (s : ByteArray) : Bool := !(s.toList == []) && decide ((s.size : Int) <= 20) && z1z (s.toList.headD 0).toNat && !z0u s && s.toList.all isLD
mutual
def wtN : Nd -> Nat
  | .mk _ _ _ name args outs params kids => args.length + outs.length + params.length + name.size + wtK kids
def wtL : List Nd -> Nat
  | [] => 0
  | x :: r => wtN x + wtL r
def wtK : List (List Nd) -> Nat
  | [] => 0
  | l :: r => 1 + (l.length + wtL l) + wtK r
end
theorem wtN_eq (x : Nd) : wtN x = x.args.length + x.outs.length + x.params.length + x.name.size + wtK x.kids := by cases x; simp [wtN, Nd.args, Nd.outs, Nd.params, Nd.kids, Nd.name]
def z4c (l : List Nd) : Nat := l.length + wtL l
def wtA : List Ar -> Nat
  | [] => 0
  | a :: r => a.name.size + wtA r
def wtF : List Fl -> Nat
  | [] => 0
  | f :: r => f.name.size + f.types.length + z4c f.body + wtF r
def z20 (u : Un) : Nat := u.arrays.length + u.flows.length + wtA u.arrays + wtF u.flows
mutual
def y53 : Nd -> Nd -> Bool
  | .mk k o n s a u p ks, .mk k' o' n' s' a' u' p' ks' => k == k' && o == o' && n == n' && s.toList == s'.toList && ks.length == ks'.length && a == a' && u == u' && p == p' && zi2 ks ks'
def z4d : List Nd -> List Nd -> Bool
  | [], [] => true
  | x :: a, y :: b => y53 x y && z4d a b
  | _, _ => false
def zi2 : List (List Nd) -> List (List Nd) -> Bool
  | [], [] => true
  | x :: a, y :: b => z4d x y && zi2 a b
  | _, _ => false
end
def z67 (x y : Nd) : Bool := x.kind == y.kind && x.op == y.op && x.n == y.n && x.name.toList == y.name.toList && x.kids.length == y.kids.length && x.args == y.args && x.outs == y.outs && x.params == y.params
theorem z55 (x y : Nd) : y53 x y = (z67 x y && zi2 x.kids y.kids) := by cases x; cases y; simp [y53, z67, Nd.kind, Nd.op, Nd.n, Nd.name, Nd.args, Nd.outs, Nd.params, Nd.kids]
theorem zv9 : ∀ {a b : List Nd}, a.length ≠ b.length -> z4d a b = false
  | [], [], h => absurd rfl h
  | [], _ :: _, _ => by simp [z4d]
  | _ :: _, [], _ => by simp [z4d]
  | x :: a, y :: b, h => by simp [z4d, zv9 (a := a) (b := b) (by simpa using h)]
def z9c (f g : Fl) : Bool := f.name.toList == g.name.toList && f.ty == g.ty && f.params == g.params && f.types == g.types && z4d f.body g.body
def z4j : List Fl -> List Fl -> Bool
  | [], [] => true
  | x :: a, y :: b => z9c x y && z4j a b
  | _, _ => false
def y2c (f g : Ar) : Bool := f.name.toList == g.name.toList && f.size == g.size
def z8f : List Ar -> List Ar -> Bool
  | [], [] => true
  | x :: a, y :: b => y2c x y && z8f a b
  | _, _ => false
def z74 (u v : Un) : Bool := u.arrays.length == v.arrays.length && u.flows.length == v.flows.length && z8f u.arrays v.arrays && z4j u.flows v.flows
theorem zd3 {a b : Nat} {x y : Option HO} {hp : Hp} {f : Nat -> Option HO} (h1 : f a = x) (h2 : f b = y) (h3 : ∀ k, k ≠ a -> k ≠ b -> f k = look hp k) (hab : a ≠ b) : f = look ((a, x) :: (b, y) :: hp) := by
  funext k
  simp only [look]
  by_cases ha : a = k
  · subst ha; simp [h1]
  · by_cases hb : b = k
    · subst hb; simp [z00 hab, h2]
    · simp [z00 ha, z00 hb, h3 k (Ne.symm ha) (Ne.symm hb)]
def z0f : ByteArray := ⟨#[109, 97, 105, 110]⟩
def gArr (u : Un) (a : Ar) (i : Int) : Bool := z45 a.name && !decide (a.size < 1) && !decide (a.size > 1000) && (z1j a.name u.arrays 0 == i) && !decide (z0a a.name u.flows 0 ≥ 0)
def r8gA (u : Un) : List Ar -> Int -> Bool
  | [], _ => true
  | a :: r, i => gArr u a i && r8gA u r (i + 1)
def gFlw (u : Un) (f : Fl) (i : Int) : Bool := z45 f.name && (z0a f.name u.flows 0 == i) && (f.ty == 1 || f.ty == 2) && !decide (f.params < 0) && !decide (f.params > f.types.length)
def r8gF (u : Un) : List Fl -> Int -> Bool
  | [], _ => true
  | f :: r, i => gFlw u f i && r8gF u r (i + 1)
def zs7 : Fl := ⟨⟨#[]⟩, 0, 0, [], []⟩
def z76 (u : Un) : Bool := decide (z0a z0f u.flows 0 ≥ 0) && (u.flows.getD (z0a z0f u.flows 0).toNat zs7).ty == 1 && (u.flows.getD (z0a z0f u.flows 0).toNat zs7).params == 0
def z0z (u : Un) : Bool := r8gA u u.arrays 0 && r8gF u u.flows 0 && z76 u
theorem y1a {u : Un} : ∀ {l : List Fl} {i : Int}, r8gF u l i = true -> ∀ g ∈ l, 0 <= g.params /\ g.params <= g.types.length
  | [], _, _, g, hg => by simp at hg
  | f :: r, i, h, g, hg => by
    simp only [r8gF, Bool.and_eq_true] at h
    rcases List.mem_cons.1 hg with rfl | hg
    · have := h.1
      simp only [gFlw, Bool.and_eq_true, Bool.not_eq_true', decide_eq_false_iff_not] at this
      omega
    · exact y1a h.2 g hg
theorem z75 {u : Un} (h : z0z u = true) : ∀ g ∈ u.flows, 0 <= g.params /\ g.params <= g.types.length := by
  simp only [z0z, Bool.and_eq_true] at h
  exact y1a h.1.2
def z21 : Wh := ⟨false, false, [], [], []⟩
def iota (n : Nat) : List Int := (List.range n).map fun (i : Nat) => (i : Int)
def z2u (k n : Nat) : List Bool := List.replicate k true ++ List.replicate (n - k) false
def z2v (u : Un) (f : Fl) : Bool := !decide (f.params < 0) && !decide (f.params > 8) && !decide (f.params > f.types.length) && !decide ((f.types.length : Int) > 20000) && f.types.all (fun t => t == 1 || t == 2) &&
  (z0l u f 1 z21 (iota f.params.toNat) (z2u f.params.toNat f.types.length) f.body).1
theorem y46 (n : Nat) : iota n ++ [(n : Int)] = iota (n + 1) := by simp [iota, List.range_succ]
theorem z8l (n : Nat) : (iota n).length = n := by simp [iota]
theorem z2x {k n : Nat} (h : k <= n) : (z2u k n).length = n := by simp [z2u]; omega
theorem y1r {k n : Nat} (h : k < n) : (z2u k n).set k true = z2u (k + 1) n := by
  unfold z2u
  rw [List.set_append_right _ _ sI0, List.length_replicate, Nat.sub_self]
  have : n - k = (n - (k + 1)) + 1 := by omega
  rw [this, List.replicate_succ, List.set_cons_zero, List.replicate_succ', List.append_assoc]
  rfl
def z4a (u : Un) : List Fl -> Int -> Int × Int
  | [], _ => (0, 0)
  | f :: r, i => if z2v u f then z4a u r (i + 1) else (80, i)
def z2i (u : Un) : Int × Int := if z0z u then z4a u u.flows 0 else (1, 0)
mutual
theorem ndW_le : ∀ x : Nd, ndW x <= 1 + wtN x
  | .mk k o n s a t p ks => by
    have := kdW_le ks
    simp only [ndW, wtN]
    omega
theorem y4d : ∀ l : List Nd, lsW l <= l.length + wtL l
  | [] => by simp [lsW]
  | x :: r => by
    have h1 := ndW_le x
    have h2 := y4d r
    simp only [lsW, wtL, List.length_cons]
    omega
theorem kdW_le : ∀ l : List (List Nd), kdW l <= wtK l
  | [] => by simp [kdW]
  | x :: r => by
    have h1 := y4d x
    have h2 := kdW_le r
    simp only [kdW, wtK]
    omega
end
theorem y69 : ∀ {l : List Fl} {f : Fl}, f ∈ l -> z4c f.body <= wtF l
  | g :: r, f, h => by
    rcases List.mem_cons.1 h with rfl | h
    · simp only [wtF]; omega
    · have := y69 h; simp only [wtF]; omega
theorem zo3 {u : Un} (h : z20 u <= 536870912) {f : Fl} (hf : f ∈ u.flows) : lsW f.body <= 536870912 := by
  have h1 := y69 hf
  have h2 := y4d f.body
  unfold z20 z4c at *
  omega
section
structure Gn where
  pos : Nat
  types : List Int
  left : Nat
structure Plc where
  If : Bool
  Loop : Bool
  Yield : List Int
  Next : List Int
  Left : List Int
def plc0 : Plc := ⟨false, false, [], [], []⟩
section
variable (l : List UInt8)
def z01 (n : Nat) (g : Gn) : Nat × Gn := (if g.pos + 1 > l.length ∨ g.pos + 1 > 150 then 0 else (l.getD g.pos 0).toNat % n, { g with pos := g.pos + 1 })
def z0c (t : Int) (g : Gn) : Int × Gn := (g.types.length, { g with types := g.types ++ [t] })
def gS1 (tys : List Int) (t : Int) : Bool -> Int -> Int -> List Int -> Int
  | _, _, v, [] => v
  | b, k, v, s :: r => if tys.getD s.toNat 0 == t && (b || decide (k > 0)) then gS1 tys t false (k - 1) s r else gS1 tys t false k v r
def gS2 (tys : List Int) (t : Int) : Int -> List Int -> Int
  | v, [] => v
  | v, s :: r => if tys.getD v.toNat 0 != t then gS2 tys t (if tys.getD s.toNat 0 == t then s else v) r else v
def z8y (seen : List Int) (t : Int) (g : Gn) : Int × Gn :=
  (gS2 g.types t (gS1 g.types t true (z01 l 8 g).1 0 seen) seen, (z01 l 8 g).2)
def z1p (seen : List Int) : List Int -> Gn -> List Int × Gn
  | [], g => ([], g)
  | t :: r, g => ((z8y l seen t g).1 :: (z1p seen r (z8y l seen t g).2).1, (z1p seen r (z8y l seen t g).2).2)
def gTyN : Nat -> Gn -> List Int × Gn
  | 0, g => ([], g)
  | n + 1, g => ((1 + ((z01 l 2 g).1 : Int)) :: (gTyN n (z01 l 2 g).2).1, (gTyN n (z01 l 2 g).2).2)
def z0x (g : Gn) : List Int × Gn := gTyN l (z01 l 3 g).1 (z01 l 3 g).2
def z0q : List Int -> Gn -> List Int × Gn
  | [], g => ([], g)
  | t :: r, g => ((z0c t g).1 :: (z0q r (z0c t g).2).1, (z0q r (z0c t g).2).2)
def z63 : ByteArray := ⟨#[97]⟩
def z2t : ByteArray := ⟨#[102]⟩
def z0n : ByteArray := ⟨#[]⟩
def gNums : List Int := [0, 1, 2, 3, -1, 100]
def zt2 : List Int := [20, 21, 23, 27]
def z1v (kind op n : Int) (name : ByteArray) (seen ins outs : List Int) (g : Gn) : Nd × Gn :=
  (.mk kind op n name (z1p l seen ins g).1 (z0q outs (z1p l seen ins g).2).1 [] [], (z0q outs (z1p l seen ins g).2).2)
def z0w (seen : List Int) (g0 : Gn) : Nd × Gn :=
  let k := (z01 l 12 g0).1
  let g := (z01 l 12 g0).2
  if k = 0 then z1v l 1 0 (gNums.getD (z01 l 6 g).1 0) z0n seen [] [1] (z01 l 6 g).2
  else if k = 1 then z1v l 2 0 (z01 l 2 g).1 z0n seen [] [2] (z01 l 2 g).2
  else if k = 2 then z1v l 3 (zt2.getD (z01 l 4 g).1 0) 0 z0n seen [1] [1] (z01 l 4 g).2
  else if k = 3 then z1v l 3 22 0 z0n seen [2] [2] g
  else if k = 4 ∨ k = 5 ∨ k = 6 then z1v l 4 (1 + ((z01 l 11 g).1 : Int)) 0 z0n seen [1, 1] [1] (z01 l 11 g).2
  else if k = 7 ∨ k = 8 then z1v l 4 (12 + ((z01 l 6 g).1 : Int)) 0 z0n seen [1, 1] [2] (z01 l 6 g).2
  else if k = 9 then z1v l 5 0 0 z63 seen [1] [1] g
  else if k = 10 then z1v l 6 0 0 z63 seen [1, 1] [] g
  else if (z01 l 4 g).1 = 0 then z1v l 7 0 0 z2t seen [1, 2] [1] (z01 l 4 g).2
  else if (z01 l 4 g).1 = 1 then z1v l 8 0 0 z0n seen [] [1] (z01 l 4 g).2
  else z1v l 9 0 0 z0n seen [1] [] (z01 l 4 g).2
def gEnd (seen : List Int) (p : Plc) (g0 : Gn) : Nd × Gn :=
  let k := (z01 l 6 g0).1
  let g := (z01 l 6 g0).2
  if p.If = true /\ k < 4 then z1v l 12 0 0 z0n seen p.Yield [] g
  else if p.Loop = true /\ k % 2 = 0 then z1v l 13 0 0 z0n seen p.Next [] g
  else if p.Loop = true then z1v l 14 0 0 z0n seen p.Left [] g
  else z1v l 15 0 0 z0n seen [1] [] g
abbrev GRec := List Int -> Plc -> Gn -> List Nd × Gn
def z6o (x : List Int -> Nd) (t : List Int) (g : Gn) : Nd × Gn := if z09 (x []) then (x [], g) else (x (z0q t g).1, (z0q t g).2)
def gIf (rec : GRec) (all : List Int) (p : Plc) (g : Gn) : Nd × Gn :=
  let t := z0x l g
  let x : Plc := ⟨true, p.Loop, t.1, p.Next, p.Left⟩
  let c := z1p l all [2] t.2
  let a := rec all x c.2
  let b := rec all x a.2
  z6o (fun o => .mk 10 0 0 z0n c.1 o [] [a.1, b.1]) t.1 b.2
def z8b (rec : GRec) (all : List Int) (g : Gn) : Nd × Gn :=
  let t := z0x l g
  let o := z0x l t.2
  let a := z1p l all t.1 o.2
  let q := z0q t.1 a.2
  let b := rec (all ++ q.1) ⟨false, true, [], t.1, o.1⟩ q.2
  z6o (fun z => .mk 11 0 0 z0n a.1 z q.1 [b.1]) o.1 b.2
def gAny (rec : Option GRec) (all : List Int) (p : Plc) (g : Gn) : Nd × Gn :=
  let s := z0w l all { g with left := g.left - 1 }
  let k := z01 l 6 s.2
  match rec with
  | none => (s.1, k.2)
  | some rec => if k.1 = 0 then gIf l rec all p k.2 else if k.1 = 1 then z8b l rec all k.2 else (s.1, k.2)
def z3a (rec : Option GRec) (p : Plc) : Nat -> List Nd -> List Int -> Gn -> List Nd × Gn
  | 0, out, all, g => (out ++ [(gEnd l all p g).1], (gEnd l all p g).2)
  | i + 1, out, all, g =>
    if g.left = 0 then (out ++ [(gEnd l all p g).1], (gEnd l all p g).2)
    else
      let x := gAny l rec all p g
      if z09 x.1 then (out ++ [x.1], x.2) else z3a rec p i (out ++ [x.1]) (all ++ x.1.outs) x.2
def z2y : Nat -> GRec
  | 0, seen, p, g => z3a l none p (z01 l 6 g).1 [] seen (z01 l 6 g).2
  | d + 1, seen, p, g => z3a l (some (z2y d)) p (z01 l 6 g).1 [] seen (z01 l 6 g).2
def zf4 (i b : Int) : List Nd := [.mk 1 0 3 z0n [] [i] [] [], .mk 2 0 1 z0n [] [b] [] []]
def z22 (name : ByteArray) (params : List Int) (g0 : Gn) : Fl × Gn :=
  let s := z0q params { g0 with types := [], left := 30 }
  let i := z0c 1 s.2
  let b := z0c 2 i.2
  let r := z2y l 3 (s.1 ++ [i.1, b.1]) plc0 b.2
  (⟨name, 1, params.length, r.2.types, zf4 i.1 b.1 ++ r.1⟩, r.2)
def made : Un :=
  let m := z22 l z0f [] ⟨0, [], 0⟩
  ⟨[⟨z63, 4⟩], [m.1, (z22 l z2t [1, 2] m.2).1]⟩
end
end
def w64 (n : Int) : Int := IntKind.i64.wrap n
def andI (a b : Int) : Int := IntKind.i64.wrap (BitVec.ofInt IntKind.i64.bits a &&& BitVec.ofInt IntKind.i64.bits b).toNat
def orI (a b : Int) : Int := IntKind.i64.wrap (BitVec.ofInt IntKind.i64.bits a ||| BitVec.ofInt IntKind.i64.bits b).toNat
def xorI (a b : Int) : Int := IntKind.i64.wrap (BitVec.ofInt IntKind.i64.bits a ^^^ BitVec.ofInt IntKind.i64.bits b).toNat
def zu0 (b : Bool) : Int := if b then 1 else 0
def mOne (op a : Int) : Int :=
  if op == 20 then w64 (0 - a) else if op == 21 then w64 (-1 - a) else if op == 22 then zu0 (a == 0)
  else if op == 26 then andI a 255 else if op == 27 then andI a 65535 else if op == 28 then andI a 4294967295
  else if op == 23 then w64 (xorI (andI a 255) 128 - 128) else if op == 24 then w64 (xorI (andI a 65535) 32768 - 32768)
  else if op == 25 then w64 (xorI (andI a 4294967295) 2147483648 - 2147483648) else 0
def mTwo (op a b : Int) : Int × Bool :=
  if op == 1 then (w64 (a + b), true) else if op == 2 then (w64 (a - b), true) else if op == 3 then (w64 (a * b), true)
  else if op == 4 || op == 5 then (if b == 0 then (0, false) else if op == 4 then (w64 (a.tdiv b), true) else (a.tmod b, true))
  else if op == 6 then (andI a b, true) else if op == 7 then (orI a b, true) else if op == 8 then (xorI a b, true)
  else if op == 9 then (w64 (a * 2 ^ min (andI b 63).toNat IntKind.i64.bits), true) else if op == 10 then (a.fdiv (2 ^ min (andI b 63).toNat IntKind.i64.bits), true)
  else if op == 11 then (w64 ((IntKind.u64.wrap a).fdiv (2 ^ min (andI b 63).toNat IntKind.u64.bits)), true)
  else if op == 12 then (zu0 (decide (a < b)), true) else if op == 13 then (zu0 (decide (a <= b)), true) else if op == 14 then (zu0 (decide (a > b)), true)
  else if op == 15 then (zu0 (decide (a ≥ b)), true) else if op == 16 then (zu0 (a == b), true) else if op == 17 then (zu0 (a != b), true) else (0, false)
theorem y1l (b : Int) : 0 <= andI b 63 := by
  unfold andI
  have h : (BitVec.ofInt IntKind.i64.bits b &&& BitVec.ofInt IntKind.i64.bits 63).toNat <= 63 := by
    rw [BitVec.toNat_and]
    have : (BitVec.ofInt IntKind.i64.bits 63).toNat = 63 := by decide
    rw [this]
    exact Nat.and_le_right
  rw [IntWalk.i64_in _ oM0]
  omega
structure Rs where
  ins : List Int
  ar : List (List Int)
  st : Int
  code : Int
  out : List Int
  cost : Int
  fuel : Int
  spent : Bool
def z4i (s : Rs) : Bool := s.spent || s.st != 0
def z9v (s : Rs) : Bool × Rs := if z4i s then (false, s) else if s.fuel < 1 then (false, { s with spent := true }) else (true, { s with fuel := w64 (s.fuel - 1) })
def getV (v : List Int) (i : Int) : Option Int := if 0 <= i then v[i.toNat]? else none
def setV (v : List Int) (i x : Int) : Option (List Int) := if 0 <= i /\ i.toNat < v.length then some (v.set i.toNat x) else none
def mOf (v : List Int) : List Int -> Option (List Int)
  | [] => some []
  | i :: r => (getV v i).bind fun x => (mOf v r).map fun y => x :: y
def mSet (v : List Int) : List Int -> List Int -> Option (List Int)
  | [], _ => some v
  | _ :: _, [] => none
  | i :: r, x :: n => (setV v i x).bind fun v' => mSet v' r n
def mCell (s : Rs) (k n : Int) : Option (Bool × Rs) :=
  if n < 0 then some (false, { s with st := 3 })
  else if 0 <= k then (s.ar[k.toNat]?).bind fun row => if n ≥ row.length then some (false, { s with st := 3 }) else some (true, s) else none
abbrev Rend := Int × List Int
abbrev Rres := Rend × List Int × Rs
def z93 (rec : List Nd -> List Int -> Rs -> Option Rres) (recLoop : Nd -> List Int -> List Int -> Rs -> Option Rres) (recSum : Nd -> List Int -> Rs -> Option (Int × Rs)) (x : Nd) (a v : List Int) (s : Rs) : Option Rres :=
  if x.kind == 1 || x.kind == 2 then (x.outs[0]?).bind fun o => (setV v o x.n).map fun v' => ((0, []), v', s)
  else if x.kind == 12 || x.kind == 13 || x.kind == 14 || x.kind == 15 then some ((x.kind, a), v, s)
  else if x.kind == 10 then (a[0]?).bind fun a0 => (x.kids[if a0 != 0 then 0 else 1]?).bind fun q => (rec q v s).bind fun r =>
    if !z4i r.2.2 && r.1.1 == 12 then (mSet r.2.1 x.outs r.1.2).map fun v' => ((0, []), v', r.2.2) else some r
  else if x.kind == 11 then recLoop x v a s
  else (recSum x a s).bind fun r => if !z4i r.2 && decide (0 < x.outs.length) then (x.outs[0]?).bind fun o => (setV v o r.1).map fun v' => ((0, []), v', r.2) else some ((0, []), v, r.2)
mutual
def z5u (u : Un) : Nat -> List Nd -> List Int -> Rs -> Option Rres
  | 0, _, _, _ => none
  | _ + 1, [], v, s => some ((0, []), v, s)
  | d + 1, x :: l, v, s =>
    match z9v s with
    | (false, s) => some ((0, []), v, s)
    | (true, s) => (mOf v x.args).bind fun a => (z93 (z5u u d) (zc5 u d) (mSum u d) x a v s).bind fun r =>
      if z4i r.2.2 || r.1.1 != 0 then some r else z5u u d l r.2.1 r.2.2
def zc5 (u : Un) : Nat -> Nd -> List Int -> List Int -> Rs -> Option Rres
  | 0, _, _, _, _ => none
  | d + 1, x, v, a, s => (mSet v x.params a).bind fun v => (x.kids[0]?).bind fun q => (z5u u d q v s).bind fun r =>
    if z4i r.2.2 || r.1.1 == 15 then some r
    else if r.1.1 == 14 then (mSet r.2.1 x.outs r.1.2).map fun v => ((0, []), v, r.2.2)
    else zc5 u d x r.2.1 r.1.2 r.2.2
def mSum (u : Un) : Nat -> Nd -> List Int -> Rs -> Option (Int × Rs)
  | 0, _, _, _ => none
  | d + 1, x, a, s0 =>
    let s := { s0 with cost := w64 (s0.cost + 1) }
    let k := z1j x.name u.arrays 0
    if x.kind == 3 then (a[0]?).map fun a0 => (mOne x.op a0, s)
    else if x.kind == 4 then (a[0]?).bind fun a0 => (a[1]?).map fun a1 => ((mTwo x.op a0 a1).1, if (mTwo x.op a0 a1).2 then s else { s with st := 2 })
    else if x.kind == 5 then (a[0]?).bind fun a0 => (mCell s k a0).bind fun r => if r.1 then (s.ar[k.toNat]?).bind fun row => (row[a0.toNat]?).map fun y => (y, s) else some (0, r.2)
    else if x.kind == 6 then (a[0]?).bind fun a0 => (mCell s k a0).bind fun r => if r.1 then (a[1]?).bind fun a1 => (s.ar[k.toNat]?).map fun row => (0, { s with ar := s.ar.set k.toNat (row.set a0.toNat a1) }) else some (0, r.2)
    else if x.kind == 7 then zf8 u d (z0a x.name u.flows 0) a s
    else if x.kind == 9 then (a[0]?).bind fun a0 => if s.out.length < 1073741824 then some (0, { s with out := s.out ++ [a0] }) else none
    else if x.kind == 8 then (match s.ins with | [] => some (0, { s with st := 4 }) | y :: r => some (y, { s with ins := r }))
    else some (0, s)
def zf8 (u : Un) : Nat -> Int -> List Int -> Rs -> Option (Int × Rs)
  | 0, _, _, _ => none
  | d + 1, k, a, s => if 0 <= k then (u.flows[k.toNat]?).bind fun f => if a.length <= f.types.length /\ f.types.length <= 1073741824 then
      (z5u u d f.body (a ++ List.replicate (f.types.length - a.length) 0) s).bind fun r => if z4i r.2.2 then some (0, r.2.2) else some (r.1.2.headD 0, r.2.2) else none else none
end
section
variable {P : Program} {c : Cx} {R1 : Nat -> Prop} {o : Oper} {fr : Fr} {hp : Hp}
theorem z5l {t : TypeId} {x : Operand} {k : Nat} {cs : List IV} (ho : o.op = .box t x) (hx : fr.ev x = some (.agg cs)) (hσ : look hp k = none) (hc : c.σ k = none) (hfr : nmFr k fr = false) (hhp : nmHp k hp = false) (hcs : nm.nms k cs = false) :
    Ok P c o fr (look hp) (.ptr k 0) (look ((k, some (.box cs)) :: hp)) := by
  intro ρ w a K Q h hK
  obtain ⟨vs, u, hv, hl, hvu, hr⟩ := (h.ev hx).inv_agg
  have hrun : (execOp a.eval o).run P w = .ok (.value (.pointer (some ⟨w.heap.size, 0, none⟩))) (w.alloc (.cells vs t)) := by
    have hn : (newVar t (.agg vs)).run P w = .ok ⟨w.heap.size, 0, none⟩ (w.alloc (.cells vs t)) := rfl
    simp only [execOp, ho, hv, Instr.box, Sem.run_bind, hn, Result.andThen_ok]
    rfl
  unfold Oper.wp
  rw [hrun]
  refine hK (z1w ρ k (some (w.heap.size, 1))) _ _ (h.alloc hσ hc hfr hhp 1 _ _ fun keep _ => ?_) (.ptr _ _ _ fun cs' _ => ⟨w.heap.size, 1, z0j, rfl⟩)
  exact .box _ t vs u (z3w w _) hl hvu fun j x hj => keep _ _ (hr j x hj) (z66 hcs (List.mem_of_getElem? hj))
theorem zp3 {t t2 : TypeId} {x y : Operand} {s s' : ByteArray} {n n' : Int} {f0 f1 : Field} {σ : Heap'} (ho : o.op = .binOp .neq t x y t2) (hx : fr.ev x = some (.pv (.agg [vStr s, vInt n]))) (hy : fr.ev y = some (.pv (.agg [vStr s', vInt n'])))
    (hu : P.underlying t = some (.struct #[f0, f1])) (h0 : P.underlying f0.type = some .string) (h1 : P.underlying f1.type = some (.int .i64)) (ho0 : f0.offset = 0) (ho1 : f1.offset = 1) (hn0 : f0.name ≠ "_") (hn1 : f1.name ≠ "_") (hs : P.stoodInHeld t = false) (hg : P.eqGuardType P.depth t = false) :
    OkV P c R1 o fr σ (.pv (vBool (!(s.toList == s'.toList && n == n')))) := by
  have inv : ∀ {F : Nat -> Prop} {ρ : Loc} {w : World} {v : Value} {s : ByteArray} {n : Int}, RepI F ρ σ w (.pv (.agg [vStr s, vInt n])) v -> v = .agg #[.string s, .int .i64 n] := by
    intro F ρ w v s n h
    cases h with
    | pv _ _ h =>
      cases h with
      | agg _ vs u hl hv hr =>
        have h0 := hv 0 _ rfl; have h1 := hv 1 _ rfl
        have r0 := hr 0 _ rfl; have r1 := hr 1 _ rfl
        cases hu0 : u 0 <;> rw [hu0] at r0 <;> cases r0
        cases hu1 : u 1 <;> rw [hu1] at r1 <;> cases r1
        rw [hu0] at h0; rw [hu1] at h1
        congr 1
        apply Array.ext_getElem?
        intro i
        match i with
        | 0 => simpa using h0
        | 1 => simpa using h1
        | i + 2 => rw [Array.getElem?_eq_none (by simp at hl; omega), Array.getElem?_eq_none sI0]
  intro ρ w a h
  have e1 := inv (h.ev hx)
  have e2 := inv (h.ev hy)
  have hfs : P.fieldsOf t = #[f0, f1] := by simp [Program.fieldsOf, hu]
  refine ⟨_, fun w2 _ => ?_, z37 _⟩
  have hp0 : ∀ (s : ByteArray) (n : Int), (part f0.type #[.string s, .int .i64 n] f0.offset).run P w2 = .ok (.string s) w2 := fun s n => by simp [part, z3e h0, TypeDesc.isRow, ho0, Sem.run_bind]
  have hp1 : ∀ (s : ByteArray) (n : Int), (part f1.type #[.string s, .int .i64 n] f1.offset).run P w2 = .ok (.int .i64 n) w2 := fun s n => by simp [part, z3e h1, TypeDesc.isRow, ho1, Sem.run_bind]
  have heq : (Op.equalIn 10000 t (.agg #[.string s, .int .i64 n]) (.agg #[.string s', .int .i64 n'])).run P w2 = .ok (s.toList == s'.toList && n == n') w2 := by
    rw [run_equalIn_struct w2 9999 t _ _ (by rw [hfs]; exact hu) hs, hfs]
    have hi9 : (Op.equalIn 9999 f1.type (.int .i64 n) (.int .i64 n')).run P w2 = .ok (n == n') w2 := run_equalIn_int w2 9998 f1.type .i64 .i64 n n' h1
    have hs9 : (Op.equalIn 9999 f0.type (.string s) (.string s')).run P w2 = .ok (s.toList == s'.toList) w2 := run_equalIn_string w2 9998 f0.type s s' h0
    simp only [Op.eqFields, hn0, hn1, Sem.run_bind, hp0, hp1, Result.andThen_ok, ne_eq, not_false_eq_true, if_true, hs9]
    cases hb : (s.toList == s'.toList)
    ·simp
    simp only [Bool.not_true, Bool.false_eq_true, if_false, Sem.run_bind, hp1, Result.andThen_ok, hi9]
    cases hc : (n == n') <;> simp
  simp [execOp, ho, e1, e2, Sem.run_bind, run_eqGuard_agg w2 .neq t x y _ _ hg, run_neq_struct, heq]
def firm1 (hp : Hp) : IV -> Prop
  | .pv (.agg _) => True
  | .pv p => p.one = true
  | .agg _ => True
  | .fn .. => True
  | .sl k len => ∃ s els, look hp k = some (.row s els) /\ els.length = len
  | .ptr k _ => ∃ cs, look hp k = some (.box cs)
  | .mp k => ∃ es, look hp k = some (.map es)
  | _ => False
def y0y (hp : Hp) : List (Nat × IV) -> Prop
  | [] => True
  | (_, x) :: r => firm1 hp x /\ y0y hp r
theorem z7h : ∀ {xs : List (Nat × IV)}, y0y hp xs -> z5f (look hp) xs
  | (i, x) :: r, h, p, hq, hn => by
    rcases List.mem_cons.1 hq with rfl | hq
    ·have h1 := h.1
     cases x with
     | pv q => cases q <;> first | exact h1 | (simp [IV.parts] at hn)
     | agg => simp [IV.parts] at hn
     | fn => trivial
     | tup => exact h1.elim
     | rpt => exact h1.elim
     | _ => exact h1
    exact z7h h.2 p hq hn
def keyB : Value -> Value -> Bool
  | .int _ a, .int _ b => a == b
  | .string a, .string b => a.toList == b.toList
  | _, _ => false
def z36 : TypeDesc -> Value -> Bool
  | .int k, .int k' _ => k' == k
  | .string, .string _ => true
  | _, _ => false
theorem z59 {d : TypeDesc} {v : Value} (h : z36 d v = true) : MapKept.IsKey d v := by
  cases d <;> cases v <;> simp_all [z36, MapKept.IsKey]
theorem y11 {d : TypeDesc} {a b : Value} (ha : z36 d a = true) (hb : z36 d b = true) : keyB a b = true ↔ a = b := by
  cases d <;> cases a <;> cases b <;> first
    | (simp_all [z36, keyB]; done)
    | (simp only [keyB, beq_iff_eq, Value.string.injEq]
       exact ⟨fun h => MapKept.bytes_beq _ _ |>.1 (by rw [beq_toListBytes]; simpa using h), fun h => by rw [h]⟩)
def z4s (k : Value) : List (Value × PV) -> Option PV
  | [] => none
  | (a, p) :: r => if keyB k a then some p else z4s k r
def mput (k : Value) (v : PV) : List (Value × PV) -> List (Value × PV)
  | [] => [(k, v)]
  | (a, p) :: r => if keyB k a then (k, v) :: r else (a, p) :: mput k v r
theorem zc9 {d : TypeDesc} {k : Value} (hk : z36 d k = true) : ∀ (es : List (Value × PV)) (l : List MapEntry) (i : Nat), l.length = es.length -> (∀ e ∈ es, z36 d e.1 = true) -> (∀ (j : Nat) (a : Value) (p : PV), es[j]? = some (a, p) -> ∃ m : MapEntry, l[j]? = some m /\ m.key = a) ->
    (Instr.findNow d k l i = some none /\ z4s k es = none /\ ∀ v, mput k v es = es ++ [(k, v)]) ∨ ∃ j m p, Instr.findNow d k l i = some (some (i + j, m.val)) /\ l[j]? = some m /\ m.key = k /\ es[j]? = some (k, p) /\ z4s k es = some p /\ ∀ v, mput k v es = es.set j (k, v)
  | [], [], _, _, _, _ => .inl ⟨rfl, rfl, fun _ => rfl⟩
  | (a, p) :: es, m :: l, i, hl, he, h => by
    have h0 : m.key = a := by obtain ⟨m', hm', e⟩ := h 0 a p rfl; cases hm'; exact e
    have ha := he (a, p) (.head _)
    obtain ⟨r, hr, hiff⟩ := MapKept.sameNow_of_keys (z59 hk) (z59 ha)
    rw [<- h0] at hr
    cases r with
    | true =>
      have hka : k = a := hiff.1 rfl
      have hb : keyB k a = true := (y11 hk ha).2 hka
      exact .inr ⟨0, m, p, by simp [Instr.findNow, hr], rfl, h0.trans hka.symm, by simp [hka], by simp [z4s, hb], fun v => by simp [mput, hb]⟩
    | false =>
      have hb : keyB k a = false := by
        cases hb : keyB k a with
        | false => rfl
        | true => have := hiff.2 ((y11 hk ha).1 hb); cases this
      rcases zc9 hk es l (i + 1) (by simpa using hl) (fun e h' => he e (.tail _ h')) (fun j a p hj => by simpa using h (j + 1) a p (by simpa using hj)) with ⟨h1, h2, h3⟩ | ⟨j, m', p', h1, h2, h3, h4, h5, h6⟩
      ·exact .inl ⟨by simp [Instr.findNow, hr, h1], by simp [z4s, hb, h2], fun v => by simp [mput, hb, h3]⟩
      exact .inr ⟨j + 1, m', p', by simp [Instr.findNow, hr, h1]; omega, by simpa using h2, h3, by simpa using h4, by simp [z4s, hb, h5], fun v => by simp [mput, hb, h6]⟩
theorem RepO.inv_map {F : Nat -> Prop} {ρ : Loc} {σ : Heap'} {w : World} {b cc : Nat} {es : List (Value × PV)} (h : RepO F ρ σ w b cc (.map es)) :
    ∃ (a : Array MapEntry) (t : Nat) (u : Nat -> Value), w.heap[b]? = some (.map a t) /\ a.size = es.length /\ (∀ i k p, es[i]? = some (k, p) -> ∃ m : MapEntry, a[i]? = some m /\ m.key = k /\ m.val = u i) /\ ∀ i k p, es[i]? = some (k, p) -> RepP (owned F ρ) w p (u i) := by
  cases h with
  | map _ a t u h hl hv hr => exact ⟨a, t, u, h, hl, hv, hr⟩
theorem All.mapAt {ρ : Loc} {w : World} {a : Act} (h : All c ρ (look hp) w fr a) {x : Operand} {k : Nat} {es : List (Value × PV)} (hx : fr.ev x = some (.mp k)) (hk : look hp k = some (.map es)) :
    ∃ (b cc : Nat) (r : Array MapEntry) (t : Nat) (u : Nat -> Value), a.eval x = .map (some b) /\ ρ k = some (b, cc) /\ w.heap[b]? = some (.map r t) /\ r.size = es.length /\ (∀ i k p, es[i]? = some (k, p) -> ∃ m : MapEntry, r[i]? = some m /\ m.key = k /\ m.val = u i) /\ ∀ i k p, es[i]? = some (k, p) -> RepP (owned c.F ρ) w p (u i) := by
  have hr := h.ev hx
  generalize hv : a.eval x = v at hr
  cases hr with
  | mp _ _ hh =>
    obtain ⟨b, cc, hρ, rfl⟩ := hh es hk
    obtain ⟨o1, h1, h2⟩ := h.rel.obj k b cc hρ
    rw [hk] at h1; cases h1
    obtain ⟨r, t, u, h3, h4, h5, h6⟩ := h2.inv_map
    exact ⟨b, cc, r, t, u, rfl, hρ, h3, h4, h5, h6⟩
theorem z6c {t : TypeId} {k : Nat} (ho : o.op = .makeMap t none) (hσ : look hp k = none) (hc : c.σ k = none) (hfr : nmFr k fr = false) (hhp : nmHp k hp = false) :
    Ok P c o fr (look hp) (.mp k) (look ((k, some (.map [])) :: hp)) := by
  intro ρ w a K Q h hK
  have hrun : (execOp a.eval o).run P w = .ok (.value (.map (some w.heap.size))) (w.alloc (.map #[] 0)) := by
    have hn : (newObj (.map #[] 0)).run P w = .ok w.heap.size (w.alloc (.map #[] 0)) := rfl
    simp [execOp, ho, Instr.makeMap, Sem.run_bind, hn]
  unfold Oper.wp
  rw [hrun]
  refine hK (z1w ρ k (some (w.heap.size, 1))) _ _ (h.alloc hσ hc hfr hhp 1 _ _ fun keep _ => ?_) (.mp _ _ fun es' _ => ⟨w.heap.size, 1, z0j, rfl⟩)
  exact .map [] #[] 0 (fun _ => undef) (z3w w _) rfl (fun i k p hi => by simp at hi) fun i k p hi => by simp at hi
theorem z4t {t kt et : TypeId} {d : TypeDesc} {x y z : Operand} {k : Nat} {es : List (Value × PV)} {kv : Value} {p : PV} (ho : o.op = .mapUpdate t x y z) (hx : fr.ev x = some (.mp k)) (hy : fr.ev y = some (.pv (.val kv))) (hz : fr.ev z = some (.pv p)) (hk : look hp k = some (.map es))
    (hR : ¬ c.R k) (hu : P.underlying t = some (.map kt et)) (hd : P.underlying kt = some d) (hkv : z36 d kv = true) (hes : ∀ e ∈ es, z36 d e.1 = true) : Ok P c o fr (look hp) (.pv (.val undef)) (look ((k, some (.map (mput kv p es))) :: hp)) := by
  refine z9y fun ρ w a h => ?_
  obtain ⟨b, cc, r, ck, u, hv, hρ, h3, h4, h5, h6⟩ := h.mapAt hx hk
  have hzr : RepP (owned c.F ρ) w p (a.eval z) := by
    have := h.ev hz
    generalize a.eval z = vz at this
    cases this with
    | pv _ _ hp => exact hp
  have hkey := MapKept.run_checkKey (w := w) hd (z59 hkv) false 9999
  have hset : ∀ o', (setObj b o').run P w = .ok () { w with heap := w.heap.setIfInBounds b o' } := fun o' => MapKept.run_setObj_map o' h3
  have hb : b < w.heap.size := (Array.getElem?_eq_some_iff.1 h3).1
  have hsame : ∀ v : Value, z36 d v = true -> Instr.sameBits 10000 v v = true := by
    intro v hv
    cases d <;> cases v <;> simp_all [z36, Instr.sameBits, MapKept.bytes_beq]
  rcases zc9 hkv es r.toList 0 (by simpa using h4) hes (fun j a p hj => by obtain ⟨m, hm, e, _⟩ := h5 j a p hj; exact ⟨m, by simpa using hm, e⟩) with ⟨h1, h2, h7⟩ | ⟨j, m, q, h1, h2, h3', h4', h5', h7⟩
  ·have hfind := MapKept.run_findKey (P := P) (w := w) (kt := kt) hd h1
   refine ⟨ρ, { w with heap := w.heap.setIfInBounds b (.map (r.push ⟨kv, a.eval z, ck⟩) (ck + 1)) }, by simp [execOp, ho, hv, z1f h hy, Instr.mapUpdate, Sem.run_bind, run_underlying hu, MapKept.run_getObj_map h3, hkey, hfind, hset], ?_⟩
   refine h.write hρ hk trivial hR rfl rfl rfl sI0 (fun j hj => by simp [Ne.symm hj]) fun keep keepP => ?_
   refine .map _ (r.push ⟨kv, a.eval z, ck⟩) (ck + 1) (fun i => if i = es.length then a.eval z else u i) (by simp [hb]) (by simp [h7, h4]) (fun i k' p' hi => ?_) fun i k' p' hi => ?_
   ·rw [h7] at hi
    by_cases e : i = es.length
    ·subst e
     simp only [List.getElem?_concat_length, Option.some.injEq, Prod.mk.injEq] at hi
     obtain ⟨rfl, rfl⟩ := hi
     exact ⟨⟨kv, a.eval z, ck⟩, by rw [<- h4]; simp, rfl, by simp⟩
    have hlt : i < es.length := by
      have := (List.getElem?_eq_some_iff.1 hi).1
      simp at this; omega
    rw [List.getElem?_append_left hlt] at hi
    obtain ⟨m, hm, e1, e2⟩ := h5 i k' p' hi
    refine ⟨m, ?_, e1, by simp [e, e2]⟩
    rw [Array.getElem?_push, if_neg oM0]
    exact hm
   rw [h7] at hi
   by_cases e : i = es.length
   ·subst e
    simp only [List.getElem?_concat_length, Option.some.injEq, Prod.mk.injEq] at hi
    obtain ⟨rfl, rfl⟩ := hi
    simpa using keepP _ _ hzr
   have hlt : i < es.length := by
     have := (List.getElem?_eq_some_iff.1 hi).1
     simp at this; omega
   rw [List.getElem?_append_left hlt] at hi
   simpa [e] using keepP _ _ (h6 i k' p' hi)
  have hfind := MapKept.run_findKey (P := P) (w := w) (kt := kt) hd h1
  have hj : r[0 + j]? = some m := by simpa using h2
  have hstay : (Instr.keyThatStays kv kv).run P w = .ok kv w := by simp [Instr.keyThatStays, hsame kv hkv]
  refine ⟨ρ, { w with heap := w.heap.setIfInBounds b (.map (r.modify (0 + j) fun e => { e with key := kv, val := a.eval z }) ck) }, ?_, ?_⟩
  ·simp only [execOp, ho, hv, z1f h hy, Instr.mapUpdate, Sem.run_bind, run_underlying hu, MapKept.run_getObj_map h3, hkey, hfind, Result.andThen_ok, hj, Option.map_some, Option.getD_some, h3', hstay, hset]
   rfl
  refine h.write hρ hk trivial hR rfl rfl rfl sI0 (fun j hj => by simp [Ne.symm hj]) fun keep keepP => ?_
  have hjl : j < es.length := (List.getElem?_eq_some_iff.1 h4').1
  refine .map _ (r.modify (0 + j) fun e => { e with key := kv, val := a.eval z }) ck (fun i => if i = j then a.eval z else u i) (by simp [hb]) (by simp [h7, h4]) (fun i k' p' hi => ?_) fun i k' p' hi => ?_
  ·rw [h7] at hi
   by_cases e : i = j
   ·subst e
    rw [List.getElem?_set_self hjl] at hi
    cases hi
    refine ⟨{ m with key := kv, val := a.eval z }, ?_, rfl, by simp⟩
    simp only [Nat.zero_add, Array.getElem?_modify, if_true] at hj ⊢
    rw [hj]; rfl
   rw [List.getElem?_set_ne (Ne.symm e)] at hi
   obtain ⟨m', hm', e1, e2⟩ := h5 i k' p' hi
   refine ⟨m', ?_, e1, by simp [e, e2]⟩
   simp only [Nat.zero_add, Array.getElem?_modify, if_neg (Ne.symm e)]
   exact hm'
  rw [h7] at hi
  by_cases e : i = j
  ·subst e
   rw [List.getElem?_set_self hjl] at hi
   cases hi
   simpa using keepP _ _ hzr
  rw [List.getElem?_set_ne (Ne.symm e)] at hi
  simpa [e] using keepP _ _ (h6 i k' p' hi)
theorem zv1 {t kt et : TypeId} {d : TypeDesc} {x y z : Operand} {k : Nat} {es : List (Value × PV)} {kv : Value} {p : PV} (ho : o.op = .insert t x y z) (hx : fr.ev x = some (.mp k)) (hy : fr.ev y = some (.pv (.val kv))) (hz : fr.ev z = some (.pv p)) (hk : look hp k = some (.map es))
    (hR : ¬ c.R k) (hu : P.underlying t = some (.map kt et)) (hd : P.underlying kt = some d) (hkv : z36 d kv = true) (hes : ∀ e ∈ es, z36 d e.1 = true) : Ok P c o fr (look hp) (.pv (.val undef)) (look ((k, some (.map (mput kv p es))) :: hp)) := by
  refine z9y fun ρ w a h => ?_
  obtain ⟨b, cc, r, ck, u, hv, hρ, h3, h4, h5, h6⟩ := h.mapAt hx hk
  have hzr : RepP (owned c.F ρ) w p (a.eval z) := by
    have := h.ev hz
    generalize a.eval z = vz at this
    cases this with
    | pv _ _ hp => exact hp
  have hkey := MapKept.run_checkKey (w := w) hd (z59 hkv) false 9999
  have hset : ∀ o', (setObj b o').run P w = .ok () { w with heap := w.heap.setIfInBounds b o' } := fun o' => MapKept.run_setObj_map o' h3
  have hb : b < w.heap.size := (Array.getElem?_eq_some_iff.1 h3).1
  have hsame : ∀ v : Value, z36 d v = true -> Instr.sameBits 10000 v v = true := by
    intro v hv
    cases d <;> cases v <;> simp_all [z36, Instr.sameBits, MapKept.bytes_beq]
  rcases zc9 hkv es r.toList 0 (by simpa using h4) hes (fun j a p hj => by obtain ⟨m, hm, e, _⟩ := h5 j a p hj; exact ⟨m, by simpa using hm, e⟩) with ⟨h1, h2, h7⟩ | ⟨j, m, q, h1, h2, h3', h4', h5', h7⟩
  ·have hfind := MapKept.run_findKey (P := P) (w := w) (kt := kt) hd h1
   refine ⟨ρ, { w with heap := w.heap.setIfInBounds b (.map (r.push ⟨kv, a.eval z, ck⟩) (ck + 1)) }, by simp [execOp, ho, hv, z1f h hy, Instr.mapUpdate, Sem.run_bind, run_underlying hu, MapKept.run_getObj_map h3, hkey, hfind, hset], ?_⟩
   refine h.write hρ hk trivial hR rfl rfl rfl sI0 (fun j hj => by simp [Ne.symm hj]) fun keep keepP => ?_
   refine .map _ (r.push ⟨kv, a.eval z, ck⟩) (ck + 1) (fun i => if i = es.length then a.eval z else u i) (by simp [hb]) (by simp [h7, h4]) (fun i k' p' hi => ?_) fun i k' p' hi => ?_
   ·rw [h7] at hi
    by_cases e : i = es.length
    ·subst e
     simp only [List.getElem?_concat_length, Option.some.injEq, Prod.mk.injEq] at hi
     obtain ⟨rfl, rfl⟩ := hi
     exact ⟨⟨kv, a.eval z, ck⟩, by rw [<- h4]; simp, rfl, by simp⟩
    have hlt : i < es.length := by
      have := (List.getElem?_eq_some_iff.1 hi).1
      simp at this; omega
    rw [List.getElem?_append_left hlt] at hi
    obtain ⟨m, hm, e1, e2⟩ := h5 i k' p' hi
    refine ⟨m, ?_, e1, by simp [e, e2]⟩
    rw [Array.getElem?_push, if_neg oM0]
    exact hm
   rw [h7] at hi
   by_cases e : i = es.length
   ·subst e
    simp only [List.getElem?_concat_length, Option.some.injEq, Prod.mk.injEq] at hi
    obtain ⟨rfl, rfl⟩ := hi
    simpa using keepP _ _ hzr
   have hlt : i < es.length := by
     have := (List.getElem?_eq_some_iff.1 hi).1
     simp at this; omega
   rw [List.getElem?_append_left hlt] at hi
   simpa [e] using keepP _ _ (h6 i k' p' hi)
  have hfind := MapKept.run_findKey (P := P) (w := w) (kt := kt) hd h1
  have hj : r[0 + j]? = some m := by simpa using h2
  have hstay : (Instr.keyThatStays kv kv).run P w = .ok kv w := by simp [Instr.keyThatStays, hsame kv hkv]
  refine ⟨ρ, { w with heap := w.heap.setIfInBounds b (.map (r.modify (0 + j) fun e => { e with key := kv, val := a.eval z }) ck) }, ?_, ?_⟩
  ·simp only [execOp, ho, hv, z1f h hy, Instr.mapUpdate, Sem.run_bind, run_underlying hu, MapKept.run_getObj_map h3, hkey, hfind, Result.andThen_ok, hj, Option.map_some, Option.getD_some, h3', hstay, hset]
   rfl
  refine h.write hρ hk trivial hR rfl rfl rfl sI0 (fun j hj => by simp [Ne.symm hj]) fun keep keepP => ?_
  have hjl : j < es.length := (List.getElem?_eq_some_iff.1 h4').1
  refine .map _ (r.modify (0 + j) fun e => { e with key := kv, val := a.eval z }) ck (fun i => if i = j then a.eval z else u i) (by simp [hb]) (by simp [h7, h4]) (fun i k' p' hi => ?_) fun i k' p' hi => ?_
  ·rw [h7] at hi
   by_cases e : i = j
   ·subst e
    rw [List.getElem?_set_self hjl] at hi
    cases hi
    refine ⟨{ m with key := kv, val := a.eval z }, ?_, rfl, by simp⟩
    simp only [Nat.zero_add, Array.getElem?_modify, if_true] at hj ⊢
    rw [hj]; rfl
   rw [List.getElem?_set_ne (Ne.symm e)] at hi
   obtain ⟨m', hm', e1, e2⟩ := h5 i k' p' hi
   refine ⟨m', ?_, e1, by simp [e, e2]⟩
   simp only [Nat.zero_add, Array.getElem?_modify, if_neg (Ne.symm e)]
   exact hm'
  rw [h7] at hi
  by_cases e : i = j
  ·subst e
   rw [List.getElem?_set_self hjl] at hi
   cases hi
   simpa using keepP _ _ hzr
  rw [List.getElem?_set_ne (Ne.symm e)] at hi
  simpa [e] using keepP _ _ (h6 i k' p' hi)
theorem zn2 {t kt et : TypeId} {d : TypeDesc} {b ck : Nat} {r : Array MapEntry} {kv z : Value} {es : List (Value × PV)} (commaOk : Bool) (hl : r.size = es.length) (h5 : ∀ (j : Nat) (a : Value) (p : PV), es[j]? = some (a, p) -> ∃ m : MapEntry, r[j]? = some m /\ m.key = a)
    (hu : P.underlying t = some (.map kt et)) (hd : P.underlying kt = some d) (hkv : z36 d kv = true) (hes : ∀ e ∈ es, z36 d e.1 = true) (hzv : ((P.info? et).bind (·.zero)) = some z) :
    (z4s kv es = none /\ ∀ w : World, w.heap[b]? = some (.map r ck) -> (Instr.lookup t (.map (some b)) kv commaOk).run P w = .ok (if commaOk then .tuple #[z, .bool false] else z) w) ∨
    ∃ (j : Nat) (m : MapEntry) (p : PV), r[j]? = some m /\ es[j]? = some (kv, p) /\ z4s kv es = some p /\ ∀ w : World, w.heap[b]? = some (.map r ck) -> (Instr.lookup t (.map (some b)) kv commaOk).run P w = .ok (if commaOk then .tuple #[m.val, .bool true] else m.val) w := by
  have hz : ∀ w, (zeroValue et).run P w = .ok z w := by
    intro w
    cases hq : P.info? et with
    | none => simp [hq] at hzv
    | some i => simp [hq] at hzv; simp [zeroValue, typeInfo, hq, hzv]
  rcases zc9 hkv es r.toList 0 (by simpa using hl) hes (fun j a p hj => by obtain ⟨m, hm, e⟩ := h5 j a p hj; exact ⟨m, by simpa using hm, e⟩) with ⟨h1, h2, h7⟩ | ⟨j, m, q, h1, h2, h3', h4', h5', h7⟩
  ·refine .inl ⟨h2, fun w hb => ?_⟩
   have hkey := MapKept.run_checkKey (w := w) hd (z59 hkv) r.isEmpty 9999
   have hfind := MapKept.run_findKey (P := P) (w := w) (kt := kt) hd h1
   simp only [Instr.lookup, Sem.run_bind, run_underlying hu, MapKept.run_getObj_map hb, Sem.run_pure, hkey, hfind, hz, Result.andThen_ok]
  refine .inr ⟨j, m, q, by simpa using h2, h4', h5', fun w hb => ?_⟩
  have hkey := MapKept.run_checkKey (w := w) hd (z59 hkv) r.isEmpty 9999
  have hfind := MapKept.run_findKey (P := P) (w := w) (kt := kt) hd h1
  simp only [Instr.lookup, Sem.run_bind, run_underlying hu, MapKept.run_getObj_map hb, Sem.run_pure, hkey, hfind, hz, Result.andThen_ok]
theorem zg4 {t kt et : TypeId} {d : TypeDesc} {x y : Operand} {k : Nat} {es : List (Value × PV)} {kv z : Value} (ho : o.op = .lookup t x y false) (hx : fr.ev x = some (.mp k)) (hy : fr.ev y = some (.pv (.val kv))) (hk : look hp k = some (.map es))
    (hu : P.underlying t = some (.map kt et)) (hd : P.underlying kt = some d) (hkv : z36 d kv = true) (hes : ∀ e ∈ es, z36 d e.1 = true) (hzv : ((P.info? et).bind (·.zero)) = some z) (hR : R1 k) : OkV P c R1 o fr (look hp) (.pv ((z4s kv es).getD (.val z))) := by
  intro ρ w a h
  obtain ⟨b, cc, r, ck, u, hv, hρ, h3, h4, h5, h6⟩ := h.mapAt hx hk
  have h3' : ∀ w2, SameFor c.F R1 ρ w w2 -> w2.heap[b]? = some (.map r ck) := fun w2 h2 => (h2 b (h.rel.lt hρ) (.inr ⟨k, cc, hR, hρ⟩)).trans h3
  rcases zn2 (b := b) (ck := ck) false h4 (fun j a p hj => by obtain ⟨m, h1, h2, _⟩ := h5 j a p hj; exact ⟨m, h1, h2⟩) hu hd hkv hes hzv with ⟨h1, h2⟩ | ⟨j, m, p, h1, h2, h7, h8⟩
  ·refine ⟨z, fun w2 hw2 => ?_, by rw [h1]; exact z37 _⟩
   simp [execOp, ho, hv, z1f h hy, Sem.run_bind, h2 w2 (h3' w2 hw2)]
  obtain ⟨m', hm', _, e2⟩ := h5 j kv p h2
  rw [h1] at hm'; cases hm'
  refine ⟨m.val, fun w2 hw2 => by simp [execOp, ho, hv, z1f h hy, Sem.run_bind, h8 w2 (h3' w2 hw2)], ?_⟩
  rw [h7, e2]
  exact .pv _ _ (h6 j kv p h2)
theorem z82 {t kt et : TypeId} {d : TypeDesc} {x y : Operand} {k : Nat} {es : List (Value × PV)} {kv z : Value} (ho : o.op = .lookup t x y true) (hx : fr.ev x = some (.mp k)) (hy : fr.ev y = some (.pv (.val kv))) (hk : look hp k = some (.map es))
    (hu : P.underlying t = some (.map kt et)) (hd : P.underlying kt = some d) (hkv : z36 d kv = true) (hes : ∀ e ∈ es, z36 d e.1 = true) (hzv : ((P.info? et).bind (·.zero)) = some z) (hR : R1 k) : OkV P c R1 o fr (look hp) (.tup [.pv ((z4s kv es).getD (.val z)), iBool (z4s kv es).isSome]) := by
  intro ρ w a h
  obtain ⟨b, cc, r, ck, u, hv, hρ, h3, h4, h5, h6⟩ := h.mapAt hx hk
  have h3' : ∀ w2, SameFor c.F R1 ρ w w2 -> w2.heap[b]? = some (.map r ck) := fun w2 h2 => (h2 b (h.rel.lt hρ) (.inr ⟨k, cc, hR, hρ⟩)).trans h3
  have two : ∀ {p : PV} {v : Value} {g : Bool}, RepP (owned c.F ρ) w p v -> RepI c.F ρ (look hp) w (.tup [.pv p, iBool g]) (.tuple #[v, .bool g]) := fun {p v g} hp => .tup _ _ (fun j => if j = 0 then v else .bool g) rfl (fun j x hj => by
      match j, hj with
      | 0, hj => rfl
      | 1, hj => rfl
      | j + 2, hj => simp at hj) fun j x hj => by
      match j, hj with
      | 0, hj => cases hj; exact .pv _ _ hp
      | 1, hj => cases hj; exact z37 _
      | j + 2, hj => simp at hj
  rcases zn2 (b := b) (ck := ck) true h4 (fun j a p hj => by obtain ⟨m, h1, h2, _⟩ := h5 j a p hj; exact ⟨m, h1, h2⟩) hu hd hkv hes hzv with ⟨h1, h2⟩ | ⟨j, m, p, h1, h2, h7, h8⟩
  ·refine ⟨.tuple #[z, .bool false], fun w2 hw2 => ?_, by rw [h1]; exact two (.val _)⟩
   simp [execOp, ho, hv, z1f h hy, Sem.run_bind, h2 w2 (h3' w2 hw2)]
  obtain ⟨m', hm', _, e2⟩ := h5 j kv p h2
  rw [h1] at hm'; cases hm'
  refine ⟨.tuple #[m.val, .bool true], fun w2 hw2 => by simp [execOp, ho, hv, z1f h hy, Sem.run_bind, h8 w2 (h3' w2 hw2)], ?_⟩
  rw [h7, e2]
  exact two (h6 j kv p h2)
theorem y24 {t kt et : TypeId} {x : Operand} {k : Nat} {es : List (Value × PV)} (ho : o.op = .call { callee := .builtin .len, args := #[x], argTypes := #[t] }) (hx : fr.ev x = some (.mp k)) (hk : look hp k = some (.map es)) (hu : P.underlying t = some (.map kt et)) (hR : R1 k) :
    OkV P c R1 o fr (look hp) (.pv (vInt es.length)) := by
  intro ρ w a h
  obtain ⟨b, cc, r, ck, u, hv, hρ, h3, h4, h5, h6⟩ := h.mapAt hx hk
  refine ⟨_, fun w2 h2 => ?_, z37 _⟩
  have h3' := (h2 b (h.rel.lt hρ) (.inr ⟨k, cc, hR, hρ⟩)).trans h3
  simp [execOp, ho, hv, resolve, Sem.run_bind, invoke, builtin, Builtin.len_, run_underlying hu, goInt, MapKept.run_getObj_map h3', h4]
end
section
variable {P : Program} {c : Cx} {R1 : Nat -> Prop} {o : Oper} {fr : Fr} {hp : Hp}
theorem y4m {t : TypeId} {x : Operand} {p : PV} {σ : Heap'} (ho : o.op = .box t x) (hx : fr.ev x = some (.pv p)) (h1 : p.one = true) : Ok P c o fr σ (.pv (.ept [p] 0)) σ := by
  intro ρ w a K Q h hK
  have hr := h.ev hx
  have hone := RepI.one hr (show (IV.pv p).firm σ from h1)
  generalize hv : a.eval x = v at hr hone
  cases hr with
  | pv _ _ hr =>
    have hcells : v.cells = #[v] := by cases v <;> first | rfl | cases hone
    have hrun : (execOp a.eval o).run P w = .ok (.value (.pointer (some ⟨w.heap.size, 0, none⟩))) (w.alloc (.cells #[v] t)) := by
      have hn : (newVar t v).run P w = .ok ⟨w.heap.size, 0, none⟩ (w.alloc (.cells v.cells t)) := rfl
      rw [hcells] at hn
      simp only [execOp, ho, hv, Instr.box, Sem.run_bind, hn, Result.andThen_ok]
      rfl
    unfold Oper.wp
    rw [hrun]
    obtain ⟨h3, keep⟩ := h.push (.cells #[v] t)
    refine hK ρ _ _ h3 (.pv _ _ (.ept [p] 0 w.heap.size 0 (fun _ => v) ⟨h.fresh, by simp⟩ (fun j z hj => ?_) fun j z hj => ?_))
    ·have h0 : j = 0 := by have := (List.getElem?_eq_some_iff.1 hj).1; simp at this; exact this
     subst h0
     rw [z4x (z3w w _)]; rfl
    have h0 : j = 0 := by have := (List.getElem?_eq_some_iff.1 hj).1; simp at this; exact this
    subst h0
    simp only [List.getElem?_cons_zero, Option.some.injEq] at hj
    subst hj
    exact keep _ _ hr
theorem zm8 {t : TypeId} {x : Operand} {k : Nat} {z : IV} (ho : o.op = .box t x) (hx : fr.ev x = some z) (hz : z.firm (look hp)) (hσ : look hp k = none) (hc : c.σ k = none) (hfr : nmFr k fr = false) (hhp : nmHp k hp = false) (hcs : nm k z = false) :
    Ok P c o fr (look hp) (.ptr k 0) (look ((k, some (.box [z])) :: hp)) := by
  intro ρ w a K Q h hK
  have hr := h.ev hx
  have hone := RepI.one hr hz
  generalize hv : a.eval x = v at hr hone
  have hcells : v.cells = #[v] := by cases v <;> first | rfl | cases hone
  have hrun : (execOp a.eval o).run P w = .ok (.value (.pointer (some ⟨w.heap.size, 0, none⟩))) (w.alloc (.cells #[v] t)) := by
    have hn : (newVar t v).run P w = .ok ⟨w.heap.size, 0, none⟩ (w.alloc (.cells v.cells t)) := rfl
    rw [hcells] at hn
    simp only [execOp, ho, hv, Instr.box, Sem.run_bind, hn, Result.andThen_ok]
    rfl
  unfold Oper.wp
  rw [hrun]
  refine hK (z1w ρ k (some (w.heap.size, 1))) _ _ (h.alloc hσ hc hfr hhp 1 _ _ fun keep _ => ?_) (.ptr _ _ _ fun cs' _ => ⟨w.heap.size, 1, z0j, rfl⟩)
  refine .box _ t #[v] (fun _ => v) (z3w w _) rfl (fun j x hj => ?_) fun j x hj => ?_
  ·have h0 : j = 0 := by have := (List.getElem?_eq_some_iff.1 hj).1; simp at this; exact this
   subst h0; rfl
  have h0 : j = 0 := by have := (List.getElem?_eq_some_iff.1 hj).1; simp at this; exact this
  subst h0
  simp only [List.getElem?_cons_zero, Option.some.injEq] at hj
  subst hj
  exact keep _ _ hr hcs
theorem z92 {l r : Hp} {k : Nat} : look (l ++ r) k = if k ∈ l.map (·.1) then look l k else look r k := by
  induction l with
  | nil => simp
  | cons a l ih =>
    obtain ⟨j, q⟩ := a
    simp only [List.cons_append, look, ih]
    by_cases e : j = k
    ·subst e; simp
    have : (k ∈ List.map (fun (x : Nat × Option HO) => x.1) ((j, q) :: l)) ↔ k ∈ List.map (fun (x : Nat × Option HO) => x.1) l := by simp [Ne.symm e]
    simp only [z00 e, cond_false, this]
theorem zt8 {l : Hp} {k : Nat} (h : k ∉ l.map (·.1)) : look l k = none := by
  induction l with
  | nil => rfl
  | cons a l ih =>
    obtain ⟨j, q⟩ := a
    simp only [List.map_cons, List.mem_cons, not_or] at h
    simp only [look, z00 (Ne.symm h.1), cond_false]
    exact ih h.2
theorem z27 {l r : List (Nat × HO)} (h : l.map (·.1) = r.map (·.1)) : look (up l ++ up r) = look (up l) := by
  have hu : ∀ l : List (Nat × HO), (up l).map (·.1) = l.map (·.1) := fun l => by simp [up]
  funext k
  rw [z92]
  split
  ·rfl
  rename_i hk
  rw [zt8 (by rw [hu, <- h, <- hu]; exact hk), zt8 hk]
theorem z3s {l r : List (Nat × HO)} (h : l.map (·.1) = r.map (·.1)) (k : Nat) (o : HO) (hk : look (up l) k = some o) : look (up l ++ up r) k = some o := by
  rw [z27 h]; exact hk
theorem zv0 {t e : TypeId} {x y : Operand} {k off n s i : Nat} {m : Int} {cs : List IV} {kk : IntKind} (ho : o.op = .indexAddr t x y) (hx : fr.ev x = some (.ptr k off)) (hy : fr.ev y = some (.pv (.val (.int kk m)))) (hk : look hp k = some (.box cs))
    (hu : P.underlying t = some (.array n e)) (hs : (P.info? e).map (·.size) = some s) (hm : m = i) (hi : i < n) : OkV P c R1 o fr (look hp) (.ptr k (off + i * s)) := by
  subst hm
  intro ρ w a h
  obtain ⟨b, cc, e', r, u, hv, hρ, h3, h4, h5, h6⟩ := h.box hx hk
  refine ⟨.pointer (some ⟨b, off + i * s, none⟩), fun w2 _ => ?_, .ptr _ _ _ fun cs' _ => ⟨b, cc, hρ, rfl⟩⟩
  have hs' := z2b hs w2
  have h0 : (0 : Int) <= i /\ (i : Int) < n := by omega
  simp [execOp, ho, hv, z1f h hy, Instr.indexAt, Sem.run_bind, asIntOf, run_underlying hu, Instr.sureAddr, h0, hi, hs', Addr.add]
theorem zu9 {t e : TypeId} {n s : Nat} {parts : Array (Nat × Operand)} {xs : List (Nat × IV)} {z : Value} {out : List IV} {σ : Heap'} (ho : o.op = .build t parts) (hx : z7f fr parts.toList = some xs)
    (hz : ((P.info? t).bind (·.zero)) = some z) (hu : P.underlying t = some (.array n e)) (hs : (P.info? e).map (·.size) = some s) (hf : z72 (fun i => some (i * s, s)) (z69 z) xs = some out) (hfirm : z5f σ xs) : OkV P c R1 o fr σ (.agg out) := by
  intro ρ w a h
  have hzv : ∀ w, (zeroValue t).run P w = .ok z w := fun w => by
    cases hq : P.info? t with
    | none => simp [hq] at hz
    | some i => simp [hq] at hz; simp [zeroValue, typeInfo, hq, hz]
  obtain ⟨hl, hv⟩ := z5e h hx
  obtain ⟨vs, h1, h2⟩ := z8x (zy2 c.F ρ σ w z) hl (fun j i x hj => by
    obtain ⟨v, h3, h4⟩ := hv j i x hj
    exact ⟨v, h3, h4, hfirm _ (List.mem_of_getElem? hj)⟩) hf
  have hparts : (parts.map fun (i, x) => (i, a.eval x)).toList = parts.toList.map fun p => (p.1, a.eval p.2) := by simp
  refine ⟨.agg vs, fun w2 _ => ?_, .agg _ _ (fun j => vs.getD j undef) h2.1 (fun j x hj => ?_) fun j x hj => ?_⟩
  ·have hso := z2b hs w2
   simp only [execOp, ho, Instr.build, Sem.run_bind, hzv, run_underlying hu, hso, Result.andThen_ok, hparts, h1]
   rfl
  ·obtain ⟨v, h3, _⟩ := h2.2 j x hj
   simp [h3, Array.getD_eq_getD_getElem?]
  obtain ⟨v, h3, h4⟩ := h2.2 j x hj
  simp only [Array.getD_eq_getD_getElem?, h3, Option.getD_some]
  exact h4
end
section
variable {P : Program} {c : Cx} {R1 : Nat -> Prop} {o : Oper} {fr : Fr} {hp : Hp}
def ResC (P : Program) (fr : Fr) (σ : Heap') (a : Tmp) (t : TypeId) (x : IV) : Prop := ∀ (c : Cx) (o : Oper), o.op = .load t (.tmp a) -> OkV P c (fun _ => True) o fr σ x
theorem y50 {ρ : Loc} {σ : Heap'} {w : World} {a : Act} {q : Tmp} {t : TypeId} {x : IV} (h : All c ρ σ w fr a) (hr : ResC P fr σ q t x) : ∃ v ad, (asAddr ((a.tmps[q]?).getD undef)).run P w = .ok ad w /\ (loadVar t ad).run P w = .ok v w /\ RepI c.F ρ σ w x v := by
  obtain ⟨v, h1, h2⟩ := hr c { (default : Oper) with op := .load t (.tmp q) } rfl ρ w a h
  have h3 := h1 w (SameFor.refl _ _ _ _)
  simp only [execOp, Instr.loadAt, Sem.run_bind] at h3
  have hev : a.eval (.tmp q) = (a.tmps[q]?).getD undef := by simp [Act.eval]
  rw [hev] at h3
  generalize (a.tmps[q]?).getD undef = p at h3 ⊢
  cases p with
  | pointer ad =>
    cases ad with
    | none => simp [Instr.sureAddr] at h3
    | some ad =>
      refine ⟨v, ad, rfl, ?_, h2⟩
      simp only [Instr.sureAddr, Sem.run_bind, Sem.run_pure, Result.andThen_ok] at h3
      generalize (loadVar t ad).run P w = res at h3 ⊢
      cases res with
      | ok v' w' => simpa [Result.andThen] using h3
      | _ => simp [Result.andThen] at h3
  | _ => simp [Instr.sureAddr] at h3
theorem zk7 {α : Type} {k : Nat} {s : RT} {f : α -> List PV} {l : List α} {x : α} {q : Option HO} {pre : List (Nat × HO)} :
    look ((k, some (.row s (l.map f ++ [f x]))) :: (up pre ++ ((k, q) :: up pre))) = look ((k, some (.row s ((l ++ [x]).map f))) :: up pre) := by
  funext j
  simp only [look, List.map_append, List.map_cons, List.map_nil]
  by_cases e : k = j
  ·subst e; simp
  simp only [z00 e, cond_false]
  rw [z92]
  split
  ·rfl
  simp only [look, z00 e, cond_false]
theorem z80 {t : TypeId} {x : Operand} {k : Nat} {ps : List PV} (ho : o.op = .box t x) (hx : fr.ev x = some (.pv (.agg ps))) (hσ : look hp k = none) (hc : c.σ k = none) (hfr : nmFr k fr = false) (hhp : nmHp k hp = false) :
    Ok P c o fr (look hp) (.ptr k 0) (look ((k, some (.box (ps.map .pv))) :: hp)) := by
  intro ρ w a K Q h hK
  have hr := h.ev hx
  generalize hv : a.eval x = v at hr
  cases hr with
  | pv _ _ hr =>
    cases hr with
    | agg _ vs u hl hvu hr =>
      have hrun : (execOp a.eval o).run P w = .ok (.value (.pointer (some ⟨w.heap.size, 0, none⟩))) (w.alloc (.cells vs t)) := by
        have hn : (newVar t (.agg vs)).run P w = .ok ⟨w.heap.size, 0, none⟩ (w.alloc (.cells vs t)) := rfl
        simp only [execOp, ho, hv, Instr.box, Sem.run_bind, hn, Result.andThen_ok]
        rfl
      unfold Oper.wp
      rw [hrun]
      refine hK (z1w ρ k (some (w.heap.size, 1))) _ _ (h.alloc hσ hc hfr hhp 1 _ _ fun keep keepP => ?_) (.ptr _ _ _ fun cs' _ => ⟨w.heap.size, 1, z0j, rfl⟩)
      refine .box _ t vs u (z3w w _) (by simpa using hl) (fun j x hj => ?_) fun j x hj => ?_
      ·rw [List.getElem?_map] at hj
       obtain ⟨p, hp, rfl⟩ := Option.map_eq_some_iff.1 hj
       exact hvu j p hp
      rw [List.getElem?_map] at hj
      obtain ⟨p, hp, rfl⟩ := Option.map_eq_some_iff.1 hj
      exact .pv _ _ (keepP _ _ (hr j p hp))
theorem zp1 {t : TypeId} {x : Operand} {f : Nat} {ps : List PV} {p : PV} {fs : Array Field} {fd : Field} {d : TypeDesc} {σ : Heap'} (ho : o.op = .field t x f) (hx : fr.ev x = some (.pv (.agg ps)))
    (hu : P.underlying t = some (.struct fs)) (hf : fs[f]? = some fd) (hd : P.underlying fd.type = some d) (hrow : d.isRow = false) (hp : ps[fd.offset]? = some p) : OkV P c R1 o fr σ (.pv p) := by
  intro ρ w a h
  have hr := h.ev hx
  generalize hv : a.eval x = v at hr
  cases hr with
  | pv _ _ hr =>
    cases hr with
    | agg _ vs u hl hvu hr =>
      refine ⟨u fd.offset, fun w2 _ => ?_, .pv _ _ (hr _ _ hp)⟩
      simp [execOp, ho, hv, Instr.field, Sem.run_bind, run_underlying hu, hf, part, asAgg, z3e hd, hrow, hvu _ _ hp]
def retC (P : Program) (a : Tmp) (t : TypeId) (r : IV) (post : List (Nat × HO)) : Exit -> Fr -> Heap' -> Prop
  | .ret, fr, σ | .normal, fr, σ => (∃ x, ResC P fr σ a t x /\ ∀ F ρ w v, RepI F ρ σ w x v -> RepI F ρ σ w r v) /\ ∀ k o, look (up post) k = some o -> σ k = some o
  | _, _, _ => False
def retC2 (P : Program) (a : Tmp) (t : TypeId) (b : Tmp) (r : IV) (post : List (Nat × HO)) : Exit -> Fr -> Heap' -> Prop
  | .ret, fr, σ | .normal, fr, σ => (∃ x y, ResC P fr σ a t x /\ fr.get b = some y /\ ∀ F ρ w v, RepI F ρ σ w (.tup [x, y]) v -> RepI F ρ σ w r v) /\ ∀ k o, look (up post) k = some o -> σ k = some o
  | _, _, _ => False
theorem SC.start {f : FuncId} {fn : Func} {code : Code} {args : List IV} {pre post : List (Nat × HO)} {R : Nat -> Prop} {r : IV} {Q : Exit -> Fr -> Heap' -> Prop} (hf : P.funcs[f]? = some fn) (hb : fn.body = some code) (hn : args.length <= fn.ntmps)
    (hQ : ∀ (c : Cx) (e : Exit) (fr : Fr) (σ : Heap'), Q e fr σ -> (e = .ret ∨ e = .normal) /\ (∀ k o, look (up post) k = some o -> σ k = some o) /\ ∀ ρ w a, All c ρ σ w fr a -> ∃ v, (results fn a.tmps).run P w = .ok v w /\ RepI c.F ρ σ w r v)
    (h : ∀ F ρ w, Tr P ⟨F, R, ρ, look (up pre), w, fn.ntmps⟩ code (frOf 0 args) (look (up pre)) Q) : SC P f args pre R r post := by
  intro F ρ w vs hrel hargs
  refine calls_of_wp hf hb ?_
  have ha : All ⟨F, R, ρ, look (up pre), w, fn.ntmps⟩ ρ (look (up pre)) w (frOf 0 args) { tmps := vs.toArray ++ Array.replicate (fn.ntmps - vs.toArray.size) undef, defers := [] } := by
    refine ⟨hrel, fun t x hx => ?_, .refl _ _ _ _ _, rfl, ?_⟩
    ·obtain ⟨v, hv, hr⟩ := hargs.2 t x (by simpa using (zo4 hx).2)
     refine ⟨v, ?_, hr⟩
     rw [Array.getElem?_append_left (by simpa using (List.getElem?_eq_some_iff.1 hv).1)]
     simpa using hv
    have := hargs.1
    simp; omega
  refine wp_mono (h F ρ w ρ w _ ha) fun e a' w' hq => ?_
  obtain ⟨ρ', σ', fr', ha', hq⟩ := hq
  obtain ⟨he, hσ, hres⟩ := hQ ⟨F, R, ρ, look (up pre), w, fn.ntmps⟩ e fr' σ' hq
  obtain ⟨v, hv, h1⟩ := hres ρ' w' a' ha'
  obtain ⟨ρ'', ha'', keep⟩ := ha'.restrict hσ
  rcases he with rfl | rfl
  ·exact ⟨ha'.df, v, hv, ρ'', v, rfl, keep _ _ h1, ha''.rel, ha''.tr⟩
  exact ⟨ha'.df, v, hv, ρ'', v, rfl, keep _ _ h1, ha''.rel, ha''.tr⟩
theorem SC.ofC {f : FuncId} {fn : Func} {code : Code} {args : List IV} {pre post : List (Nat × HO)} {R : Nat -> Prop} {r : IV} {q : Tmp} {t : TypeId} (hf : P.funcs[f]? = some fn) (hb : fn.body = some code) (hn : args.length <= fn.ntmps) (hrs : fn.results = #[.cell q t])
    (h : ∀ F ρ w, Tr P ⟨F, R, ρ, look (up pre), w, fn.ntmps⟩ code (frOf 0 args) (look (up pre)) (retC P q t r post)) : SC P f args pre R r post := by
  refine SC.start hf hb hn (fun c e fr σ hq => ?_) h
  have key : (∃ x, ResC P fr σ q t x /\ ∀ F ρ w v, RepI F ρ σ w x v -> RepI F ρ σ w r v) -> ∀ ρ w a, All c ρ σ w fr a -> ∃ v, (results fn a.tmps).run P w = .ok v w /\ RepI c.F ρ σ w r v := by
    rintro ⟨x, hx, hs⟩ ρ w a ha
    obtain ⟨v, ad, hv, hv2, h1⟩ := y50 ha hx
    refine ⟨v, ?_, hs _ _ _ _ h1⟩
    simp [results, hrs, hv, hv2, Sem.run_bind]
  cases e with
  | ret => exact ⟨.inl rfl, hq.2, key hq.1⟩
  | normal => exact ⟨.inr rfl, hq.2, key hq.1⟩
  | _ => exact hq.elim
theorem SC.ofC2 {f : FuncId} {fn : Func} {code : Code} {args : List IV} {pre post : List (Nat × HO)} {R : Nat -> Prop} {r : IV} {q b : Tmp} {t : TypeId} (hf : P.funcs[f]? = some fn) (hb : fn.body = some code) (hn : args.length <= fn.ntmps) (hrs : fn.results = #[.cell q t, .tmp b])
    (h : ∀ F ρ w, Tr P ⟨F, R, ρ, look (up pre), w, fn.ntmps⟩ code (frOf 0 args) (look (up pre)) (retC2 P q t b r post)) : SC P f args pre R r post := by
  refine SC.start hf hb hn (fun c e fr σ hq => ?_) h
  have key : (∃ x y, ResC P fr σ q t x /\ fr.get b = some y /\ ∀ F ρ w v, RepI F ρ σ w (.tup [x, y]) v -> RepI F ρ σ w r v) -> ∀ ρ w a, All c ρ σ w fr a -> ∃ v, (results fn a.tmps).run P w = .ok v w /\ RepI c.F ρ σ w r v := by
    rintro ⟨x, y, hx, hy, hs⟩ ρ w a ha
    obtain ⟨v, ad, hv, hv2, h1⟩ := y50 ha hx
    obtain ⟨v', hv', h1'⟩ := ha.fr b y hy
    refine ⟨.tuple #[v, v'], ?_, hs _ _ _ _ (y64 h1 h1')⟩
    simp [results, hrs, hv, hv2, hv', Sem.run_bind]
  cases e with
  | ret => exact ⟨.inl rfl, hq.2, key hq.1⟩
  | normal => exact ⟨.inr rfl, hq.2, key hq.1⟩
  | _ => exact hq.elim
theorem rCk {q : Tmp} {t : TypeId} {x r : IV} {post : List (Nat × HO)} {σ : Heap'} {e : Exit} (he : e = .ret ∨ e = .normal) (hx : ResC P fr σ q t x) (hr : x = r) (hσ : ∀ k o, look (up post) k = some o -> σ k = some o) : retC P q t r post e fr σ := by
  rcases he with rfl | rfl <;> exact ⟨⟨x, hx, fun _ _ _ _ h => hr ▸ h⟩, hσ⟩
theorem retC2_ok {q b : Tmp} {t : TypeId} {x y r : IV} {post : List (Nat × HO)} {σ : Heap'} {e : Exit} (he : e = .ret ∨ e = .normal) (hx : ResC P fr σ q t x) (hy : fr.get b = some y) (hr : .tup [x, y] = r) (hσ : ∀ k o, look (up post) k = some o -> σ k = some o) : retC2 P q t b r post e fr σ := by
  rcases he with rfl | rfl <;> exact ⟨⟨x, y, hx, hy, fun _ _ _ _ h => hr ▸ h⟩, hσ⟩
end
section
variable {P : Program} {c : Cx} {R1 : Nat -> Prop} {o : Oper} {fr : Fr} {hp : Hp} {σ : Heap'} {Q : Exit -> Fr -> Heap' -> Prop}
theorem RepP.keepIt {own : Nat -> Prop} {w w' : World} {b0 : Nat} {p : PV} {v : Value} (h : RepP own w p v) (hs : w.heap.size <= w'.heap.size) (h0 : ∀ off sp, w.cell? ⟨b0, off, sp⟩ = none)
    (hk : ∀ b, b ≠ b0 -> w'.heap[b]? = w.heap[b]?) : RepP own w' p v := by
  have key : ∀ (b off : Nat) (x : Value), w.cell? ⟨b, off, none⟩ = some x -> w'.cell? ⟨b, off, none⟩ = some x := by
    intro b off x hx
    by_cases e : b = b0
    ·subst e; rw [h0] at hx; cases hx
    rw [<- hx]; exact World.cell?_of_block (a := ⟨b, off, none⟩) (hk b e)
  induction h with
  | val v => exact .val v
  | seq els a cap b off u ha hb hl hm hc _ ih => exact .seq els a cap b off u ha (fun hne => ⟨(hb hne).1, Nat.lt_of_lt_of_le (hb hne).2 hs⟩) hl hm (fun i el hi j c hj => key _ _ _ (hc i el hi j c hj)) ih
  | agg cs vs u hl hv _ ih => exact .agg cs vs u hl hv ih
  | ept cs off b o u hb hc _ ih => exact .ept cs off b o u ⟨hb.1, Nat.lt_of_lt_of_le hb.2 hs⟩ (fun j c hj => key _ _ _ (hc j c hj)) ih
theorem RepI.mapP {F : Nat -> Prop} {ρ : Loc} {w w' : World} {x : IV} {v : Value} (hk : ∀ p v, RepP (owned F ρ) w p v -> RepP (owned F ρ) w' p v) (h : RepI F ρ σ w x v) : RepI F ρ σ w' x v := by
  induction h with
  | pv p v h => exact .pv p v (hk _ _ h)
  | ptr k off v h => exact .ptr k off v h
  | sl k len v h => exact .sl k len v h
  | rpt k len off v h => exact .rpt k len off v h
  | mp k v h => exact .mp k v h
  | agg cs vs u hl hv _ ih => exact .agg cs vs u hl hv ih
  | tup cs vs u hl hv _ ih => exact .tup cs vs u hl hv ih
  | fn f xs ys vs ws u t hl hv _ hl' hv' _ ih ih' => exact .fn f xs ys vs ws u t hl hv ih hl' hv' ih'
theorem RepO.mapP {F : Nat -> Prop} {ρ : Loc} {w w' : World} {b cc : Nat} {o : HO} (hb : w'.heap[b]? = w.heap[b]?) (hk : ∀ p v, RepP (owned F ρ) w p v -> RepP (owned F ρ) w' p v) (h : RepO F ρ σ w b cc o) : RepO F ρ σ w' b cc o := by
  cases h with
  | box cs e a u h hl hv hr => exact .box cs e a u (hb.trans h) hl hv fun j x hj => (hr j x hj).mapP hk
  | row s els a u h hs hl hm hw hv hr => exact .row s els a u (hb.trans h) hs hl hm hw hv fun i el hi j x hj => hk _ _ (hr i el hi j x hj)
  | map es a t u h hl hv hr => exact .map es a t u (hb.trans h) hl hv fun i k p hi => hk _ _ (hr i k p hi)
theorem zb2 {w : World} {b0 : Nat} {s : ByteArray} {k : Nat} (h : w.heap[b0]? = some (.stringIter s k)) : ∀ off sp, w.cell? ⟨b0, off, sp⟩ = none := by
  intro off sp
  simp [World.cell?, h]
theorem All.iterSet {ρ : Loc} {w : World} {a : Act} {b0 k k' : Nat} {s : ByteArray} (h : All c ρ σ w fr a) (hit : w.heap[b0]? = some (.stringIter s k)) (hge : c.w.heap.size <= b0) (hun : ∀ j cc, ρ j ≠ some (b0, cc)) :
    All c ρ σ { w with heap := w.heap.setIfInBounds b0 (.stringIter s k') } fr a := by
  have hlt : b0 < w.heap.size := (Array.getElem?_eq_some_iff.1 hit).1
  have hoth : ∀ b, b ≠ b0 -> (w.heap.setIfInBounds b0 (Obj.stringIter s k'))[b]? = w.heap[b]? := fun b hb => by simp [Ne.symm hb]
  have hP : ∀ p v, RepP (owned c.F ρ) w p v -> RepP (owned c.F ρ) { w with heap := w.heap.setIfInBounds b0 (.stringIter s k') } p v := fun p v hp => hp.keepIt sI0 (zb2 hit) hoth
  refine ⟨⟨h.rel.inj, h.rel.apart, fun b hb => by simpa using h.rel.old b hb, fun j b cc hj => ?_, h.rel.real⟩, fun t x hx => ?_, ?_, h.df, h.sz⟩
  ·obtain ⟨o, h1, h2⟩ := h.rel.obj j b cc hj
   exact ⟨o, h1, h2.mapP (hoth b fun e => hun j cc (e ▸ hj)) hP⟩
  ·obtain ⟨v, hv, hr⟩ := h.fr t x hx
   exact ⟨v, hv, hr.mapP hP⟩
  have t := h.tr
  exact { t with
    size := by simpa using t.size
    blk := fun b hb hall => (hoth b oM0).trans (t.blk b hb hall) }
theorem All.rebase {ρ : Loc} {w : World} {a : Act} (h : All c ρ σ w fr a) : All ⟨c.F, c.R, ρ, σ, w, c.n⟩ ρ σ w fr a := ⟨h.rel, h.fr, .refl _ _ _ _ _, h.df, h.sz⟩
theorem All.unbase {ρ ρ' : Loc} {σ' : Heap'} {w w' : World} {fr' : Fr} {a a' : Act} (h : All c ρ σ w fr a) (h' : All ⟨c.F, c.R, ρ, σ, w, c.n⟩ ρ' σ' w' fr' a') (hc : ∀ k, σ k = none -> c.σ k = none) : All c ρ' σ' w' fr' a' :=
  ⟨h'.rel, h'.fr, h.tr.trans h'.tr (fun _ h => h) (fun k h1 _ => hc k h1), h'.df, h'.sz⟩
abbrev itv (b0 : Nat) : IV := .pv (.val (.pointer (some ⟨b0, 0, none⟩)))
theorem y1o (s : ByteArray) (i : Nat) : 1 <= (Utf8.decode s i).2 := by
  unfold Utf8.decode
  simp only
  repeat' split
  all_goals simp
def itPos (w : World) (b0 : Nat) : Nat := match w.heap[b0]? with
  | some (.stringIter _ k) => k
  | _ => 0
theorem Sub.cons {fr' : Fr} {d : Nat} {x : IV} (h : Sub σ fr fr') : Sub σ ((d, x) :: fr) ((d, x) :: fr') := by
  intro t y hy
  simp only [Fr.get] at hy ⊢
  cases hb : Nat.beq d t with
  | true => rw [hb] at hy; cases hy; exact ⟨_, rfl, fun _ _ _ _ h => h⟩
  | false => rw [hb] at hy; exact h t y hy
theorem Tr.strRange {id1 i2 bid : Nat} {ops1 ops2 : Array Oper} {rest : Code} {m g nx ex : Oper} {d0 d1 e1 e2 : Nat} {x0 : Operand} {ty : TypeId} {s : ByteArray}
    (h1 : ops1.toList = [m, g]) (hmo : m.op = .move x0) (hmd : m.dst = some d0) (hmg : m.guard = none) (hgo : g.op = .range ty (.tmp d0)) (hgd : g.dst = some d1) (hgg : g.guard = none)
    (hx0 : fr.ev x0 = some (iStr s)) (hty : P.underlying ty = some .string)
    (h2 : ops2.toList = [nx, ex]) (hno : nx.op = .next (.tmp d1) true) (hnd : nx.dst = some e1) (hng : nx.guard = none) (heo : ex.op = .extract (.tmp e1) 0) (hed : ex.dst = some e2) (heg : ex.guard = none)
    (hb0 : Nat.blt d0 c.n = true) (hb1 : Nat.blt d1 c.n = true) (hb2 : Nat.blt e1 c.n = true) (hb3 : Nat.blt e2 c.n = true)
    (hcσ : ∀ k, σ k = none -> c.σ k = none)
    (I : Nat -> Fr -> Prop) (h0 : ∃ fr0, Sub σ ((d0, iStr s) :: fr) fr0 /\ I 0 fr0)
    (hdone : ∀ b0 k fr', s.size <= k -> I k fr' -> Q .normal ((e2, iBool false) :: (e1, .tup [iBool false]) :: (d1, itv b0) :: fr') σ)
    (round : ∀ (ρ2 : Loc) (w2 : World) (b0 k : Nat) (fr' : Fr), k < s.size -> I k fr' ->
      Tr P ⟨c.F, c.R, ρ2, σ, w2, c.n⟩ rest ((e2, iBool true) :: (e1, .tup [iBool true, iInt k, .pv (.val (.int .i32 (Utf8.decode s k).1))]) :: (d1, itv b0) :: fr') σ (fun e fr1 σ1 => match e with
        | .normal => σ1 = σ /\ ∃ fr'', Sub σ fr1 ((d1, itv b0) :: fr'') /\ I (k + (Utf8.decode s k).2) fr''
        | .exit _ => False
        | e => Q e fr1 σ1)) :
    Tr P c (.seq (.region id1 ops1 false) (.block bid (.loop (.seq (.region i2 ops2 false) (.seq (.cond (.tmp e2) .skip (.exit bid)) rest))))) fr σ Q := by
  obtain ⟨fr0, hs0, hI0⟩ := h0
  intro ρ w a ha
  refine wp_seq (wp_region_list ?_)
  rw [h1]
  refine wpList_plain hmg fun K hK => ?_
  obtain ⟨v1, hr1, hv1⟩ := (zz8 (R1 := fun _ => True) hmo hx0) ρ w a ha
  unfold Oper.wp
  rw [hr1 w (.refl _ _ _ _), Oper.upon_value]
  refine hK _ _ ?_
  clear hK K
  have ha2 : All c ρ σ w ((d0, iStr s) :: fr) (a.put m.dst v1) := by
    have := ha.put (d := m.dst) hv1 (by rw [hmd]; intro t ht; cases ht; simpa using hb0)
    rwa [hmd] at this ⊢
  generalize a.put m.dst v1 = a2 at ha2 ⊢
  refine wpList_plain hgg fun K2 hK2 => ?_
  have hevs : a2.eval (.tmp d0) = .string s := z1f ha2 (show Fr.ev ((d0, iStr s) :: fr) (.tmp d0) = _ by simp [Fr.ev, Fr.get])
  have hrun : (execOp a2.eval g).run P w = .ok (.value (.pointer (some ⟨w.heap.size, 0, none⟩))) (w.iter s 0) := by
    simp [execOp, hgo, hevs, Sem.run_bind, run_range_string w ty s hty]
  unfold Oper.wp
  rw [hrun, Oper.upon_value]
  refine hK2 _ _ ?_
  obtain ⟨ha3, _⟩ := ha2.push (.stringIter s 0)
  have hfresh := ha2.fresh
  have ha4 : All c ρ σ (w.iter s 0) ((d1, itv w.heap.size) :: (d0, iStr s) :: fr) (a2.put g.dst (.pointer (some ⟨w.heap.size, 0, none⟩))) := by
    have := ha3.put (d := g.dst) (z37 (.pointer (some ⟨w.heap.size, 0, none⟩))) (by rw [hgd]; intro t ht; cases ht; simpa using hb1)
    rwa [hgd] at this ⊢
  have hge : c.w.heap.size <= w.heap.size := ha2.tr.size
  generalize hb : w.heap.size = b0 at *
  generalize a2.put g.dst (.pointer (some ⟨b0, 0, none⟩)) = a4 at ha4 ⊢
  show (Code.block _ _).wp P _ a4 (w.iter s 0)
  refine wp_block <| wp_loop (fun a' w' => ∃ k ρ' fr', All c ρ' σ w' ((d1, itv b0) :: fr') a' /\ I k fr' /\ w'.heap[b0]? = some (.stringIter s k) /\ ∀ j cc, ρ' j ≠ some (b0, cc)) (fun _ w' => s.size - itPos w' b0) ⟨0, ρ, fr0, ha4.sub (hs0.cons), hI0, by rw [<- hb]; exact World.iter_heap w s 0, fun j cc hj => by first | exact hfresh (.inr ⟨j, cc, hj⟩) | exact hfresh (by rw [hb]; exact .inr ⟨j, cc, hj⟩)⟩ ?_
  rintro a5 w5 ⟨k, ρ5, fr', ha5, hI, hit, hun⟩
  refine wp_seq (wp_region_list ?_)
  rw [h2]
  have hevp : a5.eval (.tmp d1) = .pointer (some ⟨b0, 0, none⟩) := z1f ha5 (show Fr.ev ((d1, itv b0) :: fr') (.tmp d1) = _ by simp [Fr.ev, Fr.get])
  have hpos : itPos w5 b0 = k := by simp [itPos, hit]
  have hlt0 : b0 < w5.heap.size := (Array.getElem?_eq_some_iff.1 hit).1
  by_cases hk : k < s.size
  ·have hrun5 : (execOp a5.eval nx).run P w5 = .ok (.value (.tuple #[.bool true, .int .i64 k, .int .i32 (Utf8.decode s k).1])) { w5 with heap := w5.heap.setIfInBounds b0 (.stringIter s (k + (Utf8.decode s k).2)) } := by
     simp [execOp, hno, hevp, Instr.next, getObj, setObj, Sem.run_bind, Sem.run, hit, hk, goInt, Result.andThen]
   refine wpList_plain hng fun K3 hK3 => ?_
   unfold Oper.wp
   rw [hrun5, Oper.upon_value]
   refine hK3 _ _ ?_
   have ha6 := ha5.iterSet (k' := k + (Utf8.decode s k).2) hit (by rw [<- hb] at hge ⊢; exact hge) hun
   have htup : RepI c.F ρ5 σ { w5 with heap := w5.heap.setIfInBounds b0 (.stringIter s (k + (Utf8.decode s k).2)) } (.tup [iBool true, iInt k, .pv (.val (.int .i32 (Utf8.decode s k).1))]) (.tuple #[.bool true, .int .i64 k, .int .i32 (Utf8.decode s k).1]) := zx8 (z37 _) (z37 _) (z37 _)
   have ha7 : All c ρ5 σ { w5 with heap := w5.heap.setIfInBounds b0 (.stringIter s (k + (Utf8.decode s k).2)) } ((e1, .tup [iBool true, iInt k, .pv (.val (.int .i32 (Utf8.decode s k).1))]) :: (d1, itv b0) :: fr') (a5.put nx.dst (.tuple #[.bool true, .int .i64 k, .int .i32 (Utf8.decode s k).1])) := by
     have := ha6.put (d := nx.dst) htup (by rw [hnd]; intro t ht; cases ht; simpa using hb2)
     rwa [hnd] at this ⊢
   generalize a5.put nx.dst (.tuple #[.bool true, .int .i64 k, .int .i32 (Utf8.decode s k).1]) = a7 at ha7 ⊢
   generalize hw7 : ({ w5 with heap := w5.heap.setIfInBounds b0 (.stringIter s (k + (Utf8.decode s k).2)) } : World) = w7 at ha7 ⊢
   have hit7 : w7.heap[b0]? = some (.stringIter s (k + (Utf8.decode s k).2)) := by rw [<- hw7]; simp [hlt0]
   refine wpList_plain heg fun K4 hK4 => ?_
   obtain ⟨v8, hr8, hv8⟩ := (z0h (R1 := fun _ => True) (vs := [iBool true, iInt k, .pv (.val (.int .i32 (Utf8.decode s k).1))]) (z := iBool true) heo (show Fr.ev ((e1, _) :: _) (.tmp e1) = _ by simp [Fr.ev, Fr.get]) rfl) ρ5 w7 a7 ha7
   unfold Oper.wp
   rw [hr8 w7 (.refl _ _ _ _), Oper.upon_value]
   refine hK4 _ _ ?_
   have ha8 : All c ρ5 σ w7 ((e2, iBool true) :: (e1, .tup [iBool true, iInt k, .pv (.val (.int .i32 (Utf8.decode s k).1))]) :: (d1, itv b0) :: fr') (a7.put ex.dst v8) := by
     have := ha7.put (d := ex.dst) hv8 (by rw [hed]; intro t ht; cases ht; simpa using hb3)
     rwa [hed] at this ⊢
   generalize a7.put ex.dst v8 = a8 at ha8 ⊢
   show (Code.seq _ _).wp P _ a8 w7
   refine wp_seq <| wp_cond (t := true) (z1f ha8 (show Fr.ev ((e2, iBool true) :: _) (.tmp e2) = _ by simp [Fr.ev, Fr.get])) ?_
   rw [if_pos rfl]
   refine wp_skip ?_
   show rest.wp P _ a8 w7
   refine wp_mono (round ρ5 w7 b0 k fr' hk hI ρ5 w7 a8 ha8.rebase) ?_
   rintro e a9 w9 ⟨ρ9, σ9, fr9, ha9, hq⟩
   have hlt7 : b0 < w7.heap.size := (Array.getElem?_eq_some_iff.1 hit7).1
   cases e with
   | normal =>
     obtain ⟨rfl, fr2, hsub, hI2⟩ := hq
     have hit9 : w9.heap[b0]? = some (.stringIter s (k + (Utf8.decode s k).2)) := (ha9.tr.blk b0 hlt7 fun j cc hj => absurd hj (hun j cc)).trans hit7
     refine ⟨⟨_, ρ9, fr2, (ha8.unbase ha9 hcσ).sub hsub, hI2, hit9, fun j cc hj => hun j cc (ha9.tr.own j b0 cc hj hlt7)⟩, ?_⟩
     have := y1o s k
     rw [hpos]
     simp only [itPos, hit9]
     omega
   | exit id => exact hq.elim
   | _ => exact ⟨ρ9, σ9, fr9, ha8.unbase ha9 hcσ, hq⟩
  have hrun5 : (execOp a5.eval nx).run P w5 = .ok (.value (.tuple #[.bool false])) w5 := by
    simp [execOp, hno, hevp, Instr.next, getObj, Sem.run_bind, Sem.run, hit, hk, Result.andThen]
  refine wpList_plain hng fun K3 hK3 => ?_
  unfold Oper.wp
  rw [hrun5, Oper.upon_value]
  refine hK3 _ _ ?_
  have htup : RepI c.F ρ5 σ w5 (.tup [iBool false]) (.tuple #[.bool false]) := .tup _ _ (fun _ => .bool false) rfl (fun j x hj => by
    match j, hj with
    | 0, _ => rfl
    | j + 1, hj => simp at hj) fun j x hj => by
    match j, hj with
    | 0, hj => cases hj; exact z37 _
    | j + 1, hj => simp at hj
  have ha7 : All c ρ5 σ w5 ((e1, .tup [iBool false]) :: (d1, itv b0) :: fr') (a5.put nx.dst (.tuple #[.bool false])) := by
    have := ha5.put (d := nx.dst) htup (by rw [hnd]; intro t ht; cases ht; simpa using hb2)
    rwa [hnd] at this ⊢
  generalize a5.put nx.dst (.tuple #[.bool false]) = a7 at ha7 ⊢
  refine wpList_plain heg fun K4 hK4 => ?_
  obtain ⟨v8, hr8, hv8⟩ := (z0h (R1 := fun _ => True) (vs := [iBool false]) (z := iBool false) heo (show Fr.ev ((e1, _) :: _) (.tmp e1) = _ by simp [Fr.ev, Fr.get]) rfl) ρ5 w5 a7 ha7
  unfold Oper.wp
  rw [hr8 w5 (.refl _ _ _ _), Oper.upon_value]
  refine hK4 _ _ ?_
  have ha8 : All c ρ5 σ w5 ((e2, iBool false) :: (e1, .tup [iBool false]) :: (d1, itv b0) :: fr') (a7.put ex.dst v8) := by
    have := ha7.put (d := ex.dst) hv8 (by rw [hed]; intro t ht; cases ht; simpa using hb3)
    rwa [hed] at this ⊢
  generalize a7.put ex.dst v8 = a8 at ha8 ⊢
  show (Code.seq _ _).wp P _ a8 w5
  refine wp_seq <| wp_cond (t := false) (z1f ha8 (show Fr.ev ((e2, iBool false) :: _) (.tmp e2) = _ by simp [Fr.ev, Fr.get])) ?_
  rw [if_neg sI0]
  refine wp_exit ?_
  show (if bid = bid then _ else _)
  rw [if_pos rfl]
  exact ⟨ρ5, σ, _, ha8, hdone b0 k fr' oM0 hI⟩
end
section
variable {P : Program} {c : Cx} {R1 : Nat -> Prop} {o : Oper} {fr : Fr} {hp : Hp} {σ : Heap'} {Q : Exit -> Fr -> Heap' -> Prop}
open Classical in
theorem SC.step1 {k0 : Nat} {f : FuncId} {args : List IV} {pre post : List (Nat × HO)} {R : Nat -> Prop} {r : IV} {hp : Hp} {ρ : Loc} {w : World} {a : Act} {vs : List Value} (hsc : SC P f args pre R r post)
    (h : All c ρ (look hp) w fr a) (hargs : RepL c.F ρ (look hp) w args vs) (hpre : ∀ k o, look (up pre) k = some o -> look hp k = some o) (hdom : post.map (·.1) = k0 :: pre.map (·.1)) (hσ0 : look hp k0 = none) (hc0 : c.σ k0 = none) (hfr0 : nmFr k0 fr = false) (hhp0 : nmHp k0 hp = false)
    (hR : ∀ k, c.R k -> look (up pre) k = none ∨ R k) (hr : only (post.map (·.1)) r = true) (hpost : z34 (post.map (·.1)) post = true) :
    Calls P f vs.toArray w fun e w' => ∃ ρ' v, e = .returned v /\ All c ρ' (look (up post ++ hp)) w' fr a /\ RepI c.F ρ' (look (up post ++ hp)) w' r v := by
  have hp0 : look (up pre) k0 = none := by
    cases h0 : look (up pre) k0 with
    | none => rfl
    | some o => rw [hpre k0 o h0] at hσ0; cases hσ0
  have hd : ∀ k, look (up post) k = none ↔ look (up pre) k = none /\ k ≠ k0 := fun k => by
    rw [z1u, z1u, hdom, List.mem_cons, not_or]
    exact And.comm
  have hpp : ∀ k, look (up post) k ≠ none -> look hp k ≠ none -> look (up pre) k ≠ none := fun k e e1 e2 => by
    by_cases e3 : k = k0
    ·subst e3; exact e1 hσ0
    exact e ((hd k).2 ⟨e2, e3⟩)
  let ρ1 : Loc := fun k => if look (up pre) k = none then none else ρ k
  let F1 : Nat -> Prop := fun b => c.F b ∨ ∃ k cc, ρ k = some (b, cc) /\ look (up pre) k = none
  have h1in : ∀ k, look (up pre) k ≠ none -> ρ1 k = ρ k := fun k hk => if_neg hk
  have h1out : ∀ k, look (up pre) k = none -> ρ1 k = none := fun k hk => if_pos hk
  have h1 : ∀ k l, ρ1 k = some l -> look (up pre) k ≠ none /\ ρ k = some l := fun k l hk => by
    by_cases e : look (up pre) k = none
    ·rw [h1out k e] at hk; cases hk
    exact ⟨e, (h1in k e) ▸ hk⟩
  have hown1 : ∀ b, owned F1 ρ1 b -> owned c.F ρ b := fun b hb => by
    rcases hb with (hb | ⟨k, cc, hk, _⟩) | ⟨k, cc, hk⟩
    ·exact .inl hb
    ·exact .inr ⟨k, cc, hk⟩
    exact .inr ⟨k, cc, (h1 k _ hk).2⟩
  have hconv : ∀ x : IV, ¬ Names (fun k => ¬ ∀ o, look (up pre) k = some o -> look hp k = some o /\ ρ1 k = ρ k) x := fun x hx => by
    obtain ⟨k, hk⟩ := hx.some
    exact hk fun o ho => ⟨hpre k o ho, h1in k (by simp [ho])⟩
  have hrel1 : RelH F1 ρ1 (look (up pre)) w := by
    refine ⟨fun k k' b cc cc' hk hk' => h.rel.inj k k' b cc cc' (h1 _ _ hk).2 (h1 _ _ hk').2, fun k b cc hk hb => ?_, fun b hb => ?_, fun k b cc hk => ?_, fun k o hk hρ => ?_⟩
    ·rcases hb with hb | ⟨k', cc', hk', hn⟩
     ·exact h.rel.apart k b cc (h1 _ _ hk).2 hb
     obtain rfl := h.rel.inj _ _ _ _ _ (h1 _ _ hk).2 hk'
     exact (h1 _ _ hk).1 hn
    ·rcases hb with hb | ⟨k', cc', hk', _⟩
     ·exact h.rel.old b hb
     exact h.rel.lt hk'
    ·obtain ⟨hne, hk2⟩ := h1 _ _ hk
     obtain ⟨o1, ho1, ho2⟩ := h.rel.obj k b cc hk2
     cases hl : look (up pre) k with
     | none => exact absurd hl hne
     | some o2 =>
       rw [hpre k o2 hl] at ho1; cases ho1
       exact ⟨_, rfl, ho2.conv hown1 fun x _ => hconv x⟩
    rw [h1in k (by simp [hk])] at hρ
    exact h.rel.real k o (hpre k o hk) hρ
  refine (hsc F1 ρ1 w vs hrel1 ⟨hargs.1, fun j x hj => ?_⟩).mono ?_
  ·obtain ⟨v, hv, hx⟩ := hargs.2 j x hj
   exact ⟨v, hv, hx.conv hown1 (hconv x)⟩
  rintro e w' ⟨ρ2, v, rfl, hv, hrel2, t⟩
  let ρ' : Loc := fun k => if look (up post) k = none then ρ k else ρ2 k
  have h2in : ∀ k, look (up post) k ≠ none -> ρ' k = ρ2 k := fun k hk => if_neg hk
  have h2out : ∀ k, look (up post) k = none -> ρ' k = ρ k := fun k hk => if_pos hk
  have h2none : ∀ k, look (up post) k = none -> ρ2 k = none := fun k hk => by
    cases h3 : ρ2 k with
    | none => rfl
    | some l =>
      obtain ⟨o1, ho1, _⟩ := hrel2.obj k l.1 l.2 h3
      rw [hk] at ho1; cases ho1
  have hσin : ∀ k, look (up post) k ≠ none -> look (up post ++ hp) k = look (up post) k := fun k hk => by
    rw [z2c]
    cases h3 : look (up post) k with
    | none => exact absurd h3 hk
    | some o => rfl
  have hσout : ∀ k, look (up post) k = none -> look (up post ++ hp) k = look hp k := fun k hk => by
    rw [z2c, hk]; rfl
  have hown2 : ∀ b, owned c.F ρ' b -> owned F1 ρ2 b := fun b hb => by
    rcases hb with hb | ⟨k, cc, hk⟩
    ·exact .inl (.inl hb)
    by_cases e : look (up post) k = none
    ·rw [h2out k e] at hk; exact .inl (.inr ⟨k, cc, hk, ((hd k).1 e).1⟩)
    rw [h2in k e] at hk; exact .inr ⟨k, cc, hk⟩
  have hconv2 : ∀ x : IV, only (post.map (·.1)) x = true -> ¬ Names (fun k => ¬ ∀ o, look (up post ++ hp) k = some o -> look (up post) k = some o /\ ρ' k = ρ2 k) x := fun x hx hn => by
    refine z9z hx (hn.imp fun k hk hmem => hk fun o ho => ?_)
    have hne : look (up post) k ≠ none := fun e => (z1u.1 e) hmem
    rw [hσin k hne] at ho
    exact ⟨ho, h2in k hne⟩
  have T : Trans c.F (fun k => look (up pre) k = none ∨ R k) ρ (look hp) w ρ' (look (up post ++ hp)) w' := by
    refine ⟨t.os, t.tape, t.output, t.size, fun b hb hall => t.blk b hb fun k cc hk => ?_, fun k b cc hk hb => ?_, fun k cs cs' e1 e2 => ?_, fun k cs cs' e1 e2 => ?_, fun k s s' els els' e1 e2 hl => ?_, fun k s s' els els' e1 e2 => ?_, fun k cs' e2 => ?_, fun k cs' e2 => ?_, fun k s els' e2 => ?_⟩
    ·obtain ⟨hne, hk2⟩ := h1 _ _ hk
     exact (hall k cc hk2).resolve_left hne
    ·by_cases e : look (up post) k = none
     ·rwa [h2out k e] at hk
     rw [h2in k e] at hk; exact (h1 _ _ (t.own k b cc hk hb)).2
    all_goals by_cases e : look (up post) k = none
    ·exact h2out k e
    ·cases h3 : look (up pre) k with
     | none => exact absurd h3 (hpp k e (by simp [e1]))
     | some o =>
       rw [hpre k o h3] at e1; cases e1
       rw [hσin k e] at e2
       rw [h2in k e, t.box k _ _ h3 e2, h1in k (by simp [h3])]
    ·exact h2out k e
    ·cases h3 : look (up pre) k with
     | none => exact absurd h3 (hpp k e (by simp [e1]))
     | some o =>
       rw [hpre k o h3] at e1; cases e1
       rw [hσin k e] at e2
       rw [h2in k e, t.map k _ _ h3 e2, h1in k (by simp [h3])]
    ·exact h2out k e
    ·cases h3 : look (up pre) k with
     | none => exact absurd h3 (hpp k e (by simp [e1]))
     | some o =>
       rw [hpre k o h3] at e1; cases e1
       rw [hσin k e] at e2
       rw [h2in k e, t.row k _ _ _ _ h3 e2 hl, h1in k (by simp [h3])]
    ·rw [hσout k e, e1] at e2; cases e2; exact Nat.le_refl _
    ·cases h3 : look (up pre) k with
     | none => exact absurd h3 (hpp k e (by simp [e1]))
     | some o =>
       rw [hpre k o h3] at e1; cases e1
       rw [hσin k e] at e2
       exact t.grow k _ _ _ _ h3 e2
    ·rw [hσout k e] at e2; exact .inr ⟨_, e2⟩
    ·rw [hσin k e] at e2
     rcases t.kindB k _ e2 with h3 | ⟨cs, h3⟩
     ·by_cases e3 : k = k0
      ·subst e3; exact .inl hσ0
      exact absurd ((hd k).2 ⟨h3, e3⟩) e
     exact .inr ⟨cs, hpre k _ h3⟩
    ·rw [hσout k e] at e2; exact .inr ⟨_, e2⟩
    ·rw [hσin k e] at e2
     rcases t.kindM k _ e2 with h3 | ⟨cs, h3⟩
     ·by_cases e3 : k = k0
      ·subst e3; exact .inl hσ0
      exact absurd ((hd k).2 ⟨h3, e3⟩) e
     exact .inr ⟨cs, hpre k _ h3⟩
    ·rw [hσout k e] at e2; exact .inr ⟨_, e2⟩
    rw [hσin k e] at e2
    rcases t.kindR k _ _ e2 with h3 | ⟨cs, h3⟩
    ·by_cases e3 : k = k0
     ·subst e3; exact .inl hσ0
     exact absurd ((hd k).2 ⟨h3, e3⟩) e
    exact .inr ⟨cs, hpre k _ h3⟩
  have hnone : ∀ k, (look hp k = none /\ look (up post ++ hp) k ≠ none) -> k = k0 := fun k hk => by
    by_cases e : look (up post) k = none
    ·rw [hσout k e] at hk; exact absurd hk.1 hk.2
    refine Classical.byContradiction fun e3 => ?_
    have e4 : look (up pre) k ≠ none := fun h3 => e ((hd k).2 ⟨h3, e3⟩)
    cases h3 : look (up pre) k with
    | none => exact e4 h3
    | some o => rw [hpre k o h3] at hk; cases hk.1
  have hnn : ∀ x : IV, nm k0 x = false -> ¬ Names (fun k => look hp k = none /\ look (up post ++ hp) k ≠ none) x := fun x hx hn => by
    rw [zd5 (hn.imp hnone)] at hx; cases hx
  refine ⟨ρ', v, rfl, h.step T hR ⟨fun k k' b cc cc' hk hk' => ?_, fun k b cc hk hb => ?_, fun b hb => Nat.lt_of_lt_of_le (h.rel.old b hb) t.size, fun k b cc hk => ?_, fun k o hk hρ => ?_⟩ (fun k e1 e2 => hnone k ⟨e1, e2⟩ ▸ hc0) fun _ x hx => hnn x (z98 hfr0 hx), hv.conv hown2 (hconv2 r hr)⟩
  ·by_cases e : look (up post) k = none <;> by_cases e' : look (up post) k' = none
   ·rw [h2out k e] at hk; rw [h2out k' e'] at hk'; exact h.rel.inj _ _ _ _ _ hk hk'
   ·rw [h2out k e] at hk; rw [h2in k' e'] at hk'
    exact absurd (.inr ⟨k, cc, hk, ((hd k).1 e).1⟩) (hrel2.apart _ _ _ hk')
   ·rw [h2in k e] at hk; rw [h2out k' e'] at hk'
    exact absurd (.inr ⟨k', cc', hk', ((hd k').1 e').1⟩) (hrel2.apart _ _ _ hk)
   rw [h2in k e] at hk; rw [h2in k' e'] at hk'; exact hrel2.inj _ _ _ _ _ hk hk'
  ·by_cases e : look (up post) k = none
   ·rw [h2out k e] at hk; exact h.rel.apart _ _ _ hk hb
   rw [h2in k e] at hk; exact hrel2.apart _ _ _ hk (.inl hb)
  ·by_cases e : look (up post) k = none
   ·rw [h2out k e] at hk
    obtain ⟨o1, ho1, ho2⟩ := h.rel.obj k b cc hk
    refine ⟨o1, (hσout k e).trans ho1, ho2.keep T (t.blk b (h.rel.lt hk) fun k' cc' hk' => ?_) fun x ⟨cs, h3, h4⟩ => hnn x (by subst h3; exact z66 (z7l hhp0 ho1) h4)⟩
    obtain ⟨hne, hk2⟩ := h1 _ _ hk'
    obtain rfl := h.rel.inj _ _ _ _ _ hk hk2
    exact absurd ((hd _).1 e).1 hne
   rw [h2in k e] at hk
   obtain ⟨o1, ho1, ho2⟩ := hrel2.obj k b cc hk
   refine ⟨o1, (hσin k e).trans ho1, ho2.conv hown2 fun x ⟨cs, h3, h4⟩ => hconv2 x ?_⟩
   subst h3
   exact z4u (z5a hpost (z3y ho1)) h4
  by_cases e : look (up post) k = none
  ·rw [hσout k e] at hk; rw [h2out k e] at hρ; exact h.rel.real k o hk hρ
  rw [hσin k e] at hk; rw [h2in k e] at hρ; exact hrel2.real k o hk hρ
theorem ok_calln {k0 : Nat} {f : FuncId} {os : Array Operand} {tys : Array TypeId} {xs args : List IV} {pre post : List (Nat × HO)} {R : Nat -> Prop} {r : IV} {hp : Hp} (hsc : SC P f args pre R r post) (hf : z06 P f)
    (ho : o.op = .call { callee := .value (.func f), args := os, argTypes := tys }) (hx : evs fr os.toList = some xs) (hs : Subs (look hp) xs args) (hpre : ∀ k o, look (up pre) k = some o -> look hp k = some o) (hdom : post.map (·.1) = k0 :: pre.map (·.1)) (hσ0 : look hp k0 = none) (hc0 : c.σ k0 = none) (hfr0 : nmFr k0 fr = false) (hhp0 : nmHp k0 hp = false)
    (hR : ∀ k, c.R k -> look (up pre) k = none ∨ R k) (hr : only (post.map (·.1)) r = true) (hpost : z34 (post.map (·.1)) post = true) : Ok P c o fr (look hp) r (look (up post ++ hp)) := by
  intro ρ w a K Q h hK
  obtain ⟨fn, hfn, hname, hbody⟩ := hf
  have hargs := hs _ _ _ _ (z7g h hx)
  have hrun : (execOp a.eval o).run P w = .ok (.enter f (os.toList.map a.eval).toArray) w := by
    have hcall : (callFunc f (os.toList.map a.eval).toArray).run P w = .ok (.enter f (os.toList.map a.eval).toArray) w := by
      unfold callFunc
      simp only [Sem.run_bind]
      show (Result.andThen (.ok P w) _) = _
      simp only [Result.andThen_ok, hfn, hname, hbody]
      rfl
    simp only [execOp, ho, resolve, Act.eval, Deferred.ofValue, Sem.run_bind, Sem.run_pure, Result.andThen_ok, invoke]
    rw [<- hcall]
    congr 2
    apply Array.ext'
    simp
  unfold Oper.wp
  rw [hrun, Oper.upon_enter]
  refine (hsc.step1 h hargs hpre hdom hσ0 hc0 hfr0 hhp0 hR hr hpost).mono ?_
  rintro e w' ⟨ρ', v, rfl, h1, h2⟩
  exact hK ρ' w' v h1 h2
theorem Sub.cons2 {fr' : Fr} {d : Nat} {x y : IV} (hx : ∀ F ρ w v, RepI F ρ σ w x v -> RepI F ρ σ w y v) (h : Sub σ fr fr') : Sub σ ((d, x) :: fr) ((d, y) :: fr') := by
  intro t z hz
  simp only [Fr.get] at hz ⊢
  cases hb : Nat.beq d t with
  | true => rw [hb] at hz; cases hz; exact ⟨_, rfl, hx⟩
  | false => rw [hb] at hz; exact h t z hz
theorem Sub.rfl' : Sub σ fr fr := fun _ y hy => ⟨y, hy, fun _ _ _ _ h => h⟩
theorem All.freezeCell {ρ : Loc} {w : World} {a : Act} {k k2 j n : Nat} {s : RT} {els : List (List PV)} {cs : List IV} (h : All c ρ (look hp) w fr a) (hk : look hp k = some (.row s els)) (hn : els.length = n) (hk2 : look hp k2 = some (.box cs)) (hj : cs[j]? = some (.sl k n)) (hne : k ≠ k2) :
    All c (z1w ρ k none) (look ((k2, some (.box (cs.set j (.pv (.seq els))))) :: (k, none) :: hp)) w fr a := by
  have h' := h.drop (k := k)
  have hown : ∀ b, owned c.F (z1w ρ k none) b -> owned c.F ρ b := fun b hb => by
    rcases hb with hb | ⟨i, cc, hi⟩
    ·exact .inl hb
    by_cases e : i = k
    ·subst e; rw [z0j] at hi; cases hi
    rw [z3c (Ne.symm e)] at hi; exact .inr ⟨i, cc, hi⟩
  have hlk : ∀ i, i ≠ k2 -> look ((k2, some (.box (cs.set j (.pv (.seq els))))) :: (k, none) :: hp) i = look ((k, none) :: hp) i := fun i hi => z5k (Ne.symm hi)
  have hlk2 : look ((k2, some (.box (cs.set j (.pv (.seq els))))) :: (k, none) :: hp) k2 = some (.box (cs.set j (.pv (.seq els)))) := z4z
  have hk2' : look ((k, none) :: hp) k2 = some (.box cs) := zz3 hne hk2
  have hnew : ∀ v, RepI c.F ρ (look hp) w (.sl k n) v -> RepP (owned c.F (z1w ρ k none)) w (.seq els) v := by
    intro v hv
    cases hv with
    | sl _ _ _ hv =>
      obtain ⟨_, h2⟩ := hv s els hk
      rcases h2 hn with ⟨b, cc, hρ, rfl⟩ | ⟨_, hz, rfl⟩
      ·obtain ⟨o1, h3, h4⟩ := h.rel.obj k b cc hρ
       rw [hk] at h3; cases h3
       cases h4 with
       | row _ _ r u h3 hs hl hm hwe hcells hu =>
         rw [<- hn]
         refine .seq els _ cc b 0 u (fun _ => rfl) (fun _ => ⟨fun ho => ?_, h.rel.lt hρ⟩) oM0 hm (fun i el hi q x hq => ?_) fun i el hi q x hq => (hu i el hi q x hq).own hown
         ·rcases ho with ho | ⟨i, cc', hi⟩
          ·exact h.rel.apart _ _ _ hρ ho
          by_cases e : i = k
          ·subst e; rw [z0j] at hi; cases hi
          rw [z3c (Ne.symm e)] at hi; exact e (h.rel.inj _ _ _ _ _ hi hρ)
         rw [z4x h3, Nat.zero_add, hwe el (List.mem_of_getElem? hi)]
         exact hcells i el hi q x hq
      have hnil : els = [] := List.eq_nil_of_length_eq_zero oM0
      subst hnil
      exact .seq [] none 0 0 0 (fun _ _ => undef) sI0 sI0 sI0 (by simp [maxLen]) sI0 sI0
  have hconv : ∀ x v, RepI c.F (z1w ρ k none) (look ((k, none) :: hp)) w x v -> RepI c.F (z1w ρ k none) (look ((k2, some (.box (cs.set j (.pv (.seq els))))) :: (k, none) :: hp)) w x v := by
    intro x v hx
    induction hx with
    | pv p v hp => exact .pv p v hp
    | ptr i off v hi =>
      refine .ptr i off v fun cs' h2 => ?_
      by_cases e : i = k2
      ·subst e; exact hi _ hk2'
      rw [hlk i e] at h2; exact hi _ h2
    | sl i len v hi =>
      refine .sl i len v fun s' els' h2 => ?_
      by_cases e : i = k2
      ·subst e; rw [hlk2] at h2; cases h2
      rw [hlk i e] at h2; exact hi _ _ h2
    | rpt i len off v hi =>
      refine .rpt i len off v fun s' els' h2 => ?_
      by_cases e : i = k2
      ·subst e; rw [hlk2] at h2; cases h2
      rw [hlk i e] at h2; exact hi _ _ h2
    | mp i v hi =>
      refine .mp i v fun es h2 => ?_
      by_cases e : i = k2
      ·subst e; rw [hlk2] at h2; cases h2
      rw [hlk i e] at h2; exact hi _ h2
    | agg cs vs u hl hv _ ih => exact .agg cs vs u hl hv ih
    | tup cs vs u hl hv _ ih => exact .tup cs vs u hl hv ih
    | fn f xs ys vs ws u t hl hv _ hl' hv' _ ih ih' => exact .fn f xs ys vs ws u t hl hv ih hl' hv' ih'
  refine ⟨⟨h'.rel.inj, h'.rel.apart, h'.rel.old, fun i b cc hi => ?_, fun i o h1 h2 => ?_⟩, fun t x hx => ?_, ?_, h'.df, h'.sz⟩
  ·obtain ⟨o1, h1, h2⟩ := h'.rel.obj i b cc hi
   by_cases e : i = k2
   ·subst e
    rw [hk2'] at h1; cases h1
    refine ⟨_, hlk2, ?_⟩
    have hρi : ρ i = some (b, cc) := by rwa [z3c hne] at hi
    obtain ⟨o3, h3, h4⟩ := h.rel.obj i b cc hρi
    rw [hk2] at h3; cases h3
    cases h2 with
    | box _ e' r u h5 hl hv hr =>
      cases h4 with
      | box _ e2 r2 u2 h6 hl2 hv2 hr2 =>
        rw [h5] at h6; cases h6
        refine .box _ e' r u h5 (by simpa using hl) (fun q x hq => ?_) fun q x hq => ?_
        ·by_cases eq : q = j
         ·subst eq
          exact hv q _ hj
         rw [List.getElem?_set_ne (Ne.symm eq)] at hq; exact hv q x hq
        by_cases eq : q = j
        ·subst eq
         have hlt : q < cs.length := (List.getElem?_eq_some_iff.1 hj).1
         rw [List.getElem?_set_self hlt] at hq; cases hq
         have e3 : u q = u2 q := by
           have a1 := hv q _ hj; have a2 := hv2 q _ hj
           rw [a1] at a2; exact Option.some.inj a2
         rw [e3]
         exact .pv _ _ (hnew _ (hr2 q _ hj))
        rw [List.getElem?_set_ne (Ne.symm eq)] at hq; exact hconv _ _ (hr q x hq)
   refine ⟨o1, (hlk i e).trans h1, ?_⟩
   cases h2 with
   | box cs' e' r u h hl hv hr => exact .box cs' e' r u h hl hv fun q x hq => hconv _ _ (hr q x hq)
   | row s' els' r u h hs hl hm hw hv hr => exact .row s' els' r u h hs hl hm hw hv hr
   | map es r t u h hl hv hr => exact .map es r t u h hl hv hr
  ·by_cases e : i = k2
   ·subst e
    rw [z3c hne] at h2
    obtain ⟨s', h3⟩ := h.rel.real i _ hk2 h2
    cases h3
   rw [hlk i e] at h1; exact h'.rel.real i o h1 h2
  ·obtain ⟨v, hv, hr⟩ := h'.fr t x hx
   exact ⟨v, hv, hconv _ _ hr⟩
  have t := h'.tr
  refine ⟨t.os, t.tape, t.output, t.size, t.blk, t.own, fun i a1 a2 e1 e2 => ?_, fun i a1 a2 e1 e2 => ?_, fun i s1 s2 a1 a2 e1 e2 hl => ?_, fun i s1 s2 a1 a2 e1 e2 => ?_, fun i a2 e2 => ?_, fun i a2 e2 => ?_, fun i s1 a2 e2 => ?_⟩
  all_goals by_cases e : i = k2
  ·subst e; exact t.box i _ _ e1 hk2'
  ·rw [hlk i e] at e2; exact t.box i _ _ e1 e2
  ·subst e; rw [hlk2] at e2; cases e2
  ·rw [hlk i e] at e2; exact t.map i _ _ e1 e2
  ·subst e; rw [hlk2] at e2; cases e2
  ·rw [hlk i e] at e2; exact t.row i _ _ _ _ e1 e2 hl
  ·subst e; rw [hlk2] at e2; cases e2
  ·rw [hlk i e] at e2; exact t.grow i _ _ _ _ e1 e2
  ·subst e; exact t.kindB i _ hk2'
  ·rw [hlk i e] at e2; exact t.kindB i _ e2
  ·subst e; rw [hlk2] at e2; cases e2
  ·rw [hlk i e] at e2; exact t.kindM i _ e2
  ·subst e; rw [hlk2] at e2; cases e2
  rw [hlk i e] at e2; exact t.kindR i _ _ e2
theorem Tr.freezeCell {x : Code} {k k2 j n : Nat} {s : RT} {els : List (List PV)} {cs : List IV} (hk : look hp k = some (.row s els)) (hn : els.length = n) (hk2 : look hp k2 = some (.box cs)) (hj : cs[j]? = some (.sl k n)) (hne : k ≠ k2)
    (h : Tr P c x fr (look ((k2, some (.box (cs.set j (.pv (.seq els))))) :: (k, none) :: hp)) Q) : Tr P c x fr (look hp) Q := fun _ w a ha => h _ w a (ha.freezeCell hk hn hk2 hj hne)
theorem Tr.growCell {x : Code} {k k2 j : Nat} {cs : List IV} (s : RT) (hk2 : look hp k2 = some (.box cs)) (hj : cs[j]? = some (.pv (.val (.slice none 0 0)))) (hσ : look hp k = none) (hc : c.σ k = none) (hfr : nmFr k fr = false) (hhp : nmHp k hp = false)
    (h : Tr P c x fr (look ((k2, some (.box (cs.set j (.sl k 0)))) :: (k, some (.row s [])) :: hp)) Q) : Tr P c x fr (look hp) Q := by
  intro ρ w a ha
  obtain ⟨hk, h'⟩ := ha.ghost hσ hc hfr hhp s
  refine h ρ w a ?_
  have hne : k ≠ k2 := fun e => by subst e; rw [hσ] at hk2; cases hk2
  have hk2' : look ((k, some (.row s [])) :: hp) k2 = some (.box cs) := zz3 hne hk2
  have hlk : ∀ i, i ≠ k2 -> look ((k2, some (.box (cs.set j (.sl k 0)))) :: (k, some (.row s [])) :: hp) i = look ((k, some (.row s [])) :: hp) i := fun i hi => z5k (Ne.symm hi)
  have hlk2 : look ((k2, some (.box (cs.set j (.sl k 0)))) :: (k, some (.row s [])) :: hp) k2 = some (.box (cs.set j (.sl k 0))) := z4z
  have hconv : ∀ x v, RepI c.F ρ (look ((k, some (.row s [])) :: hp)) w x v -> RepI c.F ρ (look ((k2, some (.box (cs.set j (.sl k 0)))) :: (k, some (.row s [])) :: hp)) w x v := by
    intro x v hx
    induction hx with
    | pv p v hp => exact .pv p v hp
    | ptr i off v hi =>
      refine .ptr i off v fun cs' h2 => ?_
      by_cases e : i = k2
      ·subst e; exact hi _ hk2'
      rw [hlk i e] at h2; exact hi _ h2
    | sl i len v hi =>
      refine .sl i len v fun s' els' h2 => ?_
      by_cases e : i = k2
      ·subst e; rw [hlk2] at h2; cases h2
      rw [hlk i e] at h2; exact hi _ _ h2
    | rpt i len off v hi =>
      refine .rpt i len off v fun s' els' h2 => ?_
      by_cases e : i = k2
      ·subst e; rw [hlk2] at h2; cases h2
      rw [hlk i e] at h2; exact hi _ _ h2
    | mp i v hi =>
      refine .mp i v fun es h2 => ?_
      by_cases e : i = k2
      ·subst e; rw [hlk2] at h2; cases h2
      rw [hlk i e] at h2; exact hi _ h2
    | agg cs vs u hl hv _ ih => exact .agg cs vs u hl hv ih
    | tup cs vs u hl hv _ ih => exact .tup cs vs u hl hv ih
    | fn f xs ys vs ws u t hl hv _ hl' hv' _ ih ih' => exact .fn f xs ys vs ws u t hl hv ih hl' hv' ih'
  refine ⟨⟨h'.rel.inj, h'.rel.apart, h'.rel.old, fun i b cc hi => ?_, fun i o h1 h2 => ?_⟩, fun t x hx => ?_, ?_, h'.df, h'.sz⟩
  ·obtain ⟨o1, h1, h2⟩ := h'.rel.obj i b cc hi
   by_cases e : i = k2
   ·subst e
    rw [hk2'] at h1; cases h1
    refine ⟨_, hlk2, ?_⟩
    cases h2 with
    | box _ e' r u h5 hl hv hr =>
      refine .box _ e' r u h5 (by simpa using hl) (fun q x hq => ?_) fun q x hq => ?_
      ·by_cases eq : q = j
       ·subst eq; exact hv q _ hj
       rw [List.getElem?_set_ne (Ne.symm eq)] at hq; exact hv q x hq
      by_cases eq : q = j
      ·subst eq
       have hlt : q < cs.length := (List.getElem?_eq_some_iff.1 hj).1
       rw [List.getElem?_set_self hlt] at hq; cases hq
       have hnil := (hr q _ hj).val
       rw [hnil]
       refine .sl _ _ _ fun s1 els1 h1 => ?_
       rw [hlk _ hne, z4z] at h1
       cases h1
       exact ⟨Nat.zero_le _, fun _ => .inr ⟨hk, rfl, rfl⟩⟩
      rw [List.getElem?_set_ne (Ne.symm eq)] at hq; exact hconv _ _ (hr q x hq)
   refine ⟨o1, (hlk i e).trans h1, ?_⟩
   cases h2 with
   | box cs' e' r u h hl hv hr => exact .box cs' e' r u h hl hv fun q x hq => hconv _ _ (hr q x hq)
   | row s' els' r u h hs hl hm hw hv hr => exact .row s' els' r u h hs hl hm hw hv hr
   | map es r t u h hl hv hr => exact .map es r t u h hl hv hr
  ·by_cases e : i = k2
   ·subst e
    obtain ⟨s', h3⟩ := h'.rel.real i _ hk2' h2
    cases h3
   rw [hlk i e] at h1; exact h'.rel.real i o h1 h2
  ·obtain ⟨v, hv, hr⟩ := h'.fr t x hx
   exact ⟨v, hv, hconv _ _ hr⟩
  have t := h'.tr
  refine ⟨t.os, t.tape, t.output, t.size, t.blk, t.own, fun i a1 a2 e1 e2 => ?_, fun i a1 a2 e1 e2 => ?_, fun i s1 s2 a1 a2 e1 e2 hl => ?_, fun i s1 s2 a1 a2 e1 e2 => ?_, fun i a2 e2 => ?_, fun i a2 e2 => ?_, fun i s1 a2 e2 => ?_⟩
  all_goals by_cases e : i = k2
  ·subst e; exact t.box i _ _ e1 hk2'
  ·rw [hlk i e] at e2; exact t.box i _ _ e1 e2
  ·subst e; rw [hlk2] at e2; cases e2
  ·rw [hlk i e] at e2; exact t.map i _ _ e1 e2
  ·subst e; rw [hlk2] at e2; cases e2
  ·rw [hlk i e] at e2; exact t.row i _ _ _ _ e1 e2 hl
  ·subst e; rw [hlk2] at e2; cases e2
  ·rw [hlk i e] at e2; exact t.grow i _ _ _ _ e1 e2
  ·subst e; exact t.kindB i _ hk2'
  ·rw [hlk i e] at e2; exact t.kindB i _ e2
  ·subst e; rw [hlk2] at e2; cases e2
  ·rw [hlk i e] at e2; exact t.kindM i _ e2
  ·subst e; rw [hlk2] at e2; cases e2
  rw [hlk i e] at e2; exact t.kindR i _ _ e2
theorem tup2_sub {F : Nat -> Prop} {ρ : Loc} {w : World} {x x' y : IV} {v : Value} (hx : ∀ v, RepI F ρ σ w x v -> RepI F ρ σ w x' v) (h : RepI F ρ σ w (.tup [x, y]) v) : RepI F ρ σ w (.tup [x', y]) v := by
  cases h with
  | tup _ vs u hl hv hr =>
    refine .tup _ vs u hl (fun j z hj => ?_) fun j z hj => ?_
    ·match j, hj with
     | 0, _ => exact hv 0 x rfl
     | 1, hj => exact hv 1 y rfl
     | j + 2, hj => simp at hj
    match j, hj with
    | 0, hj => cases hj; exact hx _ (hr 0 x rfl)
    | 1, hj => cases hj; exact hr 1 y rfl
    | j + 2, hj => simp at hj
end
abbrev uT35 := @Tryz.underlying35
abbrev uT43 := @Tryz.underlying43
abbrev uT23 := @Tryz.underlying23
abbrev uT25 := @Tryz.underlying25
abbrev uT44 := @Tryz.underlying44
abbrev uT41 := @Tryz.underlying41
abbrev uT3 := @Tryz.underlying3
abbrev uT22 := @Tryz.underlying22
abbrev uT9 := @Tryz.underlying9
theorem z1a : Tryz.prog.follows .mixedOrders = true := by kernel_rfl
theorem tS3 : (Tryz.prog.info? 3).map (·.size) = some 1 := by kernel_rfl
theorem tS4 : (Tryz.prog.info? 4).map (·.size) = some 1 := by kernel_rfl
theorem tS5 : (Tryz.prog.info? 5).map (·.size) = some 1 := by kernel_rfl
theorem tS9 : (Tryz.prog.info? 9).map (·.size) = some 1 := by kernel_rfl
theorem tS23 : (Tryz.prog.info? 23).map (·.size) = some 1 := by kernel_rfl
theorem tS25 : (Tryz.prog.info? 25).map (·.size) = some 2 := by kernel_rfl
theorem tS35 : (Tryz.prog.info? 35).map (·.size) = some 1 := by kernel_rfl
theorem tS41 : (Tryz.prog.info? 41).map (·.size) = some 1 := by kernel_rfl
theorem tS43 : (Tryz.prog.info? 43).map (·.size) = some 8 := by kernel_rfl
theorem tS44 : (Tryz.prog.info? 44).map (·.size) = some 1 := by kernel_rfl
theorem tS46 : (Tryz.prog.info? 46).map (·.size) = some 5 := by kernel_rfl
theorem tS49 : (Tryz.prog.info? 49).map (·.size) = some 2 := by kernel_rfl
theorem tS51 : (Tryz.prog.info? 51).map (·.size) = some 5 := by kernel_rfl
theorem tS62 : (Tryz.prog.info? 62).map (·.size) = some 3 := by kernel_rfl
theorem tS78 : (Tryz.prog.info? 78).map (·.size) = some 5 := by kernel_rfl
theorem tS83 : (Tryz.prog.info? 83).map (·.size) = some 2 := by kernel_rfl
theorem tS91 : (Tryz.prog.info? 91).map (·.size) = some 5 := by kernel_rfl
theorem zq8 : (Tryz.prog.info? 104).map (·.size) = some 5 := by kernel_rfl
theorem z70 : (Tryz.prog.info? 108).map (·.size) = some 5 := by kernel_rfl
theorem zq9 : (Tryz.prog.info? 149).map (·.size) = some 2 := by kernel_rfl
theorem tB3 : (Tryz.prog.info? 3).map (fun i => (i.size, i.bytes, (i.zero.map fun z => z.cells.size))) = some (1, 8, some 1) := by kernel_rfl
theorem tC3 : (Tryz.prog.info? 3).map (fun i => (i.size, i.bytes)) = some (1, 8) := by kernel_rfl
theorem tZ3 : ((Tryz.prog.info? 3).bind (·.zero)) = some (.int .i64 (0)) := by kernel_rfl
theorem tC4 : (Tryz.prog.info? 4).map (fun i => (i.size, i.bytes)) = some (1, 1) := by kernel_rfl
theorem tZ4 : ((Tryz.prog.info? 4).bind (·.zero)) = some (.bool false) := by kernel_rfl
theorem tZ25 : ((Tryz.prog.info? 25).bind (·.zero)) = some (.agg #[.slice none 0 0, .slice none 0 0]) := by kernel_rfl
theorem tF25_0 : z0m Tryz.prog 25 0 0 := ⟨_, _, 0, uT25, rfl, rfl, by kernel_rfl⟩
theorem tF25_1 : z0m Tryz.prog 25 1 1 := ⟨_, _, 0, uT25, rfl, rfl, by kernel_rfl⟩
theorem tP25 : ∃ fs, Tryz.prog.underlying 25 = some (.struct fs) /\ z2f Tryz.prog fs #[(0, 1), (1, 1)] := ⟨_, uT25, fun _ => by kernel_rfl⟩
theorem tB43 : (Tryz.prog.info? 43).map (fun i => (i.size, i.bytes, (i.zero.map fun z => z.cells.size))) = some (8, 136, some 8) := by kernel_rfl
theorem tZ43 : ((Tryz.prog.info? 43).bind (·.zero)) = some (.agg #[.int .i64 (0), .int .i64 (0), .int .i64 (0), .string ⟨#[]⟩, .slice none 0 0, .slice none 0 0, .slice none 0 0, .slice none 0 0]) := by kernel_rfl
theorem tF43_0 : z0m Tryz.prog 43 0 0 := ⟨_, _, 0, uT43, rfl, rfl, by kernel_rfl⟩
theorem tF43_1 : z0m Tryz.prog 43 1 1 := ⟨_, _, 0, uT43, rfl, rfl, by kernel_rfl⟩
theorem tF43_2 : z0m Tryz.prog 43 2 2 := ⟨_, _, 0, uT43, rfl, rfl, by kernel_rfl⟩
theorem tF43_3 : z0m Tryz.prog 43 3 3 := ⟨_, _, 0, uT43, rfl, rfl, by kernel_rfl⟩
theorem tF43_4 : z0m Tryz.prog 43 4 4 := ⟨_, _, 0, uT43, rfl, rfl, by kernel_rfl⟩
theorem tF43_5 : z0m Tryz.prog 43 5 5 := ⟨_, _, 0, uT43, rfl, rfl, by kernel_rfl⟩
theorem tF43_6 : z0m Tryz.prog 43 6 6 := ⟨_, _, 0, uT43, rfl, rfl, by kernel_rfl⟩
theorem tF43_7 : z0m Tryz.prog 43 7 7 := ⟨_, _, 0, uT43, rfl, rfl, by kernel_rfl⟩
theorem tP43 : ∃ fs, Tryz.prog.underlying 43 = some (.struct fs) /\ z2f Tryz.prog fs #[(0, 1), (1, 1), (2, 1), (3, 1), (4, 1), (5, 1), (6, 1), (7, 1)] := ⟨_, uT43, fun _ => by kernel_rfl⟩
theorem tB44 : (Tryz.prog.info? 44).map (fun i => (i.size, i.bytes, (i.zero.map fun z => z.cells.size))) = some (1, 24, some 1) := by kernel_rfl
theorem tZ44 : ((Tryz.prog.info? 44).bind (·.zero)) = some (.slice none 0 0) := by kernel_rfl
theorem tZ46 : ((Tryz.prog.info? 46).bind (·.zero)) = some (.agg #[.int .i64 (0), .int .i64 (0), .slice none 0 0, .int .i64 (0), .int .i64 (0)]) := by kernel_rfl
theorem tF46_0 : z0m Tryz.prog 46 0 0 := ⟨_, _, 0, Tryz.underlying46, rfl, rfl, by kernel_rfl⟩
theorem tF46_1 : z0m Tryz.prog 46 1 1 := ⟨_, _, 0, Tryz.underlying46, rfl, rfl, by kernel_rfl⟩
theorem tF46_2 : z0m Tryz.prog 46 2 2 := ⟨_, _, 0, Tryz.underlying46, rfl, rfl, by kernel_rfl⟩
theorem tF46_3 : z0m Tryz.prog 46 3 3 := ⟨_, _, 0, Tryz.underlying46, rfl, rfl, by kernel_rfl⟩
theorem tF46_4 : z0m Tryz.prog 46 4 4 := ⟨_, _, 0, Tryz.underlying46, rfl, rfl, by kernel_rfl⟩
theorem tP46 : ∃ fs, Tryz.prog.underlying 46 = some (.struct fs) /\ z2f Tryz.prog fs #[(0, 1), (1, 1), (2, 1), (3, 1), (4, 1)] := ⟨_, Tryz.underlying46, fun _ => by kernel_rfl⟩
theorem tZ49 : ((Tryz.prog.info? 49).bind (·.zero)) = some (.agg #[.string ⟨#[]⟩, .int .i64 (0)]) := by kernel_rfl
theorem tF49_0 : z0m Tryz.prog 49 0 0 := ⟨_, _, 0, Tryz.underlying49, rfl, rfl, by kernel_rfl⟩
theorem tF49_1 : z0m Tryz.prog 49 1 1 := ⟨_, _, 0, Tryz.underlying49, rfl, rfl, by kernel_rfl⟩
theorem tP49 : ∃ fs, Tryz.prog.underlying 49 = some (.struct fs) /\ z2f Tryz.prog fs #[(0, 1), (1, 1)] := ⟨_, Tryz.underlying49, fun _ => by kernel_rfl⟩
theorem tB51 : (Tryz.prog.info? 51).map (fun i => (i.size, i.bytes, (i.zero.map fun z => z.cells.size))) = some (5, 80, some 5) := by kernel_rfl
theorem tZ51 : ((Tryz.prog.info? 51).bind (·.zero)) = some (.agg #[.string ⟨#[]⟩, .int .i64 (0), .int .i64 (0), .slice none 0 0, .slice none 0 0]) := by kernel_rfl
theorem tF51_0 : z0m Tryz.prog 51 0 0 := ⟨_, _, 0, Tryz.underlying51, rfl, rfl, by kernel_rfl⟩
theorem tF51_1 : z0m Tryz.prog 51 1 1 := ⟨_, _, 0, Tryz.underlying51, rfl, rfl, by kernel_rfl⟩
theorem tF51_2 : z0m Tryz.prog 51 2 2 := ⟨_, _, 0, Tryz.underlying51, rfl, rfl, by kernel_rfl⟩
theorem tF51_3 : z0m Tryz.prog 51 3 3 := ⟨_, _, 0, Tryz.underlying51, rfl, rfl, by kernel_rfl⟩
theorem tF51_4 : z0m Tryz.prog 51 4 4 := ⟨_, _, 0, Tryz.underlying51, rfl, rfl, by kernel_rfl⟩
theorem tP51 : ∃ fs, Tryz.prog.underlying 51 = some (.struct fs) /\ z2f Tryz.prog fs #[(0, 1), (1, 1), (2, 1), (3, 1), (4, 1)] := ⟨_, Tryz.underlying51, fun _ => by kernel_rfl⟩
theorem tZ57 : ((Tryz.prog.info? 57).bind (·.zero)) = some (.agg #[.slice none 0 0, .int .i64 (0), .slice none 0 0, .int .i64 (0)]) := by kernel_rfl
theorem tF57_0 : z0m Tryz.prog 57 0 0 := ⟨_, _, 0, Tryz.underlying57, rfl, rfl, by kernel_rfl⟩
theorem tF57_1 : z0m Tryz.prog 57 1 1 := ⟨_, _, 0, Tryz.underlying57, rfl, rfl, by kernel_rfl⟩
theorem tF57_2 : z0m Tryz.prog 57 2 2 := ⟨_, _, 0, Tryz.underlying57, rfl, rfl, by kernel_rfl⟩
theorem tF57_3 : z0m Tryz.prog 57 3 3 := ⟨_, _, 0, Tryz.underlying57, rfl, rfl, by kernel_rfl⟩
theorem tP57 : ∃ fs, Tryz.prog.underlying 57 = some (.struct fs) /\ z2f Tryz.prog fs #[(0, 1), (1, 1), (2, 1), (3, 1)] := ⟨_, Tryz.underlying57, fun _ => by kernel_rfl⟩
theorem tZ62 : ((Tryz.prog.info? 62).bind (·.zero)) = some (.agg #[.map none, .map none, .map none]) := by kernel_rfl
theorem tF62_0 : z0m Tryz.prog 62 0 0 := ⟨_, _, 0, Tryz.underlying62, rfl, rfl, by kernel_rfl⟩
theorem tF62_1 : z0m Tryz.prog 62 1 1 := ⟨_, _, 0, Tryz.underlying62, rfl, rfl, by kernel_rfl⟩
theorem tF62_2 : z0m Tryz.prog 62 2 2 := ⟨_, _, 0, Tryz.underlying62, rfl, rfl, by kernel_rfl⟩
theorem tP62 : ∃ fs, Tryz.prog.underlying 62 = some (.struct fs) /\ z2f Tryz.prog fs #[(0, 1), (1, 1), (2, 1)] := ⟨_, Tryz.underlying62, fun _ => by kernel_rfl⟩
theorem tZ71 : ((Tryz.prog.info? 71).bind (·.zero)) = some (.agg #[.slice none 0 0, .slice none 0 0, .slice none 0 0, .slice none 0 0, .int .i64 (0), .int .i64 (0), .slice none 0 0, .int .i64 (0), .int .i64 (0), .bool false]) := by kernel_rfl
theorem tF71_0 : z0m Tryz.prog 71 0 0 := ⟨_, _, 1, Tryz.underlying71, rfl, rfl, by kernel_rfl⟩
theorem tF71_1 : z0m Tryz.prog 71 1 2 := ⟨_, _, 0, Tryz.underlying71, rfl, rfl, by kernel_rfl⟩
theorem tF71_3 : z0m Tryz.prog 71 3 4 := ⟨_, _, 4, Tryz.underlying71, rfl, rfl, by kernel_rfl⟩
theorem tF71_4 : z0m Tryz.prog 71 4 9 := ⟨_, _, 0, Tryz.underlying71, rfl, rfl, by kernel_rfl⟩
theorem tP71 : ∃ fs, Tryz.prog.underlying 71 = some (.struct fs) /\ z2f Tryz.prog fs #[(0, 2), (2, 1), (3, 1), (4, 5), (9, 1)] := ⟨_, Tryz.underlying71, fun _ => by kernel_rfl⟩
theorem tZ78 : ((Tryz.prog.info? 78).bind (·.zero)) = some (.agg #[.bool false, .bool false, .slice none 0 0, .slice none 0 0, .slice none 0 0]) := by kernel_rfl
theorem tF78_0 : z0m Tryz.prog 78 0 0 := ⟨_, _, 0, Tryz.underlying78, rfl, rfl, by kernel_rfl⟩
theorem tF78_1 : z0m Tryz.prog 78 1 1 := ⟨_, _, 0, Tryz.underlying78, rfl, rfl, by kernel_rfl⟩
theorem tF78_2 : z0m Tryz.prog 78 2 2 := ⟨_, _, 0, Tryz.underlying78, rfl, rfl, by kernel_rfl⟩
theorem tF78_3 : z0m Tryz.prog 78 3 3 := ⟨_, _, 0, Tryz.underlying78, rfl, rfl, by kernel_rfl⟩
theorem tF78_4 : z0m Tryz.prog 78 4 4 := ⟨_, _, 0, Tryz.underlying78, rfl, rfl, by kernel_rfl⟩
theorem tP78 : ∃ fs, Tryz.prog.underlying 78 = some (.struct fs) /\ z2f Tryz.prog fs #[(0, 1), (1, 1), (2, 1), (3, 1), (4, 1)] := ⟨_, Tryz.underlying78, fun _ => by kernel_rfl⟩
theorem tZ83 : ((Tryz.prog.info? 83).bind (·.zero)) = some (.agg #[.int .i64 (0), .slice none 0 0]) := by kernel_rfl
theorem tF83_0 : z0m Tryz.prog 83 0 0 := ⟨_, _, 0, Tryz.underlying83, rfl, rfl, by kernel_rfl⟩
theorem tF83_1 : z0m Tryz.prog 83 1 1 := ⟨_, _, 0, Tryz.underlying83, rfl, rfl, by kernel_rfl⟩
theorem tP83 : ∃ fs, Tryz.prog.underlying 83 = some (.struct fs) /\ z2f Tryz.prog fs #[(0, 1), (1, 1)] := ⟨_, Tryz.underlying83, fun _ => by kernel_rfl⟩
theorem tZ89 : ((Tryz.prog.info? 89).bind (·.zero)) = some (.agg #[.slice none 0 0, .slice none 0 0, .string ⟨#[]⟩, .int .i64 (0), .int .i64 (0), .slice none 0 0, .slice none 0 0, .slice none 0 0]) := by kernel_rfl
theorem tF89_0 : z0m Tryz.prog 89 0 0 := ⟨_, _, 1, Tryz.underlying89, rfl, rfl, by kernel_rfl⟩
theorem tF89_1 : z0m Tryz.prog 89 1 2 := ⟨_, _, 4, Tryz.underlying89, rfl, rfl, by kernel_rfl⟩
theorem tF89_2 : z0m Tryz.prog 89 2 7 := ⟨_, _, 0, Tryz.underlying89, rfl, rfl, by kernel_rfl⟩
theorem tP89 : ∃ fs, Tryz.prog.underlying 89 = some (.struct fs) /\ z2f Tryz.prog fs #[(0, 2), (2, 5), (7, 1)] := ⟨_, Tryz.underlying89, fun _ => by kernel_rfl⟩
theorem tZ91 : ((Tryz.prog.info? 91).bind (·.zero)) = some (.agg #[.bool false, .bool false, .slice none 0 0, .slice none 0 0, .slice none 0 0]) := by kernel_rfl
theorem tF91_0 : z0m Tryz.prog 91 0 0 := ⟨_, _, 0, Tryz.underlying91, rfl, rfl, by kernel_rfl⟩
theorem tF91_1 : z0m Tryz.prog 91 1 1 := ⟨_, _, 0, Tryz.underlying91, rfl, rfl, by kernel_rfl⟩
theorem tF91_2 : z0m Tryz.prog 91 2 2 := ⟨_, _, 0, Tryz.underlying91, rfl, rfl, by kernel_rfl⟩
theorem tF91_3 : z0m Tryz.prog 91 3 3 := ⟨_, _, 0, Tryz.underlying91, rfl, rfl, by kernel_rfl⟩
theorem tF91_4 : z0m Tryz.prog 91 4 4 := ⟨_, _, 0, Tryz.underlying91, rfl, rfl, by kernel_rfl⟩
theorem tP91 : ∃ fs, Tryz.prog.underlying 91 = some (.struct fs) /\ z2f Tryz.prog fs #[(0, 1), (1, 1), (2, 1), (3, 1), (4, 1)] := ⟨_, Tryz.underlying91, fun _ => by kernel_rfl⟩
theorem tZ101 : ((Tryz.prog.info? 101).bind (·.zero)) = some (.agg #[.slice none 0 0, .slice none 0 0, .string ⟨#[]⟩, .int .i64 (0), .int .i64 (0), .slice none 0 0, .slice none 0 0, .slice none 0 0]) := by kernel_rfl
theorem tF101_0 : z0m Tryz.prog 101 0 0 := ⟨_, _, 1, Tryz.underlying101, rfl, rfl, by kernel_rfl⟩
theorem tF101_1 : z0m Tryz.prog 101 1 2 := ⟨_, _, 4, Tryz.underlying101, rfl, rfl, by kernel_rfl⟩
theorem tF101_2 : z0m Tryz.prog 101 2 7 := ⟨_, _, 0, Tryz.underlying101, rfl, rfl, by kernel_rfl⟩
theorem tP101 : ∃ fs, Tryz.prog.underlying 101 = some (.struct fs) /\ z2f Tryz.prog fs #[(0, 2), (2, 5), (7, 1)] := ⟨_, Tryz.underlying101, fun _ => by kernel_rfl⟩
theorem y0j : ((Tryz.prog.info? 104).bind (·.zero)) = some (.agg #[.bool false, .bool false, .slice none 0 0, .slice none 0 0, .slice none 0 0]) := by kernel_rfl
theorem tF104_0 : z0m Tryz.prog 104 0 0 := ⟨_, _, 0, Tryz.underlying104, rfl, rfl, by kernel_rfl⟩
theorem tF104_1 : z0m Tryz.prog 104 1 1 := ⟨_, _, 0, Tryz.underlying104, rfl, rfl, by kernel_rfl⟩
theorem tF104_2 : z0m Tryz.prog 104 2 2 := ⟨_, _, 0, Tryz.underlying104, rfl, rfl, by kernel_rfl⟩
theorem tF104_3 : z0m Tryz.prog 104 3 3 := ⟨_, _, 0, Tryz.underlying104, rfl, rfl, by kernel_rfl⟩
theorem tF104_4 : z0m Tryz.prog 104 4 4 := ⟨_, _, 0, Tryz.underlying104, rfl, rfl, by kernel_rfl⟩
theorem tP104 : ∃ fs, Tryz.prog.underlying 104 = some (.struct fs) /\ z2f Tryz.prog fs #[(0, 1), (1, 1), (2, 1), (3, 1), (4, 1)] := ⟨_, Tryz.underlying104, fun _ => by kernel_rfl⟩
theorem tZ108 : ((Tryz.prog.info? 108).bind (·.zero)) = some (.agg #[.int .i64 (0), .int .i64 (0), .int .i64 (0), .int .i64 (0), .int .i64 (0)]) := by kernel_rfl
theorem tF108_3 : z0m Tryz.prog 108 3 3 := ⟨_, _, 0, Tryz.underlying108, rfl, rfl, by kernel_rfl⟩
theorem tF108_4 : z0m Tryz.prog 108 4 4 := ⟨_, _, 0, Tryz.underlying108, rfl, rfl, by kernel_rfl⟩
theorem tP108 : ∃ fs, Tryz.prog.underlying 108 = some (.struct fs) /\ z2f Tryz.prog fs #[(0, 1), (1, 1), (2, 1), (3, 1), (4, 1)] := ⟨_, Tryz.underlying108, fun _ => by kernel_rfl⟩
theorem z42 : ((Tryz.prog.info? 149).bind (·.zero)) = some (.agg #[.string ⟨#[]⟩, .int .i64 (0)]) := by kernel_rfl
theorem z47 : ∃ fs, Tryz.prog.underlying 149 = some (.struct fs) /\ z2f Tryz.prog fs #[(0, 1), (1, 1)] := ⟨_, Tryz.underlying149, fun _ => by kernel_rfl⟩
theorem ent7 : z06 Tryz.prog 7 := ⟨Tryz.f7, Tryz.func7, by kernel_rfl, by kernel_rfl⟩
theorem ent10 : z06 Tryz.prog 10 := ⟨Tryz.f10, Tryz.func10, by kernel_rfl, by kernel_rfl⟩
theorem y3o : z06 Tryz.prog 11 := ⟨Tryz.f11, Tryz.func11, by kernel_rfl, by kernel_rfl⟩
theorem ent12 : z06 Tryz.prog 12 := ⟨Tryz.f12, Tryz.func12, by kernel_rfl, by kernel_rfl⟩
theorem ent15 : z06 Tryz.prog 15 := ⟨Tryz.f15, Tryz.func15, by kernel_rfl, by kernel_rfl⟩
theorem ent16 : z06 Tryz.prog 16 := ⟨Tryz.f16, Tryz.func16, by kernel_rfl, by kernel_rfl⟩
theorem ent17 : z06 Tryz.prog 17 := ⟨Tryz.f17, Tryz.func17, by kernel_rfl, by kernel_rfl⟩
theorem ent19 : z06 Tryz.prog 19 := ⟨Tryz.f19, Tryz.func19, by kernel_rfl, by kernel_rfl⟩
theorem zf1 : z06 Tryz.prog 21 := ⟨Tryz.f21, Tryz.func21, by kernel_rfl, by kernel_rfl⟩
theorem ent22 : z06 Tryz.prog 22 := ⟨Tryz.f22, Tryz.func22, by kernel_rfl, by kernel_rfl⟩
theorem ent23 : z06 Tryz.prog 23 := ⟨Tryz.f23, Tryz.func23, by kernel_rfl, by kernel_rfl⟩
theorem ent24 : z06 Tryz.prog 24 := ⟨Tryz.f24, Tryz.func24, by kernel_rfl, by kernel_rfl⟩
theorem ent27 : z06 Tryz.prog 27 := ⟨Tryz.f27, Tryz.func27, by kernel_rfl, by kernel_rfl⟩
theorem ent28 : z06 Tryz.prog 28 := ⟨Tryz.f28, Tryz.func28, by kernel_rfl, by kernel_rfl⟩
theorem ent29 : z06 Tryz.prog 29 := ⟨Tryz.f29, Tryz.func29, by kernel_rfl, by kernel_rfl⟩
theorem y1q : z06 Tryz.prog 30 := ⟨Tryz.f30, Tryz.func30, by kernel_rfl, by kernel_rfl⟩
theorem zs3 : z06 Tryz.prog 31 := ⟨Tryz.f31, Tryz.func31, by kernel_rfl, by kernel_rfl⟩
theorem ent32 : z06 Tryz.prog 32 := ⟨Tryz.f32, Tryz.func32, by kernel_rfl, by kernel_rfl⟩
theorem ent33 : z06 Tryz.prog 33 := ⟨Tryz.f33, Tryz.func33, by kernel_rfl, by kernel_rfl⟩
theorem z1e : z06 Tryz.prog 34 := ⟨Tryz.f34, Tryz.func34, by kernel_rfl, by kernel_rfl⟩
theorem ent35 : z06 Tryz.prog 35 := ⟨Tryz.f35, Tryz.func35, by kernel_rfl, by kernel_rfl⟩
theorem y3q : z06 Tryz.prog 36 := ⟨Tryz.f36, Tryz.func36, by kernel_rfl, by kernel_rfl⟩
theorem ent37 : z06 Tryz.prog 37 := ⟨Tryz.f37, Tryz.func37, by kernel_rfl, by kernel_rfl⟩
theorem ent38 : z06 Tryz.prog 38 := ⟨Tryz.f38, Tryz.func38, by kernel_rfl, by kernel_rfl⟩
theorem ent39 : z06 Tryz.prog 39 := ⟨Tryz.f39, Tryz.func39, by kernel_rfl, by kernel_rfl⟩
theorem ent40 : z06 Tryz.prog 40 := ⟨Tryz.f40, Tryz.func40, by kernel_rfl, by kernel_rfl⟩
theorem ent41 : z06 Tryz.prog 41 := ⟨Tryz.f41, Tryz.func41, by kernel_rfl, by kernel_rfl⟩
theorem ent42 : z06 Tryz.prog 42 := ⟨Tryz.f42, Tryz.func42, by kernel_rfl, by kernel_rfl⟩
theorem ent46 : z06 Tryz.prog 46 := ⟨Tryz.f46, Tryz.func46, by kernel_rfl, by kernel_rfl⟩
theorem ent47 : z06 Tryz.prog 47 := ⟨Tryz.f47, Tryz.func47, by kernel_rfl, by kernel_rfl⟩
theorem ent48 : z06 Tryz.prog 48 := ⟨Tryz.f48, Tryz.func48, by kernel_rfl, by kernel_rfl⟩
theorem zs4 : z06 Tryz.prog 49 := ⟨Tryz.f49, Tryz.func49, by kernel_rfl, by kernel_rfl⟩
theorem z39 : z06 Tryz.prog 50 := ⟨Tryz.f50, Tryz.func50, by kernel_rfl, by kernel_rfl⟩
theorem ent51 : z06 Tryz.prog 51 := ⟨Tryz.f51, Tryz.func51, by kernel_rfl, by kernel_rfl⟩
theorem y3r : z06 Tryz.prog 52 := ⟨Tryz.f52, Tryz.func52, by kernel_rfl, by kernel_rfl⟩
theorem z1m : z06 Tryz.prog 53 := ⟨Tryz.f53, Tryz.func53, by kernel_rfl, by kernel_rfl⟩
theorem zk4 : z06 Tryz.prog 54 := ⟨Tryz.f54, Tryz.func54, by kernel_rfl, by kernel_rfl⟩
theorem ent55 : z06 Tryz.prog 55 := ⟨Tryz.f55, Tryz.func55, by kernel_rfl, by kernel_rfl⟩
theorem ent56 : z06 Tryz.prog 56 := ⟨Tryz.f56, Tryz.func56, by kernel_rfl, by kernel_rfl⟩
theorem ent57 : z06 Tryz.prog 57 := ⟨Tryz.f57, Tryz.func57, by kernel_rfl, by kernel_rfl⟩
theorem ent58 : z06 Tryz.prog 58 := ⟨Tryz.f58, Tryz.func58, by kernel_rfl, by kernel_rfl⟩
theorem ent59 : z06 Tryz.prog 59 := ⟨Tryz.f59, Tryz.func59, by kernel_rfl, by kernel_rfl⟩
theorem ent60 : z06 Tryz.prog 60 := ⟨Tryz.f60, Tryz.func60, by kernel_rfl, by kernel_rfl⟩
theorem ent61 : z06 Tryz.prog 61 := ⟨Tryz.f61, Tryz.func61, by kernel_rfl, by kernel_rfl⟩
theorem ent62 : z06 Tryz.prog 62 := ⟨Tryz.f62, Tryz.func62, by kernel_rfl, by kernel_rfl⟩
theorem ent63 : z06 Tryz.prog 63 := ⟨Tryz.f63, Tryz.func63, by kernel_rfl, by kernel_rfl⟩
theorem ent64 : z06 Tryz.prog 64 := ⟨Tryz.f64, Tryz.func64, by kernel_rfl, by kernel_rfl⟩
theorem ent65 : z06 Tryz.prog 65 := ⟨Tryz.f65, Tryz.func65, by kernel_rfl, by kernel_rfl⟩
theorem ent66 : z06 Tryz.prog 66 := ⟨Tryz.f66, Tryz.func66, by kernel_rfl, by kernel_rfl⟩
theorem ent67 : z06 Tryz.prog 67 := ⟨Tryz.f67, Tryz.func67, by kernel_rfl, by kernel_rfl⟩
theorem ent68 : z06 Tryz.prog 68 := ⟨Tryz.f68, Tryz.func68, by kernel_rfl, by kernel_rfl⟩
theorem ent69 : z06 Tryz.prog 69 := ⟨Tryz.f69, Tryz.func69, by kernel_rfl, by kernel_rfl⟩
theorem ent70 : z06 Tryz.prog 70 := ⟨Tryz.f70, Tryz.func70, by kernel_rfl, by kernel_rfl⟩
theorem ent71 : z06 Tryz.prog 71 := ⟨Tryz.f71, Tryz.func71, by kernel_rfl, by kernel_rfl⟩
theorem ent72 : z06 Tryz.prog 72 := ⟨Tryz.f72, Tryz.func72, by kernel_rfl, by kernel_rfl⟩
theorem ent73 : z06 Tryz.prog 73 := ⟨Tryz.f73, Tryz.func73, by kernel_rfl, by kernel_rfl⟩
theorem ent74 : z06 Tryz.prog 74 := ⟨Tryz.f74, Tryz.func74, by kernel_rfl, by kernel_rfl⟩
theorem ent75 : z06 Tryz.prog 75 := ⟨Tryz.f75, Tryz.func75, by kernel_rfl, by kernel_rfl⟩
theorem ent76 : z06 Tryz.prog 76 := ⟨Tryz.f76, Tryz.func76, by kernel_rfl, by kernel_rfl⟩
theorem ent77 : z06 Tryz.prog 77 := ⟨Tryz.f77, Tryz.func77, by kernel_rfl, by kernel_rfl⟩
theorem y3s : z06 Tryz.prog 78 := ⟨Tryz.f78, Tryz.func78, by kernel_rfl, by kernel_rfl⟩
theorem ent79 : z06 Tryz.prog 79 := ⟨Tryz.f79, Tryz.func79, by kernel_rfl, by kernel_rfl⟩
theorem ent80 : z06 Tryz.prog 80 := ⟨Tryz.f80, Tryz.func80, by kernel_rfl, by kernel_rfl⟩
theorem ent81 : z06 Tryz.prog 81 := ⟨Tryz.f81, Tryz.func81, by kernel_rfl, by kernel_rfl⟩
theorem ent82 : z06 Tryz.prog 82 := ⟨Tryz.f82, Tryz.func82, by kernel_rfl, by kernel_rfl⟩
theorem ent83 : z06 Tryz.prog 83 := ⟨Tryz.f83, Tryz.func83, by kernel_rfl, by kernel_rfl⟩
theorem ent84 : z06 Tryz.prog 84 := ⟨Tryz.f84, Tryz.func84, by kernel_rfl, by kernel_rfl⟩
theorem ent85 : z06 Tryz.prog 85 := ⟨Tryz.f85, Tryz.func85, by kernel_rfl, by kernel_rfl⟩
theorem ent86 : z06 Tryz.prog 86 := ⟨Tryz.f86, Tryz.func86, by kernel_rfl, by kernel_rfl⟩
theorem ent87 : z06 Tryz.prog 87 := ⟨Tryz.f87, Tryz.func87, by kernel_rfl, by kernel_rfl⟩
theorem ent89 : z06 Tryz.prog 89 := ⟨Tryz.f89, Tryz.func89, by kernel_rfl, by kernel_rfl⟩
theorem ent90 : z06 Tryz.prog 90 := ⟨Tryz.f90, Tryz.func90, by kernel_rfl, by kernel_rfl⟩
theorem ent91 : z06 Tryz.prog 91 := ⟨Tryz.f91, Tryz.func91, by kernel_rfl, by kernel_rfl⟩
theorem ent92 : z06 Tryz.prog 92 := ⟨Tryz.f92, Tryz.func92, by kernel_rfl, by kernel_rfl⟩
theorem ent93 : z06 Tryz.prog 93 := ⟨Tryz.f93, Tryz.func93, by kernel_rfl, by kernel_rfl⟩
theorem ent94 : z06 Tryz.prog 94 := ⟨Tryz.f94, Tryz.func94, by kernel_rfl, by kernel_rfl⟩
theorem zk5 : z06 Tryz.prog 95 := ⟨Tryz.f95, Tryz.func95, by kernel_rfl, by kernel_rfl⟩
theorem z78 : z06 Tryz.prog 96 := ⟨Tryz.f96, Tryz.func96, by kernel_rfl, by kernel_rfl⟩
theorem z64 : z06 Tryz.prog 97 := ⟨Tryz.f97, Tryz.func97, by kernel_rfl, by kernel_rfl⟩
theorem ent98 : z06 Tryz.prog 98 := ⟨Tryz.f98, Tryz.func98, by kernel_rfl, by kernel_rfl⟩
theorem ent99 : z06 Tryz.prog 99 := ⟨Tryz.f99, Tryz.func99, by kernel_rfl, by kernel_rfl⟩
theorem ent100 : z06 Tryz.prog 100 := ⟨Tryz.f100, Tryz.func100, by kernel_rfl, by kernel_rfl⟩
theorem ent101 : z06 Tryz.prog 101 := ⟨Tryz.f101, Tryz.func101, by kernel_rfl, by kernel_rfl⟩
theorem ent102 : z06 Tryz.prog 102 := ⟨Tryz.f102, Tryz.func102, by kernel_rfl, by kernel_rfl⟩
theorem zs1 : z06 Tryz.prog 103 := ⟨Tryz.f103, Tryz.func103, by kernel_rfl, by kernel_rfl⟩
theorem ent104 : z06 Tryz.prog 104 := ⟨Tryz.f104, Tryz.func104, by kernel_rfl, by kernel_rfl⟩
theorem ent105 : z06 Tryz.prog 105 := ⟨Tryz.f105, Tryz.func105, by kernel_rfl, by kernel_rfl⟩
theorem ent106 : z06 Tryz.prog 106 := ⟨Tryz.f106, Tryz.func106, by kernel_rfl, by kernel_rfl⟩
theorem y3n : z06 Tryz.prog 107 := ⟨Tryz.f107, Tryz.func107, by kernel_rfl, by kernel_rfl⟩
theorem z6b : z06 Tryz.prog 108 := ⟨Tryz.f108, Tryz.func108, by kernel_rfl, by kernel_rfl⟩
theorem ent109 : z06 Tryz.prog 109 := ⟨Tryz.f109, Tryz.func109, by kernel_rfl, by kernel_rfl⟩
theorem ent110 : z06 Tryz.prog 110 := ⟨Tryz.f110, Tryz.func110, by kernel_rfl, by kernel_rfl⟩
theorem ent111 : z06 Tryz.prog 111 := ⟨Tryz.f111, Tryz.func111, by kernel_rfl, by kernel_rfl⟩
theorem ent112 : z06 Tryz.prog 112 := ⟨Tryz.f112, Tryz.func112, by kernel_rfl, by kernel_rfl⟩
theorem zl6 : z06 Tryz.prog 113 := ⟨Tryz.f113, Tryz.func113, by kernel_rfl, by kernel_rfl⟩
theorem z3o : z06 Tryz.prog 114 := ⟨Tryz.f114, Tryz.func114, by kernel_rfl, by kernel_rfl⟩
theorem zs2 : z06 Tryz.prog 115 := ⟨Tryz.f115, Tryz.func115, by kernel_rfl, by kernel_rfl⟩
theorem z50 : z06 Tryz.prog 116 := ⟨Tryz.f116, Tryz.func116, by kernel_rfl, by kernel_rfl⟩
theorem ent117 : z06 Tryz.prog 117 := ⟨Tryz.f117, Tryz.func117, by kernel_rfl, by kernel_rfl⟩
theorem y0x : z06 Tryz.prog 118 := ⟨Tryz.f118, Tryz.func118, by kernel_rfl, by kernel_rfl⟩
theorem ent119 : z06 Tryz.prog 119 := ⟨Tryz.f119, Tryz.func119, by kernel_rfl, by kernel_rfl⟩
theorem ent120 : z06 Tryz.prog 120 := ⟨Tryz.f120, Tryz.func120, by kernel_rfl, by kernel_rfl⟩
theorem ent121 : z06 Tryz.prog 121 := ⟨Tryz.f121, Tryz.func121, by kernel_rfl, by kernel_rfl⟩
theorem y3p : z06 Tryz.prog 122 := ⟨Tryz.f122, Tryz.func122, by kernel_rfl, by kernel_rfl⟩
theorem ent123 : z06 Tryz.prog 123 := ⟨Tryz.f123, Tryz.func123, by kernel_rfl, by kernel_rfl⟩
theorem ent124 : z06 Tryz.prog 124 := ⟨Tryz.f124, Tryz.func124, by kernel_rfl, by kernel_rfl⟩
theorem ent125 : z06 Tryz.prog 125 := ⟨Tryz.f125, Tryz.func125, by kernel_rfl, by kernel_rfl⟩
theorem ent126 : z06 Tryz.prog 126 := ⟨Tryz.f126, Tryz.func126, by kernel_rfl, by kernel_rfl⟩
theorem ent127 : z06 Tryz.prog 127 := ⟨Tryz.f127, Tryz.func127, by kernel_rfl, by kernel_rfl⟩
theorem ent128 : z06 Tryz.prog 128 := ⟨Tryz.f128, Tryz.func128, by kernel_rfl, by kernel_rfl⟩
theorem ent129 : z06 Tryz.prog 129 := ⟨Tryz.f129, Tryz.func129, by kernel_rfl, by kernel_rfl⟩
theorem ent130 : z06 Tryz.prog 130 := ⟨Tryz.f130, Tryz.func130, by kernel_rfl, by kernel_rfl⟩
theorem ent131 : z06 Tryz.prog 131 := ⟨Tryz.f131, Tryz.func131, by kernel_rfl, by kernel_rfl⟩
theorem ent132 : z06 Tryz.prog 132 := ⟨Tryz.f132, Tryz.func132, by kernel_rfl, by kernel_rfl⟩
theorem ent133 : z06 Tryz.prog 133 := ⟨Tryz.f133, Tryz.func133, by kernel_rfl, by kernel_rfl⟩
def tabL : List (Nat × List (Option Nat)) := [(7, [some 0, some 1, some 2, some 3]), (8, [some 0, some 1, some 2, some 3]), (13, [some 0, some 1]), (14, [some 0, some 1]), (18, [some 0]), (19, [some 0]), (24, [some 0, some 1]), (25, [some 0, some 1]), (42, [some 0, some 1, some 2, some 3, some 4, some 5, some 6, some 7]), (43, [some 0, some 1, some 2, some 3, some 4, some 5, some 6, some 7]), (45, [some 0, some 1, some 2, some 3, some 4]), (46, [some 0, some 1, some 2, some 3, some 4]), (48, [some 0, some 1]), (49, [some 0, some 1]), (50, [some 0, some 1, some 2, some 3, some 4]), (51, [some 0, some 1, some 2, some 3, some 4]), (56, [some 0, some 1, some 2, some 3]), (57, [some 0, some 1, some 2, some 3]), (61, [some 0, some 1, some 2]), (62, [some 0, some 1, some 2]), (70, [some 0, some 2, some 3, some 4, some 9]), (71, [some 0, some 2, some 3, some 4, some 9]), (77, [some 0, some 1, some 2, some 3, some 4]), (78, [some 0, some 1, some 2, some 3, some 4]), (82, [some 0, some 1]), (83, [some 0, some 1]), (88, [some 0, some 2, some 7]), (89, [some 0, some 2, some 7]), (91, [some 0, some 1, some 2, some 3, some 4]), (100, [some 0, some 2, some 7]), (101, [some 0, some 2, some 7]), (103, [some 0, some 1, some 2, some 3, some 4]), (104, [some 0, some 1, some 2, some 3, some 4]), (107, [some 0, some 1, some 2, some 3, some 4]), (108, [some 0, some 1, some 2, some 3, some 4]), (148, [some 0, some 1]), (149, [some 0, some 1]), (154, [some 0, some 1, some 2, some 3]), (155, [some 0, some 1, some 2, some 3]), (157, [none]), (158, [none]), (167, [some 0, some 1, some 2, some 3, some 4, some 5, some 6, some 7, some 8, some 9, some 10]), (168, [some 0, some 1, some 2, some 3, some 4, some 5, some 6, some 7, some 8, some 9, some 10])]
def tabQ : List Nat := [2, 3, 4, 5, 6, 9, 10, 11, 12, 15, 16, 17, 21, 22, 23, 29, 31, 35, 41, 44, 55, 59, 60, 68, 69, 86, 87, 96, 99, 134, 160, 161, 162, 164, 165, 166]
theorem tabL_ok : y4l Tryz.prog tabL = true := by kernel_rfl
theorem tabQ_ok : okLd Tryz.prog tabQ = true := by kernel_rfl
def tab : Tab Tryz.prog := mkTab Tryz.prog tabL tabQ tabL_ok tabQ_ok
theorem sm {c : Cx} {ops : Array Oper} {hp : Hp} {l l' : List Oper} {fr fr' : Fr} {Q : Exit -> Fr -> Heap' -> Prop} (n : Nat) (h : simL tab ops hp c.n n l fr = some (l', fr')) (h2 : WL Tryz.prog c ops Q l' fr' (look hp)) : WL Tryz.prog c ops Q l fr (look hp) := sim tab n h h2
theorem smS {c : Cx} {ops : Array Oper} {hp : Hp} {l l' : List Oper} {fr fr' : Fr} {Q : Exit -> Fr -> Heap' -> Prop} (n : Nat) (h : simL tab ops hp c.n n l fr = some (l', fr')) (h2 : WS Tryz.prog c ops Q l' fr' (look hp)) : WS Tryz.prog c ops Q l fr (look hp) := simS tab n h h2
theorem smR {c : Cx} {R1 : Nat -> Prop} {ops : Array Oper} {hp : Hp} {is is' : List Nat} {li li' : Array Bool} {fr fr' : Fr} {Q : Exit -> Fr -> Heap' -> Prop} {fuel : Nat} (n : Nat) (h : simR tab ops hp c.n n is li fr = some (is', li', fr')) (h2 : WR Tryz.prog c R1 ops Q is' fuel li' fr' (look hp)) : WR Tryz.prog c R1 ops Q is fuel li fr (look hp) := simR' tab n h h2
def z51 (u : Un) (s : Rs) : HO := .box [.pv (arrs u.arrays), .pv (flws u.flows), .pv (ints s.ins), .pv (.val (.slice none 0 0)), iInt s.st, iInt s.code, .sl 1002 (s.out.map eInt).length, iInt s.cost, iInt s.fuel, iBool s.spent]
def rowI (l : List Int) : HO := .row ⟨3, 1⟩ (l.map eInt)
def runH (u : Un) (s : Rs) : List (Nat × HO) := [(1001, z51 u s), (1002, rowI s.out)]
def runV (u : Un) (s : Rs) (v : List Int) : List (Nat × HO) := [(1001, z51 u s), (1002, rowI s.out), (510, rowI v)]
def endv (e : Rend) : PV := .agg [vInt e.1, ints e.2]
theorem y41 {v : List Int} {x y : Int} (h : getV v x = some y) : 0 <= x /\ x.toNat < (v.map eInt).length /\ (v.map eInt)[x.toNat]? = some [vInt y] := by
  unfold getV at h
  split at h
  · rename_i hx
    exact ⟨hx, by simpa using (List.getElem?_eq_some_iff.1 h).1, z0i h⟩
  · cases h
theorem z7u {v v' : List Int} {x y : Int} (h : setV v x y = some v') : 0 <= x /\ x.toNat < (v.map eInt).length /\ v' = v.set x.toNat y := by
  unfold setV at h
  split at h
  · rename_i hx
    exact ⟨hx.1, by simpa using hx.2, by cases h; rfl⟩
  · cases h
theorem zv5 {v : List Int} {i : Nat} (h : i < (v.map eInt).length) : ∃ z, (v.map eInt)[i]? = some [vInt z] := by
  rw [List.length_map] at h
  exact ⟨v[i], z0i (f := eInt) (List.getElem?_eq_getElem h)⟩
theorem z4f (v : List Int) (i : Nat) (y : Int) (el : List PV) (hel : (v.map eInt)[i]? = some el) : (v.map eInt).set i (el.set 0 (vInt y)) = (v.set i y).map eInt := by
  rw [List.map_set]
  have h2 := hel
  rw [List.getElem?_map, Option.map_eq_some_iff] at h2
  obtain ⟨z, _, rfl⟩ := h2
  rfl
theorem mOf_step {v : List Int} {x : Int} {r acc o : List Int} (h : (mOf v (x :: r)).map (acc ++ ·) = some o) : ∃ y, getV v x = some y /\ (mOf v r).map ((acc ++ [y]) ++ ·) = some o := by
  simp only [mOf, Option.map_eq_some_iff, Option.bind_eq_some_iff] at h
  obtain ⟨_, ⟨y, hy, z, hz, rfl⟩, rfl⟩ := h
  exact ⟨y, hy, by rw [hz]; simp⟩
theorem zu4 {v v' : List Int} {x : Int} {r n : List Int} (h : mSet v (x :: r) n = some v') : ∃ y n' v1, n = y :: n' /\ setV v x y = some v1 /\ mSet v1 r n' = some v' := by
  cases n with
  | nil => cases h
  | cons y n' =>
    simp only [mSet, Option.bind_eq_some_iff] at h
    obtain ⟨v1, h1, h2⟩ := h
    exact ⟨y, n', v1, rfl, h1, h2⟩
section
variable {P : Program} {c : Cx} {fr : Fr} {hp : Hp} {Q : Exit -> Fr -> Heap' -> Prop}
def ISub (x y : IV) : Prop := ∀ F ρ σ w v, RepI F ρ σ w x v -> RepI F ρ σ w y v
theorem ISub.refl (x : IV) : ISub x x := fun _ _ _ _ _ h => h
theorem ISub.pv {p q : PV} (h : PSub p q) : ISub (.pv p) (.pv q) := fun _ _ _ _ _ hv => z3i h hv
def ISubs : List IV -> List IV -> Prop
  | [], [] => True
  | x :: xs, y :: ys => ISub x y /\ ISubs xs ys
  | _, _ => False
theorem ISubs.length : ∀ {xs ys : List IV}, ISubs xs ys -> xs.length = ys.length
  | [], [], _ => rfl
  | _ :: _, _ :: _, h => congrArg (· + 1) (ISubs.length h.2)
theorem ISubs.at : ∀ {xs ys : List IV}, ISubs xs ys -> ∀ {j : Nat} {y : IV}, ys[j]? = some y -> ∃ x, xs[j]? = some x /\ ISub x y
  | [], [], _, _, _, hj => by simp at hj
  | x :: xs, y :: ys, h, 0, y', hj => by simp at hj; subst hj; exact ⟨x, rfl, h.1⟩
  | x :: xs, y :: ys, h, j + 1, y', hj => by simpa using ISubs.at h.2 (by simpa using hj)
theorem All.subBox {ρ : Loc} {w : World} {a : Act} {k : Nat} {cs cs' : List IV} (h : All c ρ (look hp) w fr a) (hk : look hp k = some (.box cs)) (hs : ISubs cs cs') (hR : ¬ c.R k) : All c ρ (look ((k, some (.box cs')) :: hp)) w fr a := by
  cases hρ : ρ k with
  | none => obtain ⟨s, hs⟩ := h.rel.real k _ hk hρ; cases hs
  | some bc =>
    obtain ⟨b, cc⟩ := bc
    obtain ⟨o, ho, hro⟩ := h.rel.obj k b cc hρ
    rw [hk] at ho; cases ho
    refine h.write hρ hk trivial hR rfl rfl rfl rfl (fun _ _ => rfl) fun hI _ => ?_
    cases hro with
    | box _ e a' u h1 h2 h3 h4 =>
      refine .box _ e a' u h1 (h2.trans hs.length) (fun j x hj => ?_) fun j x hj => ?_
      ·obtain ⟨x0, h5, _⟩ := hs.at hj
       exact h3 j x0 h5
      obtain ⟨x0, h5, h6⟩ := hs.at hj
      exact h6 _ _ _ _ _ (hI _ _ (h4 j x0 h5))
theorem Tr.subBox {x : Code} {k : Nat} {cs : List IV} (cs' : List IV) (hk : look hp k = some (.box cs)) (hs : ISubs cs cs') (hR : ¬ c.R k) (h : Tr P c x fr (look ((k, some (.box cs')) :: hp)) Q) : Tr P c x fr (look hp) Q :=
  fun _ w a ha => h _ w a (ha.subBox hk hs hR)
theorem Tr.cutR {x : Code} {σ σ' : Heap'} {fr' : Fr} (h : Tr P c x fr σ (fun e fr1 σ1 => (e = .normal /\ Sub σ1 fr1 fr' /\ σ1 = σ') ∨ (e ≠ .normal /\ Q e fr1 σ1))) (h2 : Q .normal fr' σ') : Tr P c x fr σ Q :=
  fun ρ w a ha => wp_mono (h ρ w a ha) fun e a w ⟨ρ1, σ1, fr1, ha1, hq⟩ => by
    rcases hq with ⟨he, hs, hσ⟩ | ⟨_, hq⟩
    ·subst he; subst hσ
     exact ⟨ρ1, σ1, fr', ha1.sub hs, h2⟩
    exact ⟨ρ1, σ1, fr1, ha1, hq⟩
theorem ok_max {R1 : Nat -> Prop} {o : Oper} {σ : Heap'} {t : TypeId} {x y : Operand} {k : IntKind} {m n : Int} (ho : o.op = .call { callee := .builtin .max, args := #[x, y], argTypes := #[t, t] }) (hx : fr.ev x = some (.pv (.val (.int k m)))) (hy : fr.ev y = some (.pv (.val (.int k n)))) :
    OkV P c R1 o fr σ (.pv (.val (.int k (if m < n then n else m)))) := by
  intro ρ w a h
  refine ⟨.int k (if m < n then n else m), fun w2 _ => ?_, z37 _⟩
  simp [execOp, ho, z1f h hx, z1f h hy, resolve, invoke, builtin, Builtin.max_, Builtin.max2]
end
section
def sw (a b k : Nat) : Nat := bif Nat.beq k a then b else bif Nat.beq k b then a else k
theorem sw_sw (a b k : Nat) : sw a b (sw a b k) = k := by
  unfold sw
  by_cases h1 : k = a
  ·subst h1
   have e1 : Nat.beq k k = true := Nat.beq_refl k
   simp only [e1, cond_true]
   by_cases h2 : b = k
   ·subst h2; simp
   have e2 : Nat.beq b k = false := z00 h2
   have e3 : Nat.beq b b = true := Nat.beq_refl b
   simp [e2, e3]
  have e1 : Nat.beq k a = false := z00 h1
  simp only [e1, cond_false]
  by_cases h2 : k = b
  ·subst h2
   simp
  have e2 : Nat.beq k b = false := z00 h2
  simp [e1, e2]
mutual
def IV.ren (p : Nat -> Nat) : IV -> IV
  | .pv x => .pv x
  | .ptr k off => .ptr (p k) off
  | .sl k len => .sl (p k) len
  | .rpt k len off => .rpt (p k) len off
  | .mp k => .mp (p k)
  | .agg cs => .agg (renL p cs)
  | .tup cs => .tup (renL p cs)
  | .fn f xs ys => .fn f (renL p xs) (renL p ys)
def renL (p : Nat -> Nat) : List IV -> List IV
  | [] => []
  | x :: r => x.ren p :: renL p r
end
theorem zd7 (p : Nat -> Nat) : ∀ xs : List IV, renL p xs = xs.map (IV.ren p)
  | [] => rfl
  | x :: r => by simp [renL, zd7 p r]
theorem z4p {p : Nat -> Nat} {xs : List IV} {j : Nat} {c : IV} (h : (renL p xs)[j]? = some c) : ∃ x, xs[j]? = some x /\ c = x.ren p := by
  rw [zd7, List.getElem?_map, Option.map_eq_some_iff] at h
  obtain ⟨x, h1, rfl⟩ := h
  exact ⟨x, h1, rfl⟩
theorem z84 (p : Nat -> Nat) (xs : List IV) : (renL p xs).length = xs.length := by rw [zd7, List.length_map]
def HO.ren (p : Nat -> Nat) : HO -> HO
  | .box cs => .box (renL p cs)
  | .row s els => .row s els
  | .map es => .map es
def renP (p : Nat -> Nat) (l : List (Nat × HO)) : List (Nat × HO) := l.map fun x => (p x.1, x.2.ren p)
section
variable {p : Nat -> Nat} (hp : ∀ k, p (p k) = k) {F : Nat -> Prop} {ρ : Loc} {σ σ' : Heap'} {w : World}
include hp
theorem zg6 {b : Nat} : owned F (fun k => ρ (p k)) b ↔ owned F ρ b := by
  constructor
  ·rintro (h | ⟨k, c, h⟩)
   ·exact .inl h
   exact .inr ⟨p k, c, h⟩
  rintro (h | ⟨k, c, h⟩)
  ·exact .inl h
  exact .inr ⟨p k, c, by show ρ (p (p k)) = _; rw [hp]; exact h⟩
theorem zp7 (hσ : ∀ k, σ' (p k) = (σ k).map (HO.ren p)) {x : IV} {v : Value} (h : RepI F ρ σ w x v) : RepI F (fun k => ρ (p k)) σ' w (x.ren p) v := by
  induction h with
  | pv q v h => exact .pv q v (h.own fun b hb => (zg6 hp).1 hb)
  | ptr k off v h =>
    refine .ptr _ off v fun cs' h' => ?_
    rw [hσ, Option.map_eq_some_iff] at h'
    obtain ⟨o, h1, h2⟩ := h'
    cases o with
    | box cs => obtain ⟨b, c, h3, h4⟩ := h cs h1; exact ⟨b, c, by rw [hp]; exact h3, h4⟩
    | row => cases h2
    | map => cases h2
  | sl k len v h =>
    refine .sl _ len v fun s els h' => ?_
    rw [hσ, Option.map_eq_some_iff] at h'
    obtain ⟨o, h1, h2⟩ := h'
    cases o with
    | row s' els' => cases h2; rw [hp]; exact h _ _ h1
    | box => cases h2
    | map => cases h2
  | rpt k len off v h =>
    refine .rpt _ len off v fun s els h' => ?_
    rw [hσ, Option.map_eq_some_iff] at h'
    obtain ⟨o, h1, h2⟩ := h'
    cases o with
    | row s' els' => cases h2; rw [hp]; exact h _ _ h1
    | box => cases h2
    | map => cases h2
  | mp k v h =>
    refine .mp _ v fun es h' => ?_
    rw [hσ, Option.map_eq_some_iff] at h'
    obtain ⟨o, h1, h2⟩ := h'
    cases o with
    | map es' => cases h2; rw [hp]; exact h _ h1
    | row => cases h2
    | box => cases h2
  | agg cs vs u hl hv _ ih =>
    refine .agg _ vs u (by rw [z84]; exact hl) (fun j c hj => ?_) fun j c hj => ?_
    ·obtain ⟨x, h1, rfl⟩ := z4p hj; exact hv j x h1
    obtain ⟨x, h1, rfl⟩ := z4p hj; exact ih j x h1
  | tup cs vs u hl hv _ ih =>
    refine .tup _ vs u (by rw [z84]; exact hl) (fun j c hj => ?_) fun j c hj => ?_
    ·obtain ⟨x, h1, rfl⟩ := z4p hj; exact hv j x h1
    obtain ⟨x, h1, rfl⟩ := z4p hj; exact ih j x h1
  | fn f xs ys vs ws u t hl hv _ hl' hv' _ ih ih' =>
    refine .fn f _ _ vs ws u t (by rw [z84]; exact hl) (fun j c hj => ?_) (fun j c hj => ?_) (by rw [z84]; exact hl') (fun j c hj => ?_) fun j c hj => ?_
    ·obtain ⟨x, h1, rfl⟩ := z4p hj; exact hv j x h1
    ·obtain ⟨x, h1, rfl⟩ := z4p hj; exact ih j x h1
    ·obtain ⟨x, h1, rfl⟩ := z4p hj; exact hv' j x h1
    obtain ⟨x, h1, rfl⟩ := z4p hj; exact ih' j x h1
mutual
theorem y4z : ∀ x : IV, (x.ren p).ren p = x
  | .pv _ => rfl
  | .ptr k off => by simp only [IV.ren, hp]
  | .sl k len => by simp only [IV.ren, hp]
  | .rpt k len off => by simp only [IV.ren, hp]
  | .mp k => by simp only [IV.ren, hp]
  | .agg cs => by simp only [IV.ren, z6f cs]
  | .tup cs => by simp only [IV.ren, z6f cs]
  | .fn f xs ys => by simp only [IV.ren, z6f xs, z6f ys]
theorem z6f : ∀ xs : List IV, renL p (renL p xs) = xs
  | [] => rfl
  | x :: r => by simp only [renL, y4z x, z6f r]
end
theorem HO.ren_ren (o : HO) : (o.ren p).ren p = o := by cases o <;> simp [HO.ren, z6f hp]
theorem repO_ren (hσ : ∀ k, σ' (p k) = (σ k).map (HO.ren p)) {b c : Nat} {o : HO} (h : RepO F ρ σ w b c o) : RepO F (fun k => ρ (p k)) σ' w b c (o.ren p) := by
  cases h with
  | box cs e a u h1 h2 h3 h4 =>
    refine .box _ e a u h1 (by rw [z84]; exact h2) (fun j x hj => ?_) fun j x hj => ?_
    ·obtain ⟨y, h5, rfl⟩ := z4p hj; exact h3 j y h5
    obtain ⟨y, h5, rfl⟩ := z4p hj; exact zp7 hp hσ (h4 j y h5)
  | row s els a u h1 h2 h3 h4 h5 h6 h7 => exact .row s els a u h1 h2 h3 h4 h5 h6 fun i el hi j x hj => (h7 i el hi j x hj).own fun b hb => (zg6 hp).1 hb
  | map es a t u h1 h2 h3 h4 => exact .map es a t u h1 h2 h3 fun i k q hi => (h4 i k q hi).own fun b hb => (zg6 hp).1 hb
theorem y1b (hσ : ∀ k, σ' (p k) = (σ k).map (HO.ren p)) (h : RelH F ρ σ w) : RelH F (fun k => ρ (p k)) σ' w where
  inj k k' b c c' h1 h2 := by
    have := h.inj _ _ _ _ _ h1 h2
    rw [<- hp k, this, hp]
  apart k b c h1 := h.apart _ _ _ h1
  old := h.old
  obj k b c h1 := by
    obtain ⟨o, h2, h3⟩ := h.obj _ _ _ h1
    refine ⟨o.ren p, ?_, repO_ren hp hσ h3⟩
    have := hσ (p k)
    rw [hp, h2] at this
    exact this
  real k o h1 h2 := by
    have h3 := hσ (p k)
    rw [hp, h1] at h3
    obtain ⟨o', h4, h5⟩ := Option.map_eq_some_iff.1 h3.symm
    obtain ⟨s, rfl⟩ := h.real _ _ h4 h2
    exact ⟨s, h5.symm⟩
end
theorem y62 {p : Nat -> Nat} (hp : ∀ k, p (p k) = k) {F R : Nat -> Prop} {ρ ρ1 : Loc} {σ σ1 τ τ1 : Heap'} {w w' : World} (hσ : ∀ k, τ (p k) = (σ k).map (HO.ren p)) (hσ1 : ∀ k, τ1 (p k) = (σ1 k).map (HO.ren p)) (t : Trans F R ρ σ w ρ1 σ1 w') :
    Trans F (fun k => R (p k)) (fun k => ρ (p k)) τ w (fun k => ρ1 (p k)) τ1 w' where
  os := t.os
  tape := t.tape
  output := t.output
  size := t.size
  blk b hb h := t.blk b hb fun k c hk => by
    have := h (p k) c (by rw [hp]; exact hk)
    rwa [hp] at this
  own k b c h hb := t.own _ b c h hb
  box k cs cs' h h' := by
    have e := hσ (p k); have e' := hσ1 (p k)
    rw [hp, h] at e; rw [hp, h'] at e'
    obtain ⟨o, h1, h2⟩ := Option.map_eq_some_iff.1 e.symm
    obtain ⟨o', h3, h4⟩ := Option.map_eq_some_iff.1 e'.symm
    cases o with
    | box cs0 => cases o' with
      | box cs1 => exact t.box _ _ _ h1 h3
      | row => cases h4
      | map => cases h4
    | row => cases h2
    | map => cases h2
  map k cs cs' h h' := by
    have e := hσ (p k); have e' := hσ1 (p k)
    rw [hp, h] at e; rw [hp, h'] at e'
    obtain ⟨o, h1, h2⟩ := Option.map_eq_some_iff.1 e.symm
    obtain ⟨o', h3, h4⟩ := Option.map_eq_some_iff.1 e'.symm
    cases o with
    | map cs0 => cases o' with
      | map cs1 => exact t.map _ _ _ h1 h3
      | row => cases h4
      | box => cases h4
    | row => cases h2
    | box => cases h2
  row k s s' els els' h h' hl := by
    have e := hσ (p k); have e' := hσ1 (p k)
    rw [hp, h] at e; rw [hp, h'] at e'
    obtain ⟨o, h1, h2⟩ := Option.map_eq_some_iff.1 e.symm
    obtain ⟨o', h3, h4⟩ := Option.map_eq_some_iff.1 e'.symm
    cases o with
    | row s0 cs0 => cases o' with
      | row s1 cs1 => cases h2; cases h4; exact t.row _ _ _ _ _ h1 h3 hl
      | map => cases h4
      | box => cases h4
    | map => cases h2
    | box => cases h2
  grow k s s' els els' h h' := by
    have e := hσ (p k); have e' := hσ1 (p k)
    rw [hp, h] at e; rw [hp, h'] at e'
    obtain ⟨o, h1, h2⟩ := Option.map_eq_some_iff.1 e.symm
    obtain ⟨o', h3, h4⟩ := Option.map_eq_some_iff.1 e'.symm
    cases o with
    | row s0 cs0 => cases o' with
      | row s1 cs1 => cases h2; cases h4; exact t.grow _ _ _ _ _ h1 h3
      | map => cases h4
      | box => cases h4
    | map => cases h2
    | box => cases h2
  kindB k cs' h' := by
    have e' := hσ1 (p k); have e := hσ (p k)
    rw [hp, h'] at e'; rw [hp] at e
    obtain ⟨o', h3, h4⟩ := Option.map_eq_some_iff.1 e'.symm
    cases o' with
    | box cs1 =>
      rcases t.kindB _ _ h3 with h5 | ⟨cs, h5⟩
      ·rw [h5] at e; exact .inl e
      rw [h5] at e; exact .inr ⟨_, e⟩
    | row => cases h4
    | map => cases h4
  kindM k cs' h' := by
    have e' := hσ1 (p k); have e := hσ (p k)
    rw [hp, h'] at e'; rw [hp] at e
    obtain ⟨o', h3, h4⟩ := Option.map_eq_some_iff.1 e'.symm
    cases o' with
    | map cs1 =>
      rcases t.kindM _ _ h3 with h5 | ⟨cs, h5⟩
      ·rw [h5] at e; exact .inl e
      rw [h5] at e; exact .inr ⟨_, e⟩
    | row => cases h4
    | box => cases h4
  kindR k s cs' h' := by
    have e' := hσ1 (p k); have e := hσ (p k)
    rw [hp, h'] at e'; rw [hp] at e
    obtain ⟨o', h3, h4⟩ := Option.map_eq_some_iff.1 e'.symm
    cases o' with
    | row s1 cs1 =>
      cases h4
      rcases t.kindR _ _ _ h3 with h5 | ⟨cs, h5⟩
      ·rw [h5] at e; exact .inl e
      rw [h5] at e; exact .inr ⟨_, e⟩
    | map => cases h4
    | box => cases h4
theorem beq_ren {p : Nat -> Nat} (hp : ∀ k, p (p k) = k) (a k : Nat) : Nat.beq (p a) (p k) = Nat.beq a k := by
  by_cases h : a = k
  ·subst h; simp
  rw [z00 h, z00 fun e => h (by rw [<- hp a, e, hp])]
theorem z7z {p : Nat -> Nat} (hp : ∀ k, p (p k) = k) : ∀ (l : List (Nat × HO)) (k : Nat), look (up (renP p l)) (p k) = (look (up l) k).map (HO.ren p)
  | [], _ => rfl
  | (a, o) :: r, k => by
    simp only [renP, up, List.map_cons, look]
    rw [beq_ren hp]
    cases Nat.beq a k with
    | true => rfl
    | false => exact z7z hp r k
theorem SC.ren {P : Program} {p : Nat -> Nat} (hp : ∀ k, p (p k) = k) {f : FuncId} {args : List IV} {pre post : List (Nat × HO)} {R : Nat -> Prop} {r : IV} (h : SC P f args pre R r post) : SC P f (renL p args) (renP p pre) (fun k => R (p k)) (r.ren p) (renP p post) := by
  intro F ρ w vs hrel hargs
  have hb : ∀ (l : List (Nat × HO)) (k : Nat), look (up l) (p k) = (look (up (renP p l)) k).map (HO.ren p) := by
    intro l k
    have := z7z hp l (p k)
    rw [hp] at this
    rw [this]
    cases look (up l) (p k) with
    | none => rfl
    | some o => exact congrArg some (HO.ren_ren hp o).symm
  have h1 : RelH F (fun k => ρ (p k)) (look (up pre)) w := y1b hp (hb pre) hrel
  have h2 : RepL F (fun k => ρ (p k)) (look (up pre)) w args vs := by
    refine ⟨by rw [<- hargs.1, z84], fun j x hj => ?_⟩
    obtain ⟨v, h3, h4⟩ := hargs.2 j (x.ren p) (by rw [zd7, List.getElem?_map, hj]; rfl)
    have h5 := zp7 hp (hb pre) h4
    rw [y4z hp] at h5
    exact ⟨v, h3, h5⟩
  refine Calls.mono (h F _ w vs h1 h2) fun e w' hq => ?_
  obtain ⟨ρ', v, h3, h4, h5, h6⟩ := hq
  refine ⟨fun k => ρ' (p k), v, h3, zp7 hp (z7z hp post) h4, y1b hp (z7z hp post) h5, ?_⟩
  have := y62 hp (z7z hp pre) (z7z hp post) h6
  simpa only [hp] using this
theorem SC.sw {P : Program} {f : FuncId} {args : List IV} {pre post : List (Nat × HO)} {R : Nat -> Prop} {r : IV} (a b : Nat) (h : SC P f args pre R r post) : SC P f (renL (sw a b) args) (renP (sw a b) pre) (fun k => R (Proofs.YthbcibeddfacbaaGreat.sw a b k)) (r.ren (Proofs.YthbcibeddfacbaaGreat.sw a b)) (renP (Proofs.YthbcibeddfacbaaGreat.sw a b) post) := h.ren (sw_sw a b)
end
section
variable {P : Program} {c : Cx} {o : Oper} {fr : Fr} {hp : Hp}
theorem All.flatRow {ρ : Loc} {w : World} {a : Act} (h : All c ρ (look hp) w fr a) {x : Operand} {k n : Nat} {s : RT} {els : List (List PV)} (hx : fr.ev x = some (.sl k n)) (hk : look hp k = some (.row s els)) (hn : els.length = n) (hone : ∀ el ∈ els, ∀ x ∈ el, x.one = true) :
    FlatV (owned c.F ρ) w s.n els (a.eval x) := by
  rcases h.row hx hk hn with ⟨b, cc, r, u, hv, hρ, h3, h4, hc, hcm, hwe, hcells, hu⟩ | ⟨hv, hρ, hnil⟩
  ·have key : ∀ q, q < els.length * s.n -> ∃ el x, els[q / s.n]? = some el /\ el.length = s.n /\ el[q % s.n]? = some x /\ x.one = true := fun q hq => by
     obtain ⟨h1, h2, h3⟩ := zo2 hq
     have he := hwe _ (List.getElem_mem h1)
     exact ⟨els[q / s.n], els[q / s.n][q % s.n]'oM0, List.getElem?_eq_getElem h1, he, List.getElem?_eq_getElem _, hone _ (List.getElem_mem h1) _ (List.getElem_mem _)⟩
   refine ⟨some ⟨b, 0, none⟩, cc, u, by rw [hv, hn], fun _ => ⟨_, rfl, fun j y hj => ?_⟩, fun y hy => ?_, hu⟩
   ·have hq : j < els.length * s.n := by have := (List.getElem?_eq_some_iff.1 hj).1; simpa using this
    obtain ⟨el, x, h1, h2, h5, _⟩ := key j hq
    have hy : y = u (j / s.n) (j % s.n) := by simpa [hq] using hj.symm
    have := hcells _ el h1 _ x h5
    rw [Addr.add_mid, hy, z4x h3, Nat.zero_add, <- this, (zo2 hq).2.2]
   obtain ⟨q, hq, rfl⟩ := List.mem_map.1 hy
   obtain ⟨el, x, h1, h2, h5, h6⟩ := key q (by simpa using hq)
   exact (hu _ el h1 _ x h5).one h6
  subst hnil
  exact ⟨none, 0, fun _ _ => undef, by simpa using hv, fun hne => absurd rfl hne, fun y hy => by simp at hy, fun i el hi => by simp at hi⟩
theorem z6q {t : TypeId} {x y : Operand} {k n k2 n2 by_ : Nat} {s : RT} {els news : List (List PV)} (ho : o.op = .call { callee := .builtin .append, args := #[x, y], argTypes := #[t, t] }) (hx : fr.ev x = some (.sl k n)) (hy : fr.ev y = some (.sl k2 n2))
    (hk : look hp k = some (.row s els)) (hn : els.length = n) (hk2 : look hp k2 = some (.row s news)) (hn2 : news.length = n2) (hR : ¬ c.R k) (ht : P.underlying t = some (.slice s.e)) (hi : (P.info? s.e).map (fun i => (i.size, i.bytes, (i.zero.map fun z => z.cells.size))) = some (s.n, by_, some s.n)) (hs : 0 < s.n)
    (hw : ∀ el ∈ news, el.length = s.n) (hone : ∀ el ∈ news, ∀ x ∈ el, x.one = true) (hmax : n + news.length <= maxLen) (hb : (n + news.length) * by_ <= 140737488355328) :
    Ok P c o fr (look hp) (.sl k (n + news.length)) (look ((k, some (.row s (els ++ news))) :: hp)) :=
  z8d ho hx (fun ρ w a h => h.flatRow hy hk2 hn2 hone) hk hn hR ht hi hs hw hmax hb
theorem zc6 {k : Nat} {t e : TypeId} {len s : Nat} {parts : Array (Nat × Operand)} {xs : List (Nat × IV)} {z : Value} {out : List IV} {ps : List PV} (ho : o.op = .buildSlice t len parts) (hx : z7f fr parts.toList = some xs)
    (hu : P.underlying t = some (.slice e)) (hz : ((P.info? e).bind (·.zero)) = some z) (hs : (P.info? e).map (·.size) = some s) (hzs : z.cells.size = s) (hpos : Nat.ble 1 s = true) (hsmall : Nat.ble (len * s) (2 ^ 24) = true)
    (hf : z72 (fun i => some (i * s, s)) (zh6 z len) xs = some out) (hfirm : z5f (look hp) xs) (hps : z8e out = some ps) (hσ : look hp k = none) (hc : c.σ k = none) (hfr : nmFr k fr = false) (hhp : nmHp k hp = false) :
    Ok P c o fr (look hp) (.sl k len) (look ((k, some (.row ⟨e, s⟩ (z03 s len ps))) :: hp)) := by
  intro ρ w a K Q h hK
  have hpos' : 0 < s := Nat.le_of_ble_eq_true hpos
  have hsmall' := Nat.le_of_ble_eq_true hsmall
  have hzv : (zeroValue e).run P w = .ok z w := by
    cases hq : P.info? e with
    | none => simp [hq] at hz
    | some i => simp [hq] at hz; simp [zeroValue, typeInfo, hq, hz]
  obtain ⟨hl, hv⟩ := z5e h hx
  obtain ⟨hrl, hrg⟩ := zh7 (z := z) oM0 len
  have hrep : z5w c.F ρ (look hp) w (zh6 z len) ((Array.range (len * s)).map (z.cells[· % z.cells.size]!)) := by
    refine ⟨by simp [hrl, hzs], fun j x hj => ?_⟩
    have hjl : j < len * s := by have := (List.getElem?_eq_some_iff.1 hj).1; rw [hrl, hzs] at this; exact this
    rw [hrg j x hj]
    exact ⟨_, by simp [hjl], z37 _⟩
  have hlenfill : out.length = len * s := by
    have : ∀ (ps : List (Nat × IV)) (cs out : List IV), z72 (fun i => some (i * s, s)) cs ps = some out -> out.length = cs.length := by
      intro ps
      induction ps with
      | nil => intro cs out h; cases h; rfl
      | cons p r ih =>
        intro cs out h
        simp only [z72] at h
        cases hc : Nat.beq (z65 p.2).length s && Nat.ble (p.1 * s + s) cs.length with
        | false => rw [hc] at h; cases h
        | true =>
          rw [hc] at h
          simp only [Bool.and_eq_true] at hc
          have h1 := Nat.eq_of_beq_eq_true hc.1
          have h2 := Nat.le_of_ble_eq_true hc.2
          rw [ih _ _ h, z7m oM0]
    rw [this _ _ _ hf, hrl, hzs]
  obtain ⟨vs, h1, h2⟩ := z8x hrep hl (fun j i x hj => by
    obtain ⟨v, h3, h4⟩ := hv j i x hj
    exact ⟨v, h3, h4, hfirm _ (List.mem_of_getElem? hj)⟩) hf
  have hparts : (parts.map fun (i, x) => (i, a.eval x)).toList = parts.toList.map fun p => (p.1, a.eval p.2) := by simp
  have hrun : (execOp a.eval o).run P w = .ok (.value (.slice (some ⟨w.heap.size, 0, none⟩) len len)) (w.alloc (.cells vs e)) := by
    have hnr : (newRow e vs).run P w = .ok ⟨w.heap.size, 0, none⟩ (w.alloc (.cells vs e)) := rfl
    simp only [execOp, ho, Instr.buildSlice, Sem.run_bind, run_underlying hu, z2b hs, Result.andThen_ok]
    rw [if_neg oM0]
    by_cases h0 : len * s = 0
    ·have h1' : Instr.fill (fun i => some (i * s, s)) ((Array.range (len * s)).map ((#[] : Array Value)[· % (#[] : Array Value).size]!)) (List.map (fun p => (p.fst, a.eval p.snd)) parts.toList) = some vs := by
       have e1 : ∀ f : Nat -> Value, (Array.range (len * s)).map f = #[] := fun f => by rw [h0]; simp
       rw [e1] at h1 ⊢
       exact h1
     simp only [if_pos h0, Sem.run_bind, Sem.run_pure, Result.andThen_ok, hparts]
     rw [h1']
     simp only [Sem.run_bind, hnr, Result.andThen_ok]
     rfl
    simp only [if_neg h0, Sem.run_bind, Sem.run_pure, Result.andThen_ok, hzv, hparts]
    rw [h1]
    simp only [Sem.run_bind, hnr, Result.andThen_ok]
    rfl
  unfold Oper.wp
  rw [hrun]
  obtain ⟨hpl, hpg⟩ := z6d hps
  have hel : ∀ i el, (z03 s len ps)[i]? = some el -> el.length = s /\ ∀ j x, el[j]? = some x -> ps[i * s + j]? = some x := fun i el hi => z9q s len ps i el hi oM0
  have hcl := z52 s len ps
  have hlm : len <= maxLen := by simp only [maxLen]; have : len <= len * s := Nat.le_mul_of_pos_right _ hpos'; omega
  refine hK (z1w ρ k (some (w.heap.size, len))) _ _ (h.alloc hσ hc hfr hhp len _ _ fun _ keep => ?_) (.sl _ _ _ fun s' els' h' => ?_)
  ·refine .row ⟨e, s⟩ _ vs (fun i j => vs.getD (i * s + j) undef) (z3w w _) (by have := h2.1; simp only; omega) oM0 hlm (fun el hel' => ?_) (fun i el hi j x hj => ?_) fun i el hi j x hj => ?_
   ·obtain ⟨i, hi⟩ := List.getElem?_of_mem hel'
    exact (hel i el hi).1
   ·obtain ⟨h5, h6⟩ := hel i el hi
    obtain ⟨v, h7, _⟩ := h2.2 _ _ (hpg _ _ (h6 j x hj))
    simp [Array.getD_eq_getD_getElem?, h7]
   obtain ⟨h5, h6⟩ := hel i el hi
   obtain ⟨v, h7, h8⟩ := h2.2 _ _ (hpg _ _ (h6 j x hj))
   simp only [Array.getD_eq_getD_getElem?, h7, Option.getD_some]
   cases h8 with
   | pv _ _ h8 => exact keep _ _ h8
  rw [z4z] at h'; cases h'
  exact ⟨by omega, fun _ => .inl ⟨w.heap.size, len, z0j, rfl⟩⟩
def nilP : PV -> PV
  | .val (.slice none 0 0) => .seq []
  | x => x
theorem nilP_sub (x : PV) : PSub x (nilP x) := by
  unfold nilP
  split
  ·exact PSub.nil
  exact PSub.refl _
theorem zu6 : ∀ cs : List PV, PSubs cs (cs.map nilP)
  | [] => trivial
  | x :: r => ⟨nilP_sub x, zu6 r⟩
theorem zp0 (cs : List PV) : PSub (.agg cs) (.agg (cs.map nilP)) := PSub.agg (zu6 cs)
end
def eB (x : UInt8) : List PV := [.val (.int .u8 (x.toNat : Int))]
def bts (l : List UInt8) : PV := .seq (l.map eB)
def z3b (l : List UInt8) (g : Gn) : HO := .box [.pv (bts l), iInt (g.pos : Int), .sl 2002 (g.types.map eInt).length, iInt (g.left : Int)]
def gH (l : List UInt8) (g : Gn) : List (Nat × HO) := [(2001, z3b l g), (2002, rowI g.types)]
def gHs (l : List UInt8) (g : Gn) (seen : List Int) : List (Nat × HO) := [(2001, z3b l g), (2002, rowI g.types), (2003, rowI seen)]
def InR (tys seen : List Int) : Prop := ∀ s ∈ seen, 0 <= s /\ s.toNat < tys.length
theorem InR.at {tys seen : List Int} (h : InR tys seen) {s : Int} (hs : s ∈ seen) : s.toNat < (tys.map eInt).length /\ (tys.map eInt)[s.toNat]? = some [vInt (tys.getD s.toNat 0)] /\ s = ((s.toNat : Nat) : Int) := by
  obtain ⟨h1, h2⟩ := h s hs
  refine ⟨by simpa using h2, ?_, by omega⟩
  rw [List.getElem?_map, List.getD, List.getElem?_eq_getElem h2]; rfl
theorem z26 {l : List UInt8} {n : Nat} {g : Gn} (hn : 0 < n) : (z01 l n g).1 < n := by
  unfold z01
  simp only
  split
  ·exact hn
  exact Nat.mod_lt _ hn
theorem u8_i64 (x : UInt8) : IntKind.i64.wrap (x.toNat : Int) = (x.toNat : Int) := IntWalk.i64_in _ (by have := x.toNat_lt; omega)
theorem y45 {m n : Nat} (hn : 0 < n) : z3p .rem .i64 (m : Int) (n : Int) = some (.int .i64 ((m % n : Nat) : Int)) := by
  simp only [z3p, Int.natCast_emod]
  rw [if_neg oM0, Int.tmod_eq_emod_of_nonneg oM0]
theorem y3y {tys : List Int} {t : Int} : ∀ (r : List Int) (b : Bool) (k v : Int), InR tys r -> (0 <= v /\ (v.toNat < tys.length ∨ v = 0)) -> 0 <= gS1 tys t b k v r /\ ((gS1 tys t b k v r).toNat < tys.length ∨ gS1 tys t b k v r = 0)
  | [], _, _, _, _, hv => hv
  | s :: r, b, k, v, h, hv => by
    unfold gS1
    have hr : InR tys r := fun x hx => h x (.tail _ hx)
    split
    ·have := h s (.head _)
     exact y3y r _ _ _ hr ⟨this.1, .inl this.2⟩
    exact y3y r _ _ _ hr hv
theorem z1n (l : List UInt8) (seen : List Int) : ∀ (ts : List Int) (g : Gn), (z1p l seen ts g).2 = { g with pos := g.pos + ts.length } /\ (z1p l seen ts g).1.length = ts.length
  | [], g => ⟨rfl, rfl⟩
  | t :: r, g => by
    have := z1n l seen r (z8y l seen t g).2
    simp only [z1p, List.length_cons, this]
    refine ⟨?_, trivial⟩
    simp only [z8y, z01]
    congr 1
    omega
theorem y3z (l : List UInt8) : ∀ (n : Nat) (g : Gn), (gTyN l n g).2 = { g with pos := g.pos + n } /\ (gTyN l n g).1.length = n
  | 0, g => ⟨rfl, rfl⟩
  | n + 1, g => by
    have := y3z l n (z01 l 2 g).2
    simp only [gTyN, List.length_cons, this]
    refine ⟨?_, trivial⟩
    simp only [z01]
    congr 1
    omega
theorem z48 (l : List UInt8) (g : Gn) : (z0x l g).2 = { g with pos := g.pos + 1 + (z01 l 3 g).1 } /\ (z0x l g).1.length = (z01 l 3 g).1 := by
  have := y3z l (z01 l 3 g).1 (z01 l 3 g).2
  unfold z0x
  rw [this.1]
  exact ⟨rfl, this.2⟩
theorem z25 : ∀ (ts : List Int) (g : Gn), (z0q ts g).2 = { g with types := g.types ++ ts } /\ (z0q ts g).1.length = ts.length
  | [], g => ⟨by simp [z0q], rfl⟩
  | t :: r, g => by
    have := z25 r (z0c t g).2
    simp only [z0q, List.length_cons, this]
    refine ⟨?_, trivial⟩
    simp [z0c]
theorem y0z : ∀ (ts : List Int) (g : Gn), ∀ s ∈ (z0q ts g).1, (g.types.length : Int) <= s /\ s < ((g.types.length + ts.length : Nat) : Int)
  | [], _, s, h => by simp [z0q] at h
  | t :: r, g, s, h => by
    simp only [z0q, List.mem_cons] at h
    rcases h with rfl | h
    ·simp only [z0c, List.length_cons]; omega
    have := y0z r (z0c t g).2 s h
    simp only [z0c, List.length_append, List.length_cons, List.length_nil] at this ⊢
    omega
theorem y40 {a : List Int} {i : Nat} (h : i < a.length) : (a.map eInt)[i]? = some [vInt (a.getD i 0)] := by
  rw [List.getElem?_map, List.getD, List.getElem?_eq_getElem h]; rfl
def plcv (p : Plc) : PV := .agg [vBool p.If, vBool p.Loop, ints p.Yield, ints p.Next, ints p.Left]
def y13 : IV -> IV
  | .pv (.val (.slice none 0 0)) => .pv (.seq [])
  | x => x
theorem y22 (x : IV) : ISub x (y13 x) := by
  unfold y13
  split
  ·exact ISub.pv PSub.nil
  exact ISub.refl _
theorem zg1 : ∀ cs : List IV, ISubs cs (cs.map y13)
  | [] => trivial
  | x :: r => ⟨y22 x, zg1 r⟩
theorem Tr.fixNil {P : Program} {c : Cx} {fr : Fr} {hp : Hp} {Q : Exit -> Fr -> Heap' -> Prop} {x : Code} {k : Nat} {cs : List IV} (hk : look hp k = some (.box cs)) (hR : ¬ c.R k) (h : Tr P c x fr (look ((k, some (.box (cs.map y13))) :: hp)) Q) : Tr P c x fr (look hp) Q :=
  Tr.subBox _ hk (zg1 cs) hR h
abbrev ndv (x : Nd) : PV := .agg [vInt x.kind, vInt x.op, vInt x.n, vStr x.name, ints x.args, ints x.outs, ints x.params, kids x.kids]
theorem sc_r8in (l : List Int) (n : Int) : SC Tryz.prog 109 [.pv (ints l), iInt n] [] (fun _ => False) (iBool (l.contains n)) [] := by
  refine SC.of Tryz.func109 rfl (lb rfl) fun F ρ w => ?_
  refine Tr.lenOf (t := 0) rfl (fun hl => ?_)
  simp only [List.length_map] at hl
  refine tQ <| tG <| sm 1 rfl <| nL <| tQ <| tQ <| tG <| sm 1 rfl <| nL <| tBk <| Tr.sub (Sub.of (fr' := [(5, iInt 0), (0, .pv (ints l)), (1, iInt n)]) ⟨rfl, rfl, rfl, trivial⟩) ?_
  refine Tr.loop (fun fr σ m => ∃ (k : Nat), (k <= l.length) /\ ((l.drop k).contains n = l.contains n) /\ fr = [(5, iInt k), (0, .pv (ints l)), (1, iInt n)] /\ σ = look [] /\ m = l.length - k) (n := l.length - 0) ?_ ?_
  ·exact ⟨0, Nat.zero_le _, rfl, rfl, rfl, rfl⟩
  rintro fr σ m ⟨k, hI0, hI1, rfl, rfl, rfl⟩
  refine tQ <| tQ <| tG <| sm 2 rfl <| cV rfl (oSm uT35 rfl) <| sm 1 rfl <| nL ?_
  refine tC rfl (fun hc9 => ?_) fun hc9 => ?_
  ·have hlt : k < l.length := by simpa using hc9
   have hd := List.drop_eq_getElem_cons hlt
   have hm := List.getElem_mem hlt
   have hi := z0i (f := eInt) (List.getElem?_eq_getElem hlt)
   generalize l[k] = x at hd hm hi
   refine tSk <| tQ <| tBk <| tQ <| tG <| sm 2 rfl <| cV rfl (iSq rfl rfl rfl uT35 (by assumption) tS3 rfl (by rfl)) <| sm 3 rfl <| nL ?_
   refine tC rfl (fun hc17 => ?_) fun hc17 => ?_
   ·refine tQ <| tG <| sm 1 rfl <| nL <| tRt <| rOk rfl ?_ nPo
    rw [<- hI1, hd, List.contains_cons]
    have : x = n := by simpa using hc17
    simp [this]
   refine tSk <| tG <| sm 1 rfl <| cV rfl (oB rfl rfl (z0b rfl oM0)) <| sm 1 rfl <| nL ?_
   refine ⟨_, _, ?_, Sub.of (fr' := [(5, iInt (k + 1)), (0, .pv (ints l)), (1, iInt n)]) ⟨rfl, rfl, rfl, trivial⟩, (k + 1), ?_, ?_, rfl, rfl, rfl⟩
   ·omega
   ·omega
   rw [<- hI1, hd, List.contains_cons]; simp at hc17; simp [Ne.symm hc17]
  refine tEx <| tQ <| tG <| sm 1 rfl <| nL <| tRt <| rOk rfl ?_ nPo
  have hge : l.length <= k := by simpa using hc9
  rw [<- hI1, List.drop_eq_nil_of_le hge]
  rfl
theorem z6g (x : Nd) : SC Tryz.prog 78 [.pv (ndv x)] [] (fun _ => False) (iBool (z1b x.kind)) [] := by
  refine SC.of Tryz.func78 rfl (lb rfl) fun F ρ w => ?_
  refine tQ <| tG <| cE rfl (z1d rfl rfl) <| sm 1 rfl <| nL <| tQ <| tG <| sm 4 rfl ?_
  refine wS 6 rfl (fun hb6 => ?_) fun hb6 => ?_
  ·refine sm 5 rfl <| nL <| tRt <| rOk rfl ?_ nPo
   unfold z1b
   simp_all <;> omega
  refine sm 5 rfl <| nL <| tRt <| rOk rfl ?_ nPo
  unfold z1b
  simp_all <;> omega
theorem zw3 (l : List Nd) : SC Tryz.prog 76 [.pv (z0g l)] [] (fun _ => False) (iInt (z4b l)) [] := by
  refine SC.of Tryz.func76 rfl (lb rfl) fun F ρ w => ?_
  refine Tr.lenOf (t := 0) rfl (fun hl => ?_)
  simp only [List.length_map] at hl
  refine tQ <| tG <| sm 1 rfl <| nL <| tQ <| tQ <| tG <| sm 1 rfl <| cV rfl (oSm uT44 rfl) <| sm 2 rfl ?_
  refine wS 6 rfl (fun hb6 => ?_) fun hb6 => ?_
  ·refine sm 9 rfl <| nL <| Tr.condT rfl <| tQ <| tG <| sm 1 rfl <| nL <| tRt <| rOk rfl ?_ nPo
   by_cases h0 : l = []
   ·subst h0; rfl
   simp_all [z4b]
  have hne : l ≠ [] := by intro h; subst h; simp at hb6
  have hpos : 0 < l.length := List.length_pos_iff.2 hne
  have hlt : l.length - 1 < l.length := by omega
  have hi := z2r (List.getElem?_eq_getElem hlt)
  have hlast : l.getLast? = some l[l.length - 1] := by rw [List.getLast?_eq_getElem?]; exact List.getElem?_eq_getElem hlt
  generalize l[l.length - 1] = x at hi hlast
  have hsub : (l.length : Int) - 1 = ((l.length - 1 : Nat) : Int) := by omega
  refine sm 2 rfl <| yV rfl rfl (oSm uT44 rfl) <| yV rfl rfl (oB rfl rfl (z3l rfl oM0)) <| WL.sub (Sub.of (fr' := [(10, iInt ((l.length - 1 : Nat) : Int)), (7, .pv (z0g l)), (6, iBool false), (0, .pv (z0g l))]) ⟨by rw [<- hsub]; rfl, rfl, rfl, rfl, trivial⟩) <| yV rfl rfl (iSq rfl rfl rfl uT44 (by assumption) tS43 rfl (by rfl)) <| yV rfl rfl (lEA rfl rfl uT43 rfl tS43 (lb rfl)) <| WL.yes rfl rfl rfl rfl rfl rfl (z10 (z6g _) y3s rfl rfl (sRf _ _) rfl) <| sm 2 rfl <| nL ?_
  refine tC rfl (fun hc15 => ?_) fun hc15 => ?_
  ·refine tQ <| tG <| sm 1 rfl <| nL <| tRt <| rOk rfl ?_ nPo
   by_cases h0 : l = []
   ·subst h0; rfl
   simp_all [z4b]
  refine tSk <| tQ <| tG <| sm 2 rfl <| cV rfl (oSm uT44 rfl) <| cV rfl (oB rfl rfl (z3l rfl oM0)) <| WL.sub (Sub.of (fr' := [(19, iInt ((l.length - 1 : Nat) : Int)), (16, .pv (z0g l))]) ⟨by rw [<- hsub]; rfl, rfl, trivial⟩) <| cV rfl (iSq rfl rfl rfl uT44 (by assumption) tS43 rfl (by rfl)) <| sm 3 rfl <| nL <| tRt <| rOk rfl ?_ nPo
  simp_all [z4b]
theorem zi8 (N : Nat) : ∀ (l : List Nd), SizeOf.sizeOf l < N -> SC Tryz.prog 77 [.pv (z0g l)] [] (fun _ => False) (iBool (z0y l)) [] := by
  induction N with
  | zero => intro l hN; exact absurd hN (Nat.not_lt_zero _)
  | succ N ih =>
    intro l hN
    refine SC.of Tryz.func77 rfl (lb rfl) fun F ρ w => ?_
    refine Tr.lenOf (t := 0) rfl (fun hl => ?_)
    simp only [List.length_map] at hl
    refine tQ <| tG <| sm 1 rfl <| nL <| tQ <| tQ <| tG <| sm 1 rfl <| nL <| tBk <| Tr.sub (Sub.of (fr' := [(3, iInt 0), (0, .pv (z0g l))]) ⟨rfl, rfl, trivial⟩) ?_
    refine Tr.loop (fun fr σ m => ∃ (k : Nat), (k <= l.length) /\ (z0y l = z0y (l.drop k)) /\ fr = [(3, iInt k), (0, .pv (z0g l))] /\ σ = look [] /\ m = l.length - k) (n := l.length - 0) ?_ ?_
    ·exact ⟨0, Nat.zero_le _, rfl, rfl, rfl, rfl⟩
    rintro fr σ m ⟨k, hI0, hI1, rfl, rfl, rfl⟩
    refine tQ <| tQ <| tG <| sm 2 rfl <| cV rfl (oSm uT44 rfl) <| sm 1 rfl <| nL ?_
    refine tC rfl (fun hc8 => ?_) fun hc8 => ?_
    ·have hlt : k < l.length := by simpa using hc8
     have hd := List.drop_eq_getElem_cons hlt
     have hm := List.getElem_mem hlt
     have hi := z2r (List.getElem?_eq_getElem hlt)
     generalize l[k] = x at hd hm hi
     refine tSk <| tQ <| tBk <| tQ <| tQ <| tG <| sm 2 rfl <| cV rfl (iSq rfl rfl rfl uT44 (by assumption) tS43 rfl (by rfl)) <| sm 3 rfl <| nL ?_
     refine tC rfl (fun hc16 => ?_) fun hc16 => ?_
     ·refine tQ <| tG <| sm 1 rfl <| nL <| tRt <| rOk rfl ?_ nPo
      rw [hI1, hd]
      simp_all [z0y, z4v]
     refine tSk <| tQ <| tG <| sm 1 rfl <| nL <| tBk ?_
     have hstart : z0y l = ((x.kind == 10 && z2d (x.kids.drop 0)) || z0y (l.drop (k + 1))) := by
       rw [hI1, hd]
       have h14 : (x.kind == 14) = false := by simpa using hc16
       simp [z0y, z4v, h14]
     refine Tr.sub (Sub.of (fr' := [(4, iInt 0), (3, iInt k), (0, .pv (z0g l))]) ⟨rfl, rfl, rfl, trivial⟩) ?_
     refine Tr.loop (fun fr σ m => ∃ (i : Nat), (i <= x.kids.length) /\ (z0y l = ((x.kind == 10 && z2d (x.kids.drop i)) || z0y (l.drop (k + 1)))) /\ fr = [(4, iInt i), (3, iInt k), (0, .pv (z0g l))] /\ σ = look [] /\ m = x.kids.length - i) (n := x.kids.length - 0) ?_ ?_
     ·exact ⟨0, Nat.zero_le _, hstart, rfl, rfl, rfl⟩
     rintro fr σ m ⟨i, hJ0, hJ1, rfl, rfl, rfl⟩
     refine tQ <| tQ <| tG <| sm 3 rfl <| cV rfl (iSq rfl rfl rfl uT44 (by assumption) tS43 rfl (by rfl)) <| sm 2 rfl ?_
     refine WL.lenOf (t := 22) rfl (fun hl2 => ?_)
     simp only [List.length_map] at hl2
     refine cV rfl (oSm uT41 rfl) <| sm 2 rfl ?_
     refine wS 25 rfl (fun hb25 => ?_) fun hb25 => ?_
     ·refine sm 2 rfl <| yV rfl rfl (iSq rfl rfl rfl uT44 (by assumption) tS43 rfl (by rfl)) <| sm 4 rfl <| nL ?_
      refine tC rfl (fun hc32 => ?_) fun hc32 => ?_
      ·have hlt2 : i < x.kids.length := by simpa using hb25
       have hd2 := List.drop_eq_getElem_cons hlt2
       have hm2 := List.getElem_mem hlt2
       have hi2 := z0i (f := eKid) (List.getElem?_eq_getElem hlt2)
       generalize x.kids[i] = q at hd2 hm2 hi2
       have hdec : SizeOf.sizeOf q < N := Nat.lt_of_lt_of_le (z7j hm rfl hm2) (Nat.le_of_lt_succ hN)
       refine tSk <| tQ <| tBk <| tQ <| tG <| sm 2 rfl <| cV rfl (iSq rfl rfl rfl uT44 (by assumption) tS43 rfl (by rfl)) <| sm 3 rfl <| cV rfl (iSq rfl rfl rfl uT41 (by assumption) tS44 rfl (by rfl)) <| sm 1 rfl <| cE rfl (ocq (ih _ hdec) ent77 rfl rfl) <| nL ?_
       refine tC rfl (fun hc43 => ?_) fun hc43 => ?_
       ·refine tQ <| tG <| sm 1 rfl <| nL <| tRt <| rOk rfl ?_ nPo
        rw [hJ1, hd2]
        simp at hc32
        simp [z2d, hc32, hc43]
       refine tSk <| tG <| sm 1 rfl <| cV rfl (oB rfl rfl (z0b rfl oM0)) <| sm 1 rfl <| nL ?_
       refine ⟨_, _, ?_, Sub.of (fr' := [(4, iInt (i + 1)), (3, iInt k), (0, .pv (z0g l))]) ⟨rfl, rfl, rfl, trivial⟩, (i + 1), ?_, ?_, rfl, rfl, rfl⟩
       ·omega
       ·omega
       rw [hJ1, hd2]
       simp [z2d, hc43]
      refine tEx <| tG <| sm 1 rfl <| cV rfl (oB rfl rfl (z0b rfl oM0)) <| sm 1 rfl <| nL ?_
      refine ⟨_, _, ?_, Sub.of (fr' := [(3, iInt (k + 1)), (0, .pv (z0g l))]) ⟨rfl, rfl, trivial⟩, (k + 1), ?_, ?_, rfl, rfl, rfl⟩
      ·omega
      ·omega
      first
      | (have h10 : (x.kind == 10) = false := by simpa using hc32
         rw [hJ1, h10]; simp)
      | (rw [hJ1, List.drop_eq_nil_of_le (by simpa using hb25)]; simp [z2d])
     refine sm 7 rfl <| nL <| Tr.condF rfl <| tEx <| tG <| sm 1 rfl <| cV rfl (oB rfl rfl (z0b rfl oM0)) <| sm 1 rfl <| nL ?_
     refine ⟨_, _, ?_, Sub.of (fr' := [(3, iInt (k + 1)), (0, .pv (z0g l))]) ⟨rfl, rfl, trivial⟩, (k + 1), ?_, ?_, rfl, rfl, rfl⟩
     ·omega
     ·omega
     first
     | (have h10 : (x.kind == 10) = false := by simpa using hc32
        rw [hJ1, h10]; simp)
     | (rw [hJ1, List.drop_eq_nil_of_le (by simpa using hb25)]; simp [z2d])
    refine tEx <| tQ <| tG <| sm 1 rfl <| nL <| tRt <| rOk rfl ?_ nPo
    have hge : l.length <= k := by simpa using hc8
    rw [hI1, List.drop_eq_nil_of_le hge]
    rfl
theorem zi7 (l : List Nd) : SC Tryz.prog 77 [.pv (z0g l)] [] (fun _ => False) (iBool (z0y l)) [] := zi8 _ l (Nat.lt_succ_self _)
theorem y5c (x : Nd) : SC Tryz.prog 94 [.pv (ndv x)] [] (fun _ => False) (iBool (z0k x)) [] := by
  refine SC.of Tryz.func94 rfl (lb rfl) fun F ρ w => ?_
  refine tQ <| tG <| cE rfl (z1d rfl rfl) <| sm 1 rfl <| nL <| tQ ?_
  refine Tr.cut (fr' := [(3, iBool (r8op x)), (1, .pv (.ept [vInt x.kind, vInt x.op, vInt x.n, vStr x.name, ints x.args, ints x.outs, ints x.params, kids x.kids] 0))]) (σ' := look []) ?_ ?_
  ·refine tG <| sm 4 rfl ?_
   refine wS 10 rfl (fun hb10 => ?_) fun hb10 => ?_
   ·refine sm 5 rfl <| nL ?_
    refine ⟨rfl, Sub.of ⟨?_, ?_, trivial⟩, rfl⟩
    all_goals first | rfl | (refine congrArg some ?_; simp_all [r8op]; done)
   refine sm 5 rfl <| nL ?_
   refine ⟨rfl, Sub.of ⟨?_, ?_, trivial⟩, rfl⟩
   all_goals first | rfl | (refine congrArg some ?_; simp_all [r8op]; done)
  refine tQ ?_
  refine Tr.cut (fr' := [(4, iBool (z1t x)), (3, iBool (r8op x)), (1, .pv (.ept [vInt x.kind, vInt x.op, vInt x.n, vStr x.name, ints x.args, ints x.outs, ints x.params, kids x.kids] 0))]) (σ' := look []) ?_ ?_
  ·refine tG <| sm 4 rfl ?_
   refine wS 18 rfl (fun hb18 => ?_) fun hb18 => ?_
   ·refine sm 5 rfl <| nL ?_
    refine ⟨rfl, Sub.of ⟨?_, ?_, ?_, trivial⟩, rfl⟩
    all_goals first | rfl | (refine congrArg some ?_; simp_all [z1t]; done)
   refine sm 5 rfl <| nL ?_
   refine ⟨rfl, Sub.of ⟨?_, ?_, ?_, trivial⟩, rfl⟩
   all_goals first | rfl | (refine congrArg some ?_; simp_all [z1t]; done)
  refine tQ ?_
  refine Tr.cut (fr' := [(5, iBool (z12 x)), (4, iBool (z1t x)), (3, iBool (r8op x)), (1, .pv (.ept [vInt x.kind, vInt x.op, vInt x.n, vStr x.name, ints x.args, ints x.outs, ints x.params, kids x.kids] 0))]) (σ' := look []) ?_ ?_
  ·refine tG <| sm 4 rfl ?_
   refine wS 26 rfl (fun hb26 => ?_) fun hb26 => ?_
   ·refine sm 10 rfl <| nL ?_
    refine ⟨rfl, Sub.of ⟨?_, ?_, ?_, ?_, trivial⟩, rfl⟩
    all_goals first | rfl | (refine congrArg some ?_; simp_all [z12]; done)
   refine sm 5 rfl ?_
   refine wS 31 rfl (fun hb31 => ?_) fun hb31 => ?_
   ·refine sm 5 rfl <| nL ?_
    refine ⟨rfl, Sub.of ⟨?_, ?_, ?_, ?_, trivial⟩, rfl⟩
    all_goals first | rfl | (refine congrArg some ?_; simp_all [z12]; done)
   refine sm 5 rfl <| nL ?_
   refine ⟨rfl, Sub.of ⟨?_, ?_, ?_, ?_, trivial⟩, rfl⟩
   all_goals first | rfl | (refine congrArg some ?_; simp_all [z12]; done)
  refine tQ <| tG <| sm 1 rfl <| nL <| tQ <| tQ <| tG <| sm 3 rfl <| nL ?_
  refine Tr.cut (fr' := [(6, iInt (if x.kind == 10 then 2 else 0)), (5, iBool (z12 x)), (4, iBool (z1t x)), (3, iBool (r8op x)), (1, .pv (.ept [vInt x.kind, vInt x.op, vInt x.n, vStr x.name, ints x.args, ints x.outs, ints x.params, kids x.kids] 0))]) (σ' := look []) ?_ ?_
  ·refine tC rfl (fun hc38 => ?_) fun hc38 => ?_
   ·refine tG <| sm 1 rfl <| nL ?_
    refine ⟨rfl, Sub.of ⟨?_, ?_, ?_, ?_, ?_, trivial⟩, rfl⟩
    all_goals first | rfl | (refine congrArg some ?_; simp_all; done)
   refine tSk ?_
   refine ⟨rfl, Sub.of ⟨?_, ?_, ?_, ?_, ?_, trivial⟩, rfl⟩
   all_goals first | rfl | (refine congrArg some ?_; simp_all; done)
  refine tQ <| tQ <| tG <| sm 3 rfl <| nL ?_
  refine Tr.cut (fr' := [(6, iInt (r8kn x)), (5, iBool (z12 x)), (4, iBool (z1t x)), (3, iBool (r8op x)), (1, .pv (.ept [vInt x.kind, vInt x.op, vInt x.n, vStr x.name, ints x.args, ints x.outs, ints x.params, kids x.kids] 0))]) (σ' := look []) ?_ ?_
  ·refine tC rfl (fun hc41 => ?_) fun hc41 => ?_
   ·refine tG <| sm 1 rfl <| nL ?_
    refine ⟨rfl, Sub.of ⟨?_, ?_, ?_, ?_, ?_, trivial⟩, rfl⟩
    all_goals first | rfl | (refine congrArg some ?_; simp_all [r8kn]; done)
   refine tSk ?_
   refine ⟨rfl, Sub.of ⟨?_, ?_, ?_, ?_, ?_, trivial⟩, rfl⟩
   all_goals first | rfl | (refine congrArg some ?_; simp_all [r8kn]; done)
  refine tQ <| tG <| sm 2 rfl ?_
  refine wS 43 rfl (fun hb43 => ?_) fun hb43 => ?_
  ·refine sm 7 rfl ?_
   refine wS 50 rfl (fun hb50 => ?_) fun hb50 => ?_
   ·refine sm 8 rfl ?_
    refine wS 58 rfl (fun hb58 => ?_) fun hb58 => ?_
    ·refine sm 8 rfl <| yV rfl rfl (oSm uT41 rfl) <| sm 4 rfl ?_
     refine wS 71 rfl (fun hb71 => ?_) fun hb71 => ?_
     ·refine sm 4 rfl ?_
      refine wS 75 rfl (fun hb75 => ?_) fun hb75 => ?_
      ·refine sm 7 rfl <| nL <| tRt <| rOk rfl ?_ nPo
       simp_all [z0k]
      refine sm 2 rfl <| yV rfl rfl (oSm uT35 rfl) <| sm 4 rfl <| nL <| tRt <| rOk rfl ?_ nPo
      simp_all [z0k]
     refine sm 4 rfl <| nUu rfl rfl rfl rfl rfl rfl <| nUu rfl rfl rfl rfl rfl rfl <| nUu rfl rfl rfl rfl rfl rfl <| nUu rfl rfl rfl rfl rfl rfl <| sm 3 rfl <| nL <| tRt <| rOk rfl ?_ nPo
     simp_all [z0k]
    refine sm 2 rfl <| yV rfl rfl (bSt rfl rfl rfl rfl) <| sm 3 rfl ?_
    refine wS 64 rfl (fun hb64 => ?_) fun hb64 => ?_
    ·refine sm 2 rfl <| yV rfl rfl (oSm uT41 rfl) <| sm 4 rfl ?_
     refine wS 71 rfl (fun hb71 => ?_) fun hb71 => ?_
     ·refine sm 4 rfl ?_
      refine wS 75 rfl (fun hb75 => ?_) fun hb75 => ?_
      ·refine sm 7 rfl <| nL <| tRt <| rOk rfl ?_ nPo
       simp_all [z0k]
      refine sm 2 rfl <| yV rfl rfl (oSm uT35 rfl) <| sm 4 rfl <| nL <| tRt <| rOk rfl ?_ nPo
      simp_all [z0k]
     refine sm 4 rfl <| nUu rfl rfl rfl rfl rfl rfl <| nUu rfl rfl rfl rfl rfl rfl <| nUu rfl rfl rfl rfl rfl rfl <| nUu rfl rfl rfl rfl rfl rfl <| sm 3 rfl <| nL <| tRt <| rOk rfl ?_ nPo
     simp_all [z0k]
    refine sm 11 rfl <| nUu rfl rfl rfl rfl rfl rfl <| nUu rfl rfl rfl rfl rfl rfl <| nUu rfl rfl rfl rfl rfl rfl <| nUu rfl rfl rfl rfl rfl rfl <| sm 3 rfl <| nL <| tRt <| rOk rfl ?_ nPo
    simp_all [z0k]
   refine sm 6 rfl ?_
   refine wS 56 rfl (fun hb56 => ?_) fun hb56 => ?_
   ·refine sm 2 rfl ?_
    refine wS 58 rfl (fun hb58 => ?_) fun hb58 => ?_
    ·refine sm 8 rfl <| yV rfl rfl (oSm uT41 rfl) <| sm 4 rfl ?_
     refine wS 71 rfl (fun hb71 => ?_) fun hb71 => ?_
     ·refine sm 4 rfl ?_
      refine wS 75 rfl (fun hb75 => ?_) fun hb75 => ?_
      ·refine sm 7 rfl <| nL <| tRt <| rOk rfl ?_ nPo
       simp_all [z0k]
      refine sm 2 rfl <| yV rfl rfl (oSm uT35 rfl) <| sm 4 rfl <| nL <| tRt <| rOk rfl ?_ nPo
      simp_all [z0k]
     refine sm 4 rfl <| nUu rfl rfl rfl rfl rfl rfl <| nUu rfl rfl rfl rfl rfl rfl <| nUu rfl rfl rfl rfl rfl rfl <| nUu rfl rfl rfl rfl rfl rfl <| sm 3 rfl <| nL <| tRt <| rOk rfl ?_ nPo
     simp_all [z0k]
    refine sm 2 rfl <| yV rfl rfl (bSt rfl rfl rfl rfl) <| sm 3 rfl ?_
    refine wS 64 rfl (fun hb64 => ?_) fun hb64 => ?_
    ·refine sm 2 rfl <| yV rfl rfl (oSm uT41 rfl) <| sm 4 rfl ?_
     refine wS 71 rfl (fun hb71 => ?_) fun hb71 => ?_
     ·refine sm 4 rfl ?_
      refine wS 75 rfl (fun hb75 => ?_) fun hb75 => ?_
      ·refine sm 7 rfl <| nL <| tRt <| rOk rfl ?_ nPo
       simp_all [z0k]
      refine sm 2 rfl <| yV rfl rfl (oSm uT35 rfl) <| sm 4 rfl <| nL <| tRt <| rOk rfl ?_ nPo
      simp_all [z0k]
     refine sm 4 rfl <| nUu rfl rfl rfl rfl rfl rfl <| nUu rfl rfl rfl rfl rfl rfl <| nUu rfl rfl rfl rfl rfl rfl <| nUu rfl rfl rfl rfl rfl rfl <| sm 3 rfl <| nL <| tRt <| rOk rfl ?_ nPo
     simp_all [z0k]
    refine sm 11 rfl <| nUu rfl rfl rfl rfl rfl rfl <| nUu rfl rfl rfl rfl rfl rfl <| nUu rfl rfl rfl rfl rfl rfl <| nUu rfl rfl rfl rfl rfl rfl <| sm 3 rfl <| nL <| tRt <| rOk rfl ?_ nPo
    simp_all [z0k]
   refine sm 2 rfl <| nUu rfl rfl rfl rfl rfl rfl <| nUu rfl rfl rfl rfl rfl rfl <| nUu rfl rfl rfl rfl rfl rfl <| sm 14 rfl <| nUu rfl rfl rfl rfl rfl rfl <| nUu rfl rfl rfl rfl rfl rfl <| nUu rfl rfl rfl rfl rfl rfl <| nUu rfl rfl rfl rfl rfl rfl <| sm 3 rfl <| nL <| tRt <| rOk rfl ?_ nPo
   simp_all [z0k]
  refine sm 5 rfl ?_
  refine wS 48 rfl (fun hb48 => ?_) fun hb48 => ?_
  ·refine sm 2 rfl ?_
   refine wS 50 rfl (fun hb50 => ?_) fun hb50 => ?_
   ·refine sm 8 rfl ?_
    refine wS 58 rfl (fun hb58 => ?_) fun hb58 => ?_
    ·refine sm 8 rfl <| yV rfl rfl (oSm uT41 rfl) <| sm 4 rfl ?_
     refine wS 71 rfl (fun hb71 => ?_) fun hb71 => ?_
     ·refine sm 4 rfl ?_
      refine wS 75 rfl (fun hb75 => ?_) fun hb75 => ?_
      ·refine sm 7 rfl <| nL <| tRt <| rOk rfl ?_ nPo
       simp_all [z0k]
      refine sm 2 rfl <| yV rfl rfl (oSm uT35 rfl) <| sm 4 rfl <| nL <| tRt <| rOk rfl ?_ nPo
      simp_all [z0k]
     refine sm 4 rfl <| nUu rfl rfl rfl rfl rfl rfl <| nUu rfl rfl rfl rfl rfl rfl <| nUu rfl rfl rfl rfl rfl rfl <| nUu rfl rfl rfl rfl rfl rfl <| sm 3 rfl <| nL <| tRt <| rOk rfl ?_ nPo
     simp_all [z0k]
    refine sm 2 rfl <| yV rfl rfl (bSt rfl rfl rfl rfl) <| sm 3 rfl ?_
    refine wS 64 rfl (fun hb64 => ?_) fun hb64 => ?_
    ·refine sm 2 rfl <| yV rfl rfl (oSm uT41 rfl) <| sm 4 rfl ?_
     refine wS 71 rfl (fun hb71 => ?_) fun hb71 => ?_
     ·refine sm 4 rfl ?_
      refine wS 75 rfl (fun hb75 => ?_) fun hb75 => ?_
      ·refine sm 7 rfl <| nL <| tRt <| rOk rfl ?_ nPo
       simp_all [z0k]
      refine sm 2 rfl <| yV rfl rfl (oSm uT35 rfl) <| sm 4 rfl <| nL <| tRt <| rOk rfl ?_ nPo
      simp_all [z0k]
     refine sm 4 rfl <| nUu rfl rfl rfl rfl rfl rfl <| nUu rfl rfl rfl rfl rfl rfl <| nUu rfl rfl rfl rfl rfl rfl <| nUu rfl rfl rfl rfl rfl rfl <| sm 3 rfl <| nL <| tRt <| rOk rfl ?_ nPo
     simp_all [z0k]
    refine sm 11 rfl <| nUu rfl rfl rfl rfl rfl rfl <| nUu rfl rfl rfl rfl rfl rfl <| nUu rfl rfl rfl rfl rfl rfl <| nUu rfl rfl rfl rfl rfl rfl <| sm 3 rfl <| nL <| tRt <| rOk rfl ?_ nPo
    simp_all [z0k]
   refine sm 6 rfl ?_
   refine wS 56 rfl (fun hb56 => ?_) fun hb56 => ?_
   ·refine sm 2 rfl ?_
    refine wS 58 rfl (fun hb58 => ?_) fun hb58 => ?_
    ·refine sm 8 rfl <| yV rfl rfl (oSm uT41 rfl) <| sm 4 rfl ?_
     refine wS 71 rfl (fun hb71 => ?_) fun hb71 => ?_
     ·refine sm 4 rfl ?_
      refine wS 75 rfl (fun hb75 => ?_) fun hb75 => ?_
      ·refine sm 7 rfl <| nL <| tRt <| rOk rfl ?_ nPo
       simp_all [z0k]
      refine sm 2 rfl <| yV rfl rfl (oSm uT35 rfl) <| sm 4 rfl <| nL <| tRt <| rOk rfl ?_ nPo
      simp_all [z0k]
     refine sm 4 rfl <| nUu rfl rfl rfl rfl rfl rfl <| nUu rfl rfl rfl rfl rfl rfl <| nUu rfl rfl rfl rfl rfl rfl <| nUu rfl rfl rfl rfl rfl rfl <| sm 3 rfl <| nL <| tRt <| rOk rfl ?_ nPo
     simp_all [z0k]
    refine sm 2 rfl <| yV rfl rfl (bSt rfl rfl rfl rfl) <| sm 3 rfl ?_
    refine wS 64 rfl (fun hb64 => ?_) fun hb64 => ?_
    ·refine sm 2 rfl <| yV rfl rfl (oSm uT41 rfl) <| sm 4 rfl ?_
     refine wS 71 rfl (fun hb71 => ?_) fun hb71 => ?_
     ·refine sm 4 rfl ?_
      refine wS 75 rfl (fun hb75 => ?_) fun hb75 => ?_
      ·refine sm 7 rfl <| nL <| tRt <| rOk rfl ?_ nPo
       simp_all [z0k]
      refine sm 2 rfl <| yV rfl rfl (oSm uT35 rfl) <| sm 4 rfl <| nL <| tRt <| rOk rfl ?_ nPo
      simp_all [z0k]
     refine sm 4 rfl <| nUu rfl rfl rfl rfl rfl rfl <| nUu rfl rfl rfl rfl rfl rfl <| nUu rfl rfl rfl rfl rfl rfl <| nUu rfl rfl rfl rfl rfl rfl <| sm 3 rfl <| nL <| tRt <| rOk rfl ?_ nPo
     simp_all [z0k]
    refine sm 11 rfl <| nUu rfl rfl rfl rfl rfl rfl <| nUu rfl rfl rfl rfl rfl rfl <| nUu rfl rfl rfl rfl rfl rfl <| nUu rfl rfl rfl rfl rfl rfl <| sm 3 rfl <| nL <| tRt <| rOk rfl ?_ nPo
    simp_all [z0k]
   refine sm 2 rfl <| nUu rfl rfl rfl rfl rfl rfl <| nUu rfl rfl rfl rfl rfl rfl <| nUu rfl rfl rfl rfl rfl rfl <| sm 14 rfl <| nUu rfl rfl rfl rfl rfl rfl <| nUu rfl rfl rfl rfl rfl rfl <| nUu rfl rfl rfl rfl rfl rfl <| nUu rfl rfl rfl rfl rfl rfl <| sm 3 rfl <| nL <| tRt <| rOk rfl ?_ nPo
   simp_all [z0k]
  refine sm 2 rfl <| nUu rfl rfl rfl rfl rfl rfl <| nUu rfl rfl rfl rfl rfl rfl <| nUu rfl rfl rfl rfl rfl rfl <| sm 5 rfl <| nUu rfl rfl rfl rfl rfl rfl <| nUu rfl rfl rfl rfl rfl rfl <| nUu rfl rfl rfl rfl rfl rfl <| sm 14 rfl <| nUu rfl rfl rfl rfl rfl rfl <| nUu rfl rfl rfl rfl rfl rfl <| nUu rfl rfl rfl rfl rfl rfl ?_
  refine nUu rfl rfl rfl rfl rfl rfl <| sm 3 rfl <| nL <| tRt <| rOk rfl ?_ nPo
  simp_all [z0k]
theorem z2o (x : Nd) : SC Tryz.prog 54 [.pv (ndv x)] [] (fun _ => False) (iBool (z09 x)) [] := by
  refine SC.of Tryz.func54 rfl (lb rfl) fun F ρ w => ?_
  refine tQ <| tG <| cE rfl (z1d rfl rfl) <| sm 1 rfl <| nL <| tQ <| tBk <| tQ <| tG <| sm 4 rfl ?_
  refine wS 7 rfl (fun hb7 => ?_) fun hb7 => ?_
  ·refine sm 2 rfl <| yV rfl rfl (oSm uT41 rfl) <| sm 3 rfl <| nL ?_
   refine tC rfl (fun hc3 => ?_) fun hc3 => ?_
   ·have hl : x.kids.length = 2 := by first | (simp_all; done) | (simp_all; omega)
    have h10 : x.kind = 10 := by simp_all
    have hi0 : (x.kids.map eKid)[0]? = some [z0g (kid0 x.kids)] := by rw [List.getElem?_map]; simp [kid0, eKid, hl]
    have hi1 : (x.kids.map eKid)[1]? = some [z0g (kid1 x.kids)] := by rw [List.getElem?_map]; simp [kid1, eKid, hl]
    refine tQ <| tG <| sm 2 rfl <| cV rfl (iSq rfl rfl rfl uT41 hi0 tS44 rfl (by rfl)) <| sm 1 rfl <| cE rfl (ocq (zw3 _) ent76 rfl rfl) <| sm 2 rfl ?_
    refine wS 19 rfl (fun hb19 => ?_) fun hb19 => ?_
    ·refine sm 2 rfl <| yV rfl rfl (iSq rfl rfl rfl uT41 hi1 tS44 rfl (by rfl)) <| sm 1 rfl <| WL.yes rfl rfl rfl rfl rfl rfl (z10 (zw3 _) ent76 rfl rfl (sRf _ _) rfl) <| sm 3 rfl <| nL <| tRt <| rOk rfl ?_ nPo
     simp_all [z09]
    refine sm 8 rfl <| nL <| tRt <| rOk rfl ?_ nPo
    simp_all [z09]
   refine tQ <| tG <| sm 4 rfl ?_
   refine wS 31 rfl (fun hb31 => ?_) fun hb31 => ?_
   ·refine sm 2 rfl <| yV rfl rfl (oSm uT41 rfl) <| sm 3 rfl <| nL ?_
    refine tC rfl (fun hc27 => ?_) fun hc27 => ?_
    ·have hl : x.kids.length = 1 := by first | (simp_all; done) | (simp_all; omega)
     have h11 : x.kind = 11 := by simp_all
     have hi0 : (x.kids.map eKid)[0]? = some [z0g (kid0 x.kids)] := by rw [List.getElem?_map]; simp [kid0, eKid, hl]
     refine tQ <| tG <| sm 2 rfl <| cV rfl (iSq rfl rfl rfl uT41 hi0 tS44 rfl (by rfl)) <| sm 1 rfl <| cE rfl (ocq (zi7 _) ent77 rfl rfl) <| sm 2 rfl <| nL <| tRt <| rOk rfl ?_ nPo
     simp_all [z09]
    refine tSk <| tQ <| tG <| cV rfl (lEA rfl rfl uT43 rfl tS43 (lb rfl)) <| cE rfl (ocq (z6g _) y3s rfl rfl) <| sm 1 rfl <| nL <| tRt <| rOk rfl ?_ nPo
    simp_all [z09]
   refine sm 6 rfl <| nL <| Tr.condF rfl <| tSk <| tQ <| tG <| cV rfl (lEA rfl rfl uT43 rfl tS43 (lb rfl)) <| cE rfl (ocq (z6g _) y3s rfl rfl) <| sm 1 rfl <| nL <| tRt <| rOk rfl ?_ nPo
   simp_all [z09]
  refine sm 6 rfl <| nL <| Tr.condF rfl <| tQ <| tG <| sm 4 rfl ?_
  refine wS 31 rfl (fun hb31 => ?_) fun hb31 => ?_
  ·refine sm 2 rfl <| yV rfl rfl (oSm uT41 rfl) <| sm 3 rfl <| nL ?_
   refine tC rfl (fun hc27 => ?_) fun hc27 => ?_
   ·have hl : x.kids.length = 1 := by first | (simp_all; done) | (simp_all; omega)
    have h11 : x.kind = 11 := by simp_all
    have hi0 : (x.kids.map eKid)[0]? = some [z0g (kid0 x.kids)] := by rw [List.getElem?_map]; simp [kid0, eKid, hl]
    refine tQ <| tG <| sm 2 rfl <| cV rfl (iSq rfl rfl rfl uT41 hi0 tS44 rfl (by rfl)) <| sm 1 rfl <| cE rfl (ocq (zi7 _) ent77 rfl rfl) <| sm 2 rfl <| nL <| tRt <| rOk rfl ?_ nPo
    simp_all [z09]
   refine tSk <| tQ <| tG <| cV rfl (lEA rfl rfl uT43 rfl tS43 (lb rfl)) <| cE rfl (ocq (z6g _) y3s rfl rfl) <| sm 1 rfl <| nL <| tRt <| rOk rfl ?_ nPo
   simp_all [z09]
  refine sm 6 rfl <| nL <| Tr.condF rfl <| tSk <| tQ <| tG <| cV rfl (lEA rfl rfl uT43 rfl tS43 (lb rfl)) <| cE rfl (ocq (z6g _) y3s rfl rfl) <| sm 1 rfl <| nL <| tRt <| rOk rfl ?_ nPo
  simp_all [z09]
theorem z5b (u : Un) (name : ByteArray) : SC Tryz.prog 30 [.pv u.enc, iStr name] [] (fun _ => False) (iInt (z0a name u.flows 0)) [] := by
  refine SC.of Tryz.func30 rfl (lb rfl) fun F ρ w => ?_
  refine tQ <| tG <| cE rfl (z1d rfl rfl) <| sm 1 rfl <| nL <| tQ <| tQ <| tG <| sm 1 rfl <| nL <| tBk <| Tr.sub (Sub.of (fr' := [(5, iInt 0), (2, .pv (.ept [arrs u.arrays, flws u.flows] 0)), (1, iStr name)]) ⟨rfl, rfl, rfl, trivial⟩) ?_
  refine Tr.loop (fun fr σ m => ∃ (k : Nat), (k <= u.flows.length) /\ (z0a name u.flows 0 = z0a name (u.flows.drop k) k) /\ fr = [(5, iInt k), (2, .pv (.ept [arrs u.arrays, flws u.flows] 0)), (1, iStr name)] /\ σ = look [] /\ m = u.flows.length - k) (n := u.flows.length - 0) ?_ ?_
  ·exact ⟨0, Nat.zero_le _, rfl, rfl, rfl, rfl⟩
  rintro fr σ m ⟨k, hI0, hI1, rfl, rfl, rfl⟩
  refine tQ <| tQ <| tG <| sm 3 rfl ?_
  refine WL.lenOf (t := 8) rfl (fun hl => ?_)
  simp only [List.length_map] at hl
  refine cV rfl (oSm uT23 rfl) <| sm 1 rfl <| nL ?_
  refine tC rfl (fun hc10 => ?_) fun hc10 => ?_
  ·have hlt : k < u.flows.length := by simpa using hc10
   have hd := List.drop_eq_getElem_cons hlt
   have hm := List.getElem_mem hlt
   have hi := z0i (f := Fl.enc) (List.getElem?_eq_getElem hlt)
   generalize u.flows[k] = x at hd hm hi
   refine tSk <| tQ <| tBk <| tQ <| tG <| sm 3 rfl <| cV rfl (iSq rfl rfl rfl uT23 (by assumption) tS51 rfl (by rfl)) <| sm 3 rfl <| cV rfl (bSt rfl rfl rfl rfl) <| nL ?_
   refine tC rfl (fun hc20 => ?_) fun hc20 => ?_
   ·refine tQ <| tG <| sm 2 rfl <| nL <| tRt <| rOk rfl ?_ nPo
    rw [hI1, hd]
    have h20 : eqS x.name name = true := by simpa [eqS] using hc20
    simp [z0a, h20]
   refine tSk <| tG <| sm 1 rfl <| cV rfl (oB rfl rfl (z0b rfl oM0)) <| sm 1 rfl <| nL ?_
   refine ⟨_, _, ?_, Sub.of (fr' := [(5, iInt (k + 1)), (2, .pv (.ept [arrs u.arrays, flws u.flows] 0)), (1, iStr name)]) ⟨rfl, rfl, rfl, trivial⟩, (k + 1), ?_, ?_, rfl, rfl, rfl⟩
   ·omega
   ·omega
   rw [hI1, hd]
   have h20 : eqS x.name name = false := by simpa [eqS] using hc20
   simp [z0a, h20]
  refine tEx <| tQ <| tG <| sm 1 rfl <| nL <| tRt <| rOk rfl ?_ nPo
  have hge : u.flows.length <= k := by simpa using hc10
  rw [hI1, List.drop_eq_nil_of_le hge]
  rfl
theorem z85 (u : Un) (name : ByteArray) : SC Tryz.prog 48 [.pv u.enc, iStr name] [] (fun _ => False) (iInt (z1j name u.arrays 0)) [] := by
  refine SC.of Tryz.func48 rfl (lb rfl) fun F ρ w => ?_
  refine tQ <| tG <| cE rfl (z1d rfl rfl) <| sm 1 rfl <| nL <| tQ <| tQ <| tG <| sm 1 rfl <| nL <| tBk <| Tr.sub (Sub.of (fr' := [(5, iInt 0), (2, .pv (.ept [arrs u.arrays, flws u.flows] 0)), (1, iStr name)]) ⟨rfl, rfl, rfl, trivial⟩) ?_
  refine Tr.loop (fun fr σ m => ∃ (k : Nat), (k <= u.arrays.length) /\ (z1j name u.arrays 0 = z1j name (u.arrays.drop k) k) /\ fr = [(5, iInt k), (2, .pv (.ept [arrs u.arrays, flws u.flows] 0)), (1, iStr name)] /\ σ = look [] /\ m = u.arrays.length - k) (n := u.arrays.length - 0) ?_ ?_
  ·exact ⟨0, Nat.zero_le _, rfl, rfl, rfl, rfl⟩
  rintro fr σ m ⟨k, hI0, hI1, rfl, rfl, rfl⟩
  refine tQ <| tQ <| tG <| sm 3 rfl ?_
  refine WL.lenOf (t := 8) rfl (fun hl => ?_)
  simp only [List.length_map] at hl
  refine cV rfl (oSm uT22 rfl) <| sm 1 rfl <| nL ?_
  refine tC rfl (fun hc10 => ?_) fun hc10 => ?_
  ·have hlt : k < u.arrays.length := by simpa using hc10
   have hd := List.drop_eq_getElem_cons hlt
   have hm := List.getElem_mem hlt
   have hi := z0i (f := Ar.enc) (List.getElem?_eq_getElem hlt)
   generalize u.arrays[k] = x at hd hm hi
   refine tSk <| tQ <| tBk <| tQ <| tG <| sm 3 rfl <| cV rfl (iSq rfl rfl rfl uT22 (by assumption) tS49 rfl (by rfl)) <| sm 3 rfl <| cV rfl (bSt rfl rfl rfl rfl) <| nL ?_
   refine tC rfl (fun hc20 => ?_) fun hc20 => ?_
   ·refine tQ <| tG <| sm 2 rfl <| nL <| tRt <| rOk rfl ?_ nPo
    rw [hI1, hd]
    have h20 : eqS x.name name = true := by simpa [eqS] using hc20
    simp [z1j, h20]
   refine tSk <| tG <| sm 1 rfl <| cV rfl (oB rfl rfl (z0b rfl oM0)) <| sm 1 rfl <| nL ?_
   refine ⟨_, _, ?_, Sub.of (fr' := [(5, iInt (k + 1)), (2, .pv (.ept [arrs u.arrays, flws u.flows] 0)), (1, iStr name)]) ⟨rfl, rfl, rfl, trivial⟩, (k + 1), ?_, ?_, rfl, rfl, rfl⟩
   ·omega
   ·omega
   rw [hI1, hd]
   have h20 : eqS x.name name = false := by simpa [eqS] using hc20
   simp [z1j, h20]
  refine tEx <| tQ <| tG <| sm 1 rfl <| nL <| tRt <| rOk rfl ?_ nPo
  have hge : u.arrays.length <= k := by simpa using hc10
  rw [hI1, List.drop_eq_nil_of_le hge]
  rfl
theorem z1i (u : Un) (f : Fl) (set : List Bool) (l seen want : List Int) : SC Tryz.prog 96 [.ptr 3 0, .pv (ints l), .pv (ints seen), .pv (ints want)] (ckHp u f 4 set) (fun _ => True) (iBool (z07 f.types seen l want)) (ckHp u f 4 set) := by
  refine SC.of Tryz.func96 rfl (lb rfl) fun F ρ w => ?_
  refine Tr.lenOf (t := 1) rfl (fun hl => ?_)
  simp only [List.length_map] at hl
  refine Tr.lenOf (t := 3) rfl (fun hl3 => ?_)
  simp only [List.length_map] at hl3
  refine tQ <| tG <| sm 1 rfl <| nL <| tQ <| tQ <| tG <| sm 1 rfl <| cV rfl (oSm uT35 rfl) <| sm 1 rfl <| cV rfl (oSm uT35 rfl) <| sm 1 rfl ?_
  refine nL ?_
  refine tC rfl (fun hc14 => ?_) fun hc14 => ?_
  ·refine tQ <| tG <| sm 1 rfl <| nL <| tRt <| rOk rfl ?_ (fun _ _ h => h)
   have : ((l.length : Int) == want.length) = false := by simpa using hc14
   simp [z07, this]
  have hlen : l.length = want.length := by simp at hc14; omega
  refine tSk <| tQ <| tQ <| tG <| sm 1 rfl <| nL <| tBk <| Tr.sub (Sub.of (fr' := [(9, iInt 0), (0, .ptr 3 0), (1, .pv (ints l)), (2, .pv (ints seen)), (3, .pv (ints want))]) ⟨rfl, rfl, rfl, rfl, rfl, trivial⟩) ?_
  refine Tr.loop (fun fr σ m => ∃ (k : Nat), (k <= l.length) /\ (z17 f.types seen l want = z17 f.types seen (l.drop k) (want.drop k)) /\ fr = [(9, iInt k), (0, .ptr 3 0), (1, .pv (ints l)), (2, .pv (ints seen)), (3, .pv (ints want))] /\ σ = look (up (ckHp u f 4 set)) /\ m = l.length - k) (n := l.length - 0) ?_ ?_
  ·exact ⟨0, Nat.zero_le _, rfl, rfl, rfl, rfl⟩
  rintro fr σ m ⟨k, hI0, hI1, rfl, rfl, rfl⟩
  refine tQ <| tQ <| tG <| sm 2 rfl <| cV rfl (oSm uT35 rfl) <| sm 1 rfl <| nL ?_
  refine tC rfl (fun hc18 => ?_) fun hc18 => ?_
  ·have hlt : k < l.length := by simpa using hc18
   have hd := List.drop_eq_getElem_cons hlt
   have hm := List.getElem_mem hlt
   have hi := z0i (f := eInt) (List.getElem?_eq_getElem hlt)
   generalize l[k] = x at hd hm hi
   have hltw : k < want.length := by omega
   have hdw := List.drop_eq_getElem_cons hltw
   have hw := z0i (f := eInt) (List.getElem?_eq_getElem hltw)
   generalize want[k] = y at hdw hw
   refine tSk <| tQ <| tBk <| tQ <| tDr z1a (fun _ => True) <| wR 28 [0, 1, 2, 3, 4, 5, 6, 7, 8, 9, 10, 11, 12, 13, 14, 15, 16, 17, 18, 19, 20, 21, 22, 23] kR0 h30 <| smR 2 rfl <| rV rfl rfl (iSq rfl rfl rfl uT35 hi tS3 rfl (by rfl)) <| smR 3 rfl ?_
   refine WR.split (t := 26) rfl (fun hb26 => ?_) (fun hb26 => ?_)
   ·refine smR 18 rfl <| nR <| wN 24 kR0 h30 rfl rfl rfl <| wR 0 [25, 26, 27, 28, 29, 30, 31, 32, 33, 34, 35, 36, 37, 38, 39, 40, 41, 42, 43, 44, 45, 46, 47, 48, 49, 50, 51] kR0 h30 <| smR 9 rfl <| nUr rfl rfl rfl rfl rfl rfl rfl <| nUr rfl rfl rfl rfl rfl rfl rfl <| nUr rfl rfl rfl rfl rfl rfl rfl <| nUr rfl rfl rfl rfl rfl rfl rfl <| nUr rfl rfl rfl rfl rfl rfl rfl <| nUr rfl rfl rfl rfl rfl rfl rfl <| nUr rfl rfl rfl rfl rfl rfl rfl ?_
    refine nUr rfl rfl rfl rfl rfl rfl rfl <| nUr rfl rfl rfl rfl rfl rfl rfl <| nUr rfl rfl rfl rfl rfl rfl rfl <| nUr rfl rfl rfl rfl rfl rfl rfl <| nUr rfl rfl rfl rfl rfl rfl rfl <| nUr rfl rfl rfl rfl rfl rfl rfl <| nUr rfl rfl rfl rfl rfl rfl rfl <| nUr rfl rfl rfl rfl rfl rfl rfl <| nUr rfl rfl rfl rfl rfl rfl rfl <| smR 2 rfl <| nR <| wDn kR0 ?_
    refine Tr.condT rfl <| tQ <| tG <| sm 1 rfl <| nL <| tRt <| rOk rfl ?_ (fun _ _ h => h)
    have hu : z54 f.types seen x y = false := by (try clear hvx); simp_all [z54]
    simp [z07, hI1, hd, hdw, z17, hu]
   refine smR 2 rfl <| ryV rfl rfl rfl (iSq rfl rfl rfl uT35 hi tS3 rfl (by rfl)) <| smR 2 rfl <| ryV rfl rfl rfl (nCk rfl rfl rfl) <| smR 2 rfl <| ryV rfl rfl rfl (oLb uT35 rfl rfl rfl trivial) <| ryV rfl rfl rfl (oSm uT35 rfl) <| smR 3 rfl ?_
   refine WR.split (t := 39) rfl (fun hb39 => ?_) (fun hb39 => ?_)
   ·refine smR 5 rfl <| nR <| wN 24 kR0 h30 rfl rfl rfl <| wR 0 [25, 26, 27, 28, 29, 30, 31, 32, 33, 34, 35, 36, 37, 38, 39, 40, 41, 42, 43, 44, 45, 46, 47, 48, 49, 50, 51] kR0 h30 <| smR 9 rfl <| nUr rfl rfl rfl rfl rfl rfl rfl <| nUr rfl rfl rfl rfl rfl rfl rfl <| nUr rfl rfl rfl rfl rfl rfl rfl <| nUr rfl rfl rfl rfl rfl rfl rfl <| nUr rfl rfl rfl rfl rfl rfl rfl <| nUr rfl rfl rfl rfl rfl rfl rfl <| nUr rfl rfl rfl rfl rfl rfl rfl ?_
    refine nUr rfl rfl rfl rfl rfl rfl rfl <| nUr rfl rfl rfl rfl rfl rfl rfl <| nUr rfl rfl rfl rfl rfl rfl rfl <| nUr rfl rfl rfl rfl rfl rfl rfl <| nUr rfl rfl rfl rfl rfl rfl rfl <| nUr rfl rfl rfl rfl rfl rfl rfl <| nUr rfl rfl rfl rfl rfl rfl rfl <| nUr rfl rfl rfl rfl rfl rfl rfl <| nUr rfl rfl rfl rfl rfl rfl rfl <| smR 2 rfl <| nR <| wDn kR0 ?_
    refine Tr.condT rfl <| tQ <| tG <| sm 1 rfl <| nL <| tRt <| rOk rfl ?_ (fun _ _ h => h)
    have hu : z54 f.types seen x y = false := by (try clear hvx); simp_all [z54]
    simp [z07, hI1, hd, hdw, z17, hu]
   have hv0 : x.toNat < f.types.length := by simp at hb26 hb39; omega
   have hvx : x = ((x.toNat : Nat) : Int) := by simp at hb26; omega
   have hty : (f.types.map eInt)[x.toNat]? = some [vInt (f.types.getD x.toNat 0)] := by rw [List.getElem?_map]; simp [eInt, List.getD, hv0]
   refine smR 3 rfl <| ryV rfl rfl rfl (iSq rfl rfl rfl uT35 hi tS3 rfl (by rfl)) <| smR 1 rfl <| nR <| wO 24 kR0 <| wY rfl rfl rfl (fun _ _ => trivial) nw (fun _ _ => ocq (sc_r8in _ _) ent109 rfl rfl) <| wR 0 [25, 26, 27, 28, 29, 30, 31, 32, 33, 34, 35, 36, 37, 38, 39, 40, 41, 42, 43, 44, 45, 46, 47, 48, 49, 50, 51] kR0 h30 <| smR 3 rfl ?_
   refine WR.split (t := 48) rfl (fun hb48 => ?_) (fun hb48 => ?_)
   ·refine smR 6 rfl <| nUr rfl rfl rfl rfl rfl rfl rfl <| nUr rfl rfl rfl rfl rfl rfl rfl <| nUr rfl rfl rfl rfl rfl rfl rfl <| nUr rfl rfl rfl rfl rfl rfl rfl <| nUr rfl rfl rfl rfl rfl rfl rfl <| nUr rfl rfl rfl rfl rfl rfl rfl <| nUr rfl rfl rfl rfl rfl rfl rfl <| nUr rfl rfl rfl rfl rfl rfl rfl <| nUr rfl rfl rfl rfl rfl rfl rfl <| nUr rfl rfl rfl rfl rfl rfl rfl <| nUr rfl rfl rfl rfl rfl rfl rfl ?_
    refine nUr rfl rfl rfl rfl rfl rfl rfl <| nUr rfl rfl rfl rfl rfl rfl rfl <| nUr rfl rfl rfl rfl rfl rfl rfl <| nUr rfl rfl rfl rfl rfl rfl rfl <| nUr rfl rfl rfl rfl rfl rfl rfl <| smR 2 rfl <| nR <| wDn kR0 <| Tr.condT rfl <| tQ <| tG <| sm 1 rfl ?_
    refine nL <| tRt <| rOk rfl ?_ (fun _ _ h => h)
    have hu : z54 f.types seen x y = false := by (try clear hvx); simp_all [z54]
    simp [z07, hI1, hd, hdw, z17, hu]
   refine smR 2 rfl <| ryV rfl rfl rfl (iSq rfl rfl rfl uT35 hw tS3 rfl (by rfl)) <| smR 3 rfl ?_
   refine WR.split (t := 54) rfl (fun hb54 => ?_) (fun hb54 => ?_)
   ·refine smR 1 rfl <| ryV rfl rfl rfl (nCk rfl rfl rfl) <| smR 2 rfl <| ryV rfl rfl rfl (oLb uT35 rfl rfl rfl trivial) <| smR 2 rfl <| ryV rfl rfl rfl (iSq rfl rfl rfl uT35 hi tS3 rfl (by rfl)) <| smR 1 rfl <| ryV rfl rfl rfl (iSq rfl rfl rfl uT35 hty tS3 rfl oM0) <| smR 3 rfl <| ryV rfl rfl rfl (iSq rfl rfl rfl uT35 hw tS3 rfl (by rfl)) <| smR 4 rfl <| nR ?_
    refine wDn kR0 ?_
    refine tC rfl (fun hc72 => ?_) fun hc72 => ?_
    ·refine tQ <| tG <| sm 1 rfl <| nL <| tRt <| rOk rfl ?_ (fun _ _ h => h)
     have hu : z54 f.types seen x y = false := by (try clear hvx); simp_all [z54]
     simp [z07, hI1, hd, hdw, z17, hu]
    refine tSk <| tG <| sm 1 rfl <| cV rfl (oB rfl rfl (z0b rfl oM0)) <| sm 1 rfl <| nL ?_
    refine ⟨_, _, ?_, Sub.of (fr' := [(9, iInt (k + 1)), (0, .ptr 3 0), (1, .pv (ints l)), (2, .pv (ints seen)), (3, .pv (ints want))]) ⟨rfl, rfl, rfl, rfl, rfl, trivial⟩, (k + 1), ?_, ?_, rfl, rfl, rfl⟩
    ·omega
    ·omega
    rw [hI1, hd, hdw]
    have hu : z54 f.types seen x y = true := by (try clear hvx); simp_all [z54]
    simp [z17, hu]
   refine smR 18 rfl <| nR <| wDn kR0 <| Tr.condF rfl <| tSk <| tG <| sm 1 rfl <| cV rfl (oB rfl rfl (z0b rfl oM0)) <| sm 1 rfl <| nL ?_
   refine ⟨_, _, ?_, Sub.of (fr' := [(9, iInt (k + 1)), (0, .ptr 3 0), (1, .pv (ints l)), (2, .pv (ints seen)), (3, .pv (ints want))]) ⟨rfl, rfl, rfl, rfl, rfl, trivial⟩, (k + 1), ?_, ?_, rfl, rfl, rfl⟩
   ·omega
   ·omega
   rw [hI1, hd, hdw]
   have hu : z54 f.types seen x y = true := by (try clear hvx); simp_all [z54]
   simp [z17, hu]
  refine tEx <| tQ <| tG <| sm 1 rfl <| nL <| tRt <| rOk rfl ?_ (fun _ _ h => h)
  have hge : l.length <= k := by simpa using hc18
  have : ((l.length : Int) == want.length) = true := by simpa using congrArg Nat.cast hlen
  simp [z07, hI1, List.drop_eq_nil_of_le hge, z17, this]
theorem z2q (l : List UInt8) (n : Nat) (g : Gn) (hn : 0 < n) (hb : g.pos <= 1000000) : SC Tryz.prog 50 [.ptr 2001 0, iInt (n : Int)] (gH l g) (fun _ => False) (iInt ((z01 l n g).1 : Int)) (gH l (z01 l n g).2) := by
  refine SC.of Tryz.func50 rfl (lb rfl) fun F ρ w => ?_
  refine tQ <| tG <| sm 1 rfl <| nL <| tQ <| tG <| sm 1 rfl <| cV rfl (nCk rfl rfl rfl) <| sm 2 rfl <| cV rfl (oB rfl rfl (z0b rfl oM0)) <| cV rfl (nCk rfl rfl rfl) <| sm 1 rfl ?_
  refine c0 (sBx rfl rfl rfl rfl ((fun h => h)) tS3 (rfl) (lb rfl)) <| nL <| tQ <| tQ <| Tr.still z1a kR0 rfl <| smS 1 rfl <| sV rfl (nCk rfl rfl rfl) <| smS 3 rfl <| sV rfl (nCk rfl rfl rfl) <| smS 2 rfl <| sV rfl (oSm Tryz.underlying29 rfl) <| smS 2 rfl ?_
  refine WS.split (t := 22) rfl (fun hb22 => ?_) (fun hb22 => ?_)
  ·refine smS 6 rfl <| WS.nil <| Tr.condT rfl ?_
   have hc : g.pos + 1 > l.length ∨ g.pos + 1 > 150 := by
     (have := hb22; simp at this; omega)
   refine tQ <| tG <| sm 1 rfl <| nL <| tRt <| rOk rfl ?_ (po2 rfl rfl)
   simp only [z01, if_pos hc]
   rfl
  refine smS 1 rfl <| syV rfl rfl (nCk rfl rfl rfl) <| smS 4 rfl <| WS.nil ?_
  refine tC rfl (fun hc28 => ?_) fun hc28 => ?_
  ·have hc : g.pos + 1 > l.length ∨ g.pos + 1 > 150 := by
     (have := hc28; simp at this; omega)
   refine tQ <| tG <| sm 1 rfl <| nL <| tRt <| rOk rfl ?_ (po2 rfl rfl)
   simp only [z01, if_pos hc]
   rfl
  have hc : ¬ (g.pos + 1 > l.length ∨ g.pos + 1 > 150) := by
    simp at hb22 hc28
    omega
  have hlt : g.pos < l.length := by omega
  have hi := z0i (f := eB) (List.getElem?_eq_getElem hlt)
  have hgd : l.getD g.pos 0 = l[g.pos] := by rw [List.getD, List.getElem?_eq_getElem hlt]; rfl
  generalize l[g.pos] = x at hi hgd
  have hrem : z3p .rem .i64 (IntKind.i64.wrap (x.toNat : Int)) (n : Int) = some (.int .i64 ((x.toNat % n : Nat) : Int)) := by rw [u8_i64]; exact y45 hn
  refine tSk <| tQ <| Tr.still z1a kR0 rfl <| smS 1 rfl <| sV rfl (nCk rfl rfl rfl) <| smS 3 rfl <| sV rfl (nCk rfl rfl rfl) <| smS 2 rfl <| sV rfl (oB rfl rfl (z3l rfl oM0)) <| sV rfl (iSq rfl rfl rfl Tryz.underlying29 hi tS5 rfl oM0) <| smS 1 rfl <| sV rfl (z4k rfl rfl ⟨_, Tryz.underlying5⟩ uT3) ?_
  refine smS 1 rfl <| sV rfl (oB rfl rfl hrem) <| smS 1 rfl <| WS.nil <| tRt <| rOk rfl ?_ (po2 rfl rfl)
  simp only [z01, if_neg hc, hgd]
theorem z9d (l : List UInt8) (t : Int) (g : Gn) (hb : g.types.length <= 1000000) : SC Tryz.prog 35 [.ptr 2001 0, iInt t] (gH l g) (fun _ => False) (iInt (z0c t g).1) (gH l (z0c t g).2) := by
  refine SC.of Tryz.func35 rfl (lb rfl) fun F ρ w => ?_
  have hbl : (g.types.map eInt).length = g.types.length := by simp
  have hbl2 : ((z0c t g).2.types.map eInt).length = g.types.length + 1 := by simp [z0c]
  refine tQ <| tG <| sm 1 rfl <| nL <| tQ <| tG <| sm 2 rfl <| cV rfl (nCk rfl rfl rfl) <| sm 3 rfl <| cE rfl (bSl rfl rfl uT35 tZ3 tS3 rfl rfl rfl rfl (fbk rfl) rfl) ?_
  refine cE rfl (aPp rfl rfl rfl rfl (by rfl) ((fun h => h)) uT35 tB3 dC0 (by (simp [z03]; done)) (by (simp [z03, PV.one]; rfl)) (by simp [maxLen, z03]; omega) (by simp [z03]; omega)) ?_
  refine cV rfl (nCk rfl rfl rfl) <| sm 1 rfl <| c0 (sBx rfl rfl rfl rfl ((fun h => h)) tS35 (⟨_, _, rfl, by simp⟩) (lb rfl)) <| nL <| tQ ?_
  refine Tr.heap (σ' := look [(2001, some (z3b l (z0c t g).2)), (2002, some (rowI (z0c t g).2.types))]) (lkq [2001, 2002] rfl rfl ⟨(by first | exact congrArg (fun z => some (HO.row _ z)) (by simp [z0c, z03, eInt]) | exact congrArg (fun z => some (HO.box z)) (by simp [z0c, z03, eInt])), (by first | exact congrArg (fun z => some (HO.row _ z)) (by simp [z0c, z03, eInt]) | exact congrArg (fun z => some (HO.box z)) (by simp [z0c, z03, eInt])), trivial⟩) ?_
  refine tG <| sm 1 rfl <| cV rfl (nCk rfl rfl rfl) <| sm 2 rfl <| cV rfl (z9w rfl rfl rfl rfl uT35) <| cV rfl (oB rfl rfl (z3l rfl oM0)) <| sm 1 rfl <| nL <| tRt <| rOk rfl ?_ (po2 rfl rfl)
  refine congrArg (fun z => IV.pv (.val (.int .i64 z))) ?_
  rw [hbl2]
  simp only [z0c]
  omega
theorem sc_gSome (l : List UInt8) (g : Gn) (seen : List Int) (t : Int) (hs : InR g.types seen) (hb : g.pos <= 999999) (hsl : seen.length <= 1000000) : SC Tryz.prog 75 [.ptr 2001 0, .sl 2003 (seen.map eInt).length, iInt t] (gHs l g seen) (fun _ => False) (iInt (z8y l seen t g).1) (gHs l (z8y l seen t g).2 seen) := by
  refine SC.of Tryz.func75 rfl (lb rfl) fun F ρ w => ?_
  have hp8 : (z01 l 8 g).1 < 8 := z26 oM0
  refine tQ <| tG <| sm 1 rfl <| nL <| tQ <| tG <| sm 1 rfl <| cE rfl (ocr (z2q l 8 g oM0 oM0) z39 rfl (po2 rfl rfl) rfl (fun k (h : _) => .inr h) rfl rfl) <| sm 1 rfl <| nL <| tQ <| tG ?_
  refine sm 1 rfl <| nL <| tQ <| tQ <| tG <| sm 1 rfl <| nL <| tBk <| Tr.sub (Sub.of (fr' := [(9, iInt 0), (8, iInt 0), (7, iInt ((z01 l 8 g).1 : Int)), (0, .ptr 2001 0), (1, .sl 2003 (seen.map eInt).length), (2, iInt t)]) ⟨rfl, rfl, rfl, rfl, rfl, rfl, trivial⟩) <| Tr.heap (σ' := look [(2001, some (z3b l (z01 l 8 g).2)), (2002, some (rowI (z01 l 8 g).2.types)), (2003, some (rowI seen))]) (lkq [2001, 2002, 2003] rfl rfl ⟨rfl, rfl, rfl, trivial⟩) ?_
  refine Tr.loop (fun fr σ m => ∃ (i : Nat) (k : Int) (v : Int), (i <= seen.length) /\ (k <= 8 /\ -(i : Int) <= k) /\ (gS1 g.types t (i == 0) k v (seen.drop i) = gS1 g.types t true (z01 l 8 g).1 0 seen) /\ fr = [(9, iInt i), (8, iInt v), (7, iInt k), (0, .ptr 2001 0), (1, .sl 2003 (seen.map eInt).length), (2, iInt t)] /\ σ = look [(2001, some (z3b l (z01 l 8 g).2)), (2002, some (rowI (z01 l 8 g).2.types)), (2003, some (rowI seen))] /\ m = seen.length - i) (n := seen.length - 0) ?_ ?_
  ·exact ⟨0, ((z01 l 8 g).1 : Int), 0, Nat.zero_le _, ⟨by omega, by omega⟩, rfl, rfl, rfl, rfl⟩
  rintro fr σ m ⟨i, k, v, hI0, hI1, hI2, rfl, rfl, rfl⟩
  refine tQ <| tQ <| tG <| sm 2 rfl <| cV rfl (z9w rfl rfl rfl rfl uT35) <| sm 1 rfl <| nL ?_
  refine tC rfl (fun hc16 => ?_) fun hc16 => ?_
  ·have hlt : i < seen.length := by simpa using hc16
   have hd := List.drop_eq_getElem_cons hlt
   have hm := List.getElem_mem hlt
   have hi := z0i (f := eInt) (List.getElem?_eq_getElem hlt)
   generalize seen[i] = s at hd hm hi
   have hil : i < (seen.map eInt).length := by rw [List.length_map]; exact hlt
   obtain ⟨hs1, hs2, hs3⟩ := hs.at hm
   refine tSk <| tQ <| tBk <| tQ <| Tr.still z1a kR0 rfl <| smS 1 rfl <| sV rfl (nCk rfl rfl rfl) <| smS 4 rfl <| sV rfl (iRw rfl rfl rfl rfl rfl uT35 tS3 hil (by rfl)) <| sV rfl (lRw rfl rfl rfl rfl (Nat.add_zero _).symm hi rfl uT3 rfl trivial) <| sV rfl (iRw rfl rfl rfl rfl rfl uT35 tS3 hs1 (by assumption)) <| sV rfl (lRw rfl rfl rfl rfl (Nat.add_zero _).symm hs2 rfl uT3 rfl trivial) ?_
   refine smS 3 rfl ?_
   refine WS.split (t := 31) rfl (fun hb31 => ?_) (fun hb31 => ?_)
   ·refine smS 3 rfl ?_
    refine WS.split (t := 34) rfl (fun hb34 => ?_) (fun hb34 => ?_)
    ·refine smS 4 rfl <| WS.nil <| Tr.condT rfl <| tQ <| tG <| sm 2 rfl <| cV rfl (iRw rfl rfl rfl rfl rfl uT35 tS3 hil (by rfl)) <| cV rfl (lRw rfl rfl rfl rfl (Nat.add_zero _).symm hi rfl uT3 rfl trivial) <| sm 1 rfl <| nL <| tG <| sm 1 rfl ?_
     refine cV rfl (oB rfl rfl (z3l rfl oM0)) <| sm 1 rfl <| nL <| tG <| sm 1 rfl <| cV rfl (oB rfl rfl (z0b rfl oM0)) <| sm 1 rfl <| nL ?_
     refine ⟨_, _, ?_, Sub.of (fr' := [(9, iInt (i + 1)), (8, iInt s), (7, iInt (k - 1)), (0, .ptr 2001 0), (1, .sl 2003 (seen.map eInt).length), (2, iInt t)]) ⟨rfl, rfl, rfl, rfl, rfl, rfl, trivial⟩, (i + 1), (k - 1), s, ?_, ?_, ?_, rfl, rfl, rfl⟩
     ·omega
     ·omega
     ·omega
     rw [<- hI2, hd]
     have hi0 : (i + 1 == 0) = false := rfl
     rw [hi0]
     simp only [gS1]
     (rw [if_pos (by clear hs3 hi hs hd hm hs1 hs2 hI2; simp_all)]; done)
    refine smS 4 rfl <| WS.nil ?_
    refine tC rfl (fun hc38 => ?_) fun hc38 => ?_
    ·refine tQ <| tG <| sm 2 rfl <| cV rfl (iRw rfl rfl rfl rfl rfl uT35 tS3 hil (by rfl)) <| cV rfl (lRw rfl rfl rfl rfl (Nat.add_zero _).symm hi rfl uT3 rfl trivial) <| sm 1 rfl <| nL <| tG <| sm 1 rfl <| cV rfl (oB rfl rfl (z3l rfl oM0)) <| sm 1 rfl <| nL ?_
     refine tG <| sm 1 rfl <| cV rfl (oB rfl rfl (z0b rfl oM0)) <| sm 1 rfl <| nL ?_
     refine ⟨_, _, ?_, Sub.of (fr' := [(9, iInt (i + 1)), (8, iInt s), (7, iInt (k - 1)), (0, .ptr 2001 0), (1, .sl 2003 (seen.map eInt).length), (2, iInt t)]) ⟨rfl, rfl, rfl, rfl, rfl, rfl, trivial⟩, (i + 1), (k - 1), s, ?_, ?_, ?_, rfl, rfl, rfl⟩
     ·omega
     ·omega
     ·omega
     rw [<- hI2, hd]
     have hi0 : (i + 1 == 0) = false := rfl
     rw [hi0]
     simp only [gS1]
     (rw [if_pos (by clear hs3 hi hs hd hm hs1 hs2 hI2; simp_all)]; done)
    refine tSk <| tG <| sm 1 rfl <| cV rfl (oB rfl rfl (z0b rfl oM0)) <| sm 1 rfl <| nL ?_
    refine ⟨_, _, ?_, Sub.of (fr' := [(9, iInt (i + 1)), (8, iInt v), (7, iInt k), (0, .ptr 2001 0), (1, .sl 2003 (seen.map eInt).length), (2, iInt t)]) ⟨rfl, rfl, rfl, rfl, rfl, rfl, trivial⟩, (i + 1), k, v, ?_, ?_, ?_, rfl, rfl, rfl⟩
    ·omega
    ·omega
    ·omega
    rw [<- hI2, hd]
    have hi0 : (i + 1 == 0) = false := rfl
    rw [hi0]
    simp only [gS1]
    (rw [if_neg (by clear hs3 hi hs hd hm hs1 hs2 hI2; simp_all)]; done)
   refine smS 3 rfl <| WS.noU rfl rfl rfl rfl rfl rfl <| WS.noU rfl rfl rfl rfl rfl rfl <| smS 2 rfl <| WS.nil <| Tr.condF rfl <| tSk <| tG <| sm 1 rfl <| cV rfl (oB rfl rfl (z0b rfl oM0)) <| sm 1 rfl <| nL ?_
   refine ⟨_, _, ?_, Sub.of (fr' := [(9, iInt (i + 1)), (8, iInt v), (7, iInt k), (0, .ptr 2001 0), (1, .sl 2003 (seen.map eInt).length), (2, iInt t)]) ⟨rfl, rfl, rfl, rfl, rfl, rfl, trivial⟩, (i + 1), k, v, ?_, ?_, ?_, rfl, rfl, rfl⟩
   ·omega
   ·omega
   ·omega
   rw [<- hI2, hd]
   have hi0 : (i + 1 == 0) = false := rfl
   rw [hi0]
   simp only [gS1]
   (rw [if_neg (by clear hs3 hi hs hd hm hs1 hs2 hI2; simp_all)]; done)
  refine tEx <| tQ <| tQ ?_
  have hge : seen.length <= i := by simpa using hc16
  rw [List.drop_eq_nil_of_le hge] at hI2
  simp only [gS1] at hI2
  obtain ⟨v0, hv0e⟩ : ∃ v0, gS1 g.types t true (z01 l 8 g).1 0 seen = v0 := ⟨_, rfl⟩
  have hv0 := y3y (t := t) seen true (z01 l 8 g).1 0 hs ⟨by omega, .inr rfl⟩
  rw [hv0e] at hI2 hv0
  subst hI2
  refine tG <| sm 1 rfl <| nL <| tBk <| Tr.sub (Sub.of (fr' := [(10, iInt 0), (8, iInt v), (0, .ptr 2001 0), (1, .sl 2003 (seen.map eInt).length), (2, iInt t)]) ⟨rfl, rfl, rfl, rfl, rfl, trivial⟩) ?_
  refine Tr.loop (fun fr σ m => ∃ (i : Nat) (v1 : Int), (i <= seen.length) /\ (gS2 g.types t v1 (seen.drop i) = gS2 g.types t v seen) /\ (0 <= v1 /\ (v1.toNat < g.types.length ∨ v1 = 0)) /\ fr = [(10, iInt i), (8, iInt v1), (0, .ptr 2001 0), (1, .sl 2003 (seen.map eInt).length), (2, iInt t)] /\ σ = look [(2001, some (z3b l (z01 l 8 g).2)), (2002, some (rowI (z01 l 8 g).2.types)), (2003, some (rowI seen))] /\ m = seen.length - i) (n := seen.length - 0) ?_ ?_
  ·exact ⟨0, v, Nat.zero_le _, rfl, hv0, rfl, rfl, rfl⟩
  rintro fr σ m ⟨i, v1, hI0, hI1, hI2, rfl, rfl, rfl⟩
  refine tQ <| tQ <| tG <| sm 2 rfl <| cV rfl (z9w rfl rfl rfl rfl uT35) <| sm 2 rfl ?_
  refine wS 49 rfl (fun hb49 => ?_) fun hb49 => ?_
  ·have hlt : i < seen.length := by simpa using hb49
   have hd := List.drop_eq_getElem_cons hlt
   have hm := List.getElem_mem hlt
   have hi := z0i (f := eInt) (List.getElem?_eq_getElem hlt)
   generalize seen[i] = s at hd hm hi
   have hil : i < (seen.map eInt).length := by rw [List.length_map]; exact hlt
   obtain ⟨hs1, hs2, hs3⟩ := hs.at hm
   have hvr : v1.toNat < g.types.length := by
     rcases hI2.2 with h1 | h1
     ·exact h1
     subst h1
     have : s.toNat < g.types.length := by simpa using hs1
     simp; omega
   have hvm : InR g.types [v1] := fun x hx => by rw [List.mem_singleton.1 hx]; exact ⟨hI2.1, hvr⟩
   obtain ⟨hv1, hv2, hv3⟩ := hvm.at (.head _)
   refine sm 1 rfl <| yV rfl rfl (nCk rfl rfl rfl) <| sm 3 rfl <| yV rfl rfl (iRw rfl rfl rfl rfl rfl uT35 tS3 hv1 (by assumption)) <| yV rfl rfl (lRw rfl rfl rfl rfl (Nat.add_zero _).symm hv2 rfl uT3 rfl trivial) <| sm 3 rfl <| nL ?_
   refine tC rfl (fun hc59 => ?_) fun hc59 => ?_
   ·have hcont : (g.types.getD v1.toNat 0 != t) = true := hc59
    refine tSk <| tQ <| tBk <| tQ <| Tr.still z1a kR0 rfl <| smS 1 rfl <| sV rfl (nCk rfl rfl rfl) <| smS 4 rfl <| sV rfl (iRw rfl rfl rfl rfl rfl uT35 tS3 hil (by rfl)) <| sV rfl (lRw rfl rfl rfl rfl (Nat.add_zero _).symm hi rfl uT3 rfl trivial) <| sV rfl (iRw rfl rfl rfl rfl rfl uT35 tS3 hs1 (by assumption)) <| sV rfl (lRw rfl rfl rfl rfl (Nat.add_zero _).symm hs2 rfl uT3 rfl trivial) ?_
    refine smS 2 rfl <| WS.nil ?_
    refine tC rfl (fun hc73 => ?_) fun hc73 => ?_
    ·refine tG <| sm 2 rfl <| cV rfl (iRw rfl rfl rfl rfl rfl uT35 tS3 hil (by rfl)) <| cV rfl (lRw rfl rfl rfl rfl (Nat.add_zero _).symm hi rfl uT3 rfl trivial) <| sm 1 rfl <| nL <| tG <| sm 1 rfl <| cV rfl (oB rfl rfl (z0b rfl oM0)) <| sm 1 rfl <| nL ?_
     refine ⟨_, _, ?_, Sub.of (fr' := [(10, iInt (i + 1)), (8, iInt s), (0, .ptr 2001 0), (1, .sl 2003 (seen.map eInt).length), (2, iInt t)]) ⟨rfl, rfl, rfl, rfl, rfl, trivial⟩, (i + 1), s, ?_, ?_, ?_, rfl, rfl, rfl⟩
     ·omega
     ·omega
     ·rw [<- hI1, hd]
      simp only [gS2]
      rw [if_pos hcont]
      (rw [if_pos hc73]; done)
     first
     | exact hI2
     | exact ⟨by omega, .inl (by simpa using hs1)⟩
    refine tSk <| tG <| sm 1 rfl <| cV rfl (oB rfl rfl (z0b rfl oM0)) <| sm 1 rfl <| nL ?_
    refine ⟨_, _, ?_, Sub.of (fr' := [(10, iInt (i + 1)), (8, iInt v1), (0, .ptr 2001 0), (1, .sl 2003 (seen.map eInt).length), (2, iInt t)]) ⟨rfl, rfl, rfl, rfl, rfl, trivial⟩, (i + 1), v1, ?_, ?_, ?_, rfl, rfl, rfl⟩
    ·omega
    ·omega
    ·rw [<- hI1, hd]
     simp only [gS2]
     rw [if_pos hcont]
     (rw [if_neg (by rw [hc73]; decide)]; done)
    first
    | exact hI2
    | exact ⟨by omega, .inl (by simpa using hs1)⟩
   refine tEx <| tQ <| tG <| sm 2 rfl <| nL <| tRt <| rOk rfl ?_ (po3 rfl rfl rfl)
   refine congrArg iInt ?_
   show _ = gS2 g.types t (gS1 g.types t true (z01 l 8 g).1 0 seen) seen
   rw [hv0e, <- hI1]
   (rw [hd]
    simp only [gS2]
    rw [if_neg (by rw [show (g.types.getD v1.toNat 0 != t) = false from hc59]; decide)]
    done)
  refine sm 10 rfl <| nL <| Tr.condF rfl <| tEx <| tQ <| tG <| sm 2 rfl <| nL <| tRt <| rOk rfl ?_ (po3 rfl rfl rfl)
  refine congrArg iInt ?_
  show _ = gS2 g.types t (gS1 g.types t true (z01 l 8 g).1 0 seen) seen
  rw [hv0e, <- hI1]
  (rw [List.drop_eq_nil_of_le (by simpa using hb49)]
   rfl)
theorem z1r (l : List UInt8) (seen ts : List Int) (g : Gn) (hs : InR g.types seen) (hb : g.pos + ts.length <= 1000000) (hsl : seen.length <= 1000000) : SC Tryz.prog 53 [.ptr 2001 0, .sl 2003 (seen.map eInt).length, .pv (ints ts)] (gHs l g seen) (fun _ => False) (.pv (ints (z1p l seen ts g).1)) (gHs l (z1p l seen ts g).2 seen) := by
  refine SC.of Tryz.func53 rfl (lb rfl) fun F ρ w => ?_
  refine Tr.lenOf (t := 2) rfl (fun hl => ?_)
  simp only [List.length_map] at hl
  refine tQ <| tG <| sm 1 rfl <| nL <| tQ <| tG <| sm 1 rfl <| nL <| tQ <| tQ <| Tr.grow (t := 7) (k := 107) ⟨3, 1⟩ rfl rfl rfl rfl rfl <| tG ?_
  refine sm 1 rfl <| nL <| tBk <| Tr.sub (Sub.of (fr' := [(8, iInt 0), (7, .sl 107 (([] : List Int).map eInt).length), (0, .ptr 2001 0), (1, .sl 2003 (seen.map eInt).length), (2, .pv (ints ts))]) ⟨rfl, rfl, rfl, rfl, rfl, trivial⟩) <| Tr.heap (σ' := look [(107, some (rowI ([] : List Int))), (2001, some (z3b l g)), (2002, some (rowI g.types)), (2003, some (rowI seen))]) (lkq [107, 2001, 2002, 2003] rfl rfl ⟨rfl, rfl, rfl, rfl, trivial⟩) ?_
  refine Tr.loop (fun fr σ m => ∃ (i : Nat) (acc : List Int) (g1 : Gn), (i <= ts.length) /\ (acc ++ (z1p l seen (ts.drop i) g1).1 = (z1p l seen ts g).1) /\ ((z1p l seen (ts.drop i) g1).2 = (z1p l seen ts g).2) /\ (g1.types = g.types) /\ (g1.pos + (ts.length - i) <= 1000000) /\ (acc.length = i) /\ fr = [(8, iInt i), (7, .sl 107 (acc.map eInt).length), (0, .ptr 2001 0), (1, .sl 2003 (seen.map eInt).length), (2, .pv (ints ts))] /\ σ = look [(107, some (rowI acc)), (2001, some (z3b l g1)), (2002, some (rowI g1.types)), (2003, some (rowI seen))] /\ m = ts.length - i) (n := ts.length - 0) ?_ ?_
  ·exact ⟨0, ([] : List Int), g, Nat.zero_le _, sI0, rfl, rfl, hb, rfl, rfl, rfl, rfl⟩
  rintro fr σ m ⟨i, acc, g1, hI0, hI1, hI2, hIt, hIb, hIa, rfl, rfl, rfl⟩
  refine tQ <| tQ <| tG <| sm 2 rfl <| cV rfl (oSm uT35 rfl) <| sm 1 rfl <| nL ?_
  refine tC rfl (fun hc12 => ?_) fun hc12 => ?_
  ·have hlt : i < ts.length := by simpa using hc12
   have hd := List.drop_eq_getElem_cons hlt
   have hm := List.getElem_mem hlt
   have hi := z0i (f := eInt) (List.getElem?_eq_getElem hlt)
   generalize ts[i] = x at hd hm hi
   have hal : (acc.map eInt).length = acc.length := by simp
   refine tSk <| tQ <| tBk <| tG <| sm 5 rfl <| cV rfl (iSq rfl rfl rfl uT35 hi tS3 rfl (by rfl)) <| sm 1 rfl <| cE rfl (ocr (sc_gSome l g1 seen x (by rw [hIt]; exact hs) oM0 hsl) ent75 rfl (po3 rfl rfl rfl) rfl (fun k (h : _) => .inr h) rfl rfl) <| cE rfl (bSl rfl rfl uT35 tZ3 tS3 rfl rfl rfl rfl (fbk rfl) rfl) ?_
   refine cE rfl (aPp rfl rfl rfl rfl (by rfl) ((fun h => h)) uT35 tB3 dC0 (by (simp [z03]; done)) (by (simp [z03, PV.one]; rfl)) (by simp [maxLen, z03]; omega) (by simp [z03]; omega)) ?_
   refine sm 1 rfl <| nL <| tG <| sm 1 rfl <| cV rfl (oB rfl rfl (z0b rfl oM0)) <| sm 1 rfl <| nL ?_
   refine ⟨_, _, ?_, Sub.of (fr' := [(8, iInt (i + 1)), (7, .sl 107 ((acc ++ [(z8y l seen x g1).1]).map eInt).length), (0, .ptr 2001 0), (1, .sl 2003 (seen.map eInt).length), (2, .pv (ints ts))]) ⟨rfl, congrArg (fun z => some (IV.sl _ z)) (by simp [z03, eInt]), rfl, rfl, rfl, trivial⟩, (i + 1), (acc ++ [(z8y l seen x g1).1]), (z8y l seen x g1).2, ?_, ?_, ?_, ?_, ?_, ?_, rfl, (funext (lkq [107, 2001, 2002, 2003] rfl rfl ⟨(congrArg (fun z => some (HO.row _ z)) (by simp [z03, eInt])), rfl, rfl, rfl, trivial⟩)), rfl⟩
   ·omega
   ·omega
   ·rw [<- hI1, hd]; simp [z1p]
   ·rw [<- hI2, hd]; rfl
   ·exact hIt
   ·show g1.pos + 1 + (ts.length - (i + 1)) <= 1000000
    omega
   simp [hIa]
  refine tEx <| tQ <| Tr.freeze (t := 7) (k := 107) rfl rfl sI0 ?_
  have hge : ts.length <= i := by simpa using hc12
  rw [List.drop_eq_nil_of_le hge] at hI1 hI2
  simp only [z1p, List.append_nil] at hI1 hI2
  subst hI2
  refine tG <| sm 2 rfl <| nL <| tRt <| rOk rfl ?_ (po3 rfl rfl rfl)
  rw [<- hI1]
  rfl
theorem z7p (l : List UInt8) (g : Gn) (hb : g.pos <= 999990) : SC Tryz.prog 52 [.ptr 2001 0] (gH l g) (fun _ => False) (.pv (ints (z0x l g).1)) (gH l (z0x l g).2) := by
  refine SC.of Tryz.func52 rfl (lb rfl) fun F ρ w => ?_
  have hp3 : (z01 l 3 g).1 < 3 := z26 oM0
  refine tQ <| tG <| sm 1 rfl <| nL <| tQ <| tG <| sm 1 rfl <| nL <| tQ <| tQ <| Tr.grow (t := 3) (k := 103) ⟨3, 1⟩ rfl rfl rfl rfl rfl <| tG ?_
  refine sm 1 rfl <| cE rfl (ocr (z2q l 3 g oM0 oM0) z39 rfl (po2 rfl rfl) rfl (fun k (h : _) => .inr h) rfl rfl) <| sm 1 rfl <| nL <| tBk <| Tr.sub (Sub.of (fr' := [(4, iInt (((z01 l 3 g).1 : Nat) : Int)), (3, .sl 103 (([] : List Int).map eInt).length), (0, .ptr 2001 0)]) ⟨rfl, rfl, rfl, trivial⟩) <| Tr.heap (σ' := look [(103, some (rowI ([] : List Int))), (2001, some (z3b l (z01 l 3 g).2)), (2002, some (rowI (z01 l 3 g).2.types))]) (lkq [103, 2001, 2002] rfl rfl ⟨rfl, rfl, rfl, trivial⟩) ?_
  refine Tr.loop (fun fr σ m => ∃ (n : Nat) (acc : List Int) (g1 : Gn), (n <= 3) /\ (acc ++ (gTyN l n g1).1 = (z0x l g).1) /\ ((gTyN l n g1).2 = (z0x l g).2) /\ (g1.pos + n <= 1000000) /\ (acc.length + n <= 3) /\ fr = [(4, iInt ((n : Nat) : Int)), (3, .sl 103 (acc.map eInt).length), (0, .ptr 2001 0)] /\ σ = look [(103, some (rowI acc)), (2001, some (z3b l g1)), (2002, some (rowI g1.types))] /\ m = n + 1) (n := (z01 l 3 g).1 + 1) ?_ ?_
  ·exact ⟨(z01 l 3 g).1, ([] : List Int), (z01 l 3 g).2, oM0, (by rw [List.nil_append]; rfl), rfl, (by simp only [z01] at hp3 ⊢; omega), (by simp; omega), rfl, rfl, rfl⟩
  rintro fr σ m ⟨n, acc, g1, hI0, hI1, hI2, hIb, hIa, rfl, rfl, rfl⟩
  refine tQ <| tQ <| tG <| sm 2 rfl <| nL ?_
  refine tC rfl (fun hc8 => ?_) fun hc8 => ?_
  ·have hn0 : 0 < n := by simpa using hc8
   obtain ⟨m, rfl⟩ : ∃ m, n = m + 1 := ⟨n - 1, by omega⟩
   have hp2 : (z01 l 2 g1).1 < 2 := z26 oM0
   have hal : (acc.map eInt).length = acc.length := by simp
   refine tSk <| tQ <| tBk <| tG <| sm 2 rfl <| cE rfl (ocr (z2q l 2 g1 oM0 oM0) z39 rfl (po2 rfl rfl) rfl (fun k (h : _) => .inr h) rfl rfl) <| cV rfl (oB rfl rfl (z0b rfl oM0)) <| cE rfl (bSl rfl rfl uT35 tZ3 tS3 rfl rfl rfl rfl (fbk rfl) rfl) ?_
   refine cE rfl (aPp rfl rfl rfl rfl (by rfl) ((fun h => h)) uT35 tB3 dC0 (by (simp [z03]; done)) (by (simp [z03, PV.one]; rfl)) (by simp [maxLen, z03]; omega) (by simp [z03]; omega)) ?_
   refine sm 1 rfl <| nL <| tG <| sm 1 rfl <| cV rfl (oB rfl rfl (z3l rfl oM0)) <| sm 1 rfl <| nL ?_
   refine ⟨_, _, ?_, Sub.of (fr' := [(4, iInt ((m : Nat) : Int)), (3, .sl 103 ((acc ++ [1 + ((z01 l 2 g1).1 : Int)]).map eInt).length), (0, .ptr 2001 0)]) ⟨congrArg (fun z => some (iInt z)) oM0, congrArg (fun z => some (IV.sl _ z)) (by simp [z03, eInt]), rfl, trivial⟩, m, (acc ++ [1 + ((z01 l 2 g1).1 : Int)]), (z01 l 2 g1).2, ?_, ?_, ?_, ?_, ?_, rfl, (funext (lkq [103, 2001, 2002] rfl rfl ⟨(congrArg (fun z => some (HO.row _ z)) (by simp [z03, eInt])), rfl, rfl, trivial⟩)), rfl⟩
   ·omega
   ·omega
   ·rw [<- hI1]; simp [gTyN]
   ·rw [<- hI2]; rfl
   ·show g1.pos + 1 + m <= 1000000
    omega
   simp; omega
  refine tEx <| tQ <| Tr.freeze (t := 3) (k := 103) rfl rfl sI0 ?_
  obtain rfl : n = 0 := by simp at hc8; omega
  simp only [gTyN, List.append_nil] at hI1 hI2
  subst hI2
  refine tG <| sm 2 rfl <| nL <| tRt <| rOk rfl ?_ (po2 rfl rfl)
  rw [<- hI1]
  rfl
theorem z2k (l : List UInt8) (ts : List Int) (g : Gn) (hb : g.types.length + ts.length <= 1000000) : SC Tryz.prog 34 [.ptr 2001 0, .pv (ints ts)] (gH l g) (fun _ => False) (.pv (ints (z0q ts g).1)) (gH l (z0q ts g).2) := by
  refine SC.of Tryz.func34 rfl (lb rfl) fun F ρ w => ?_
  refine Tr.lenOf (t := 1) rfl (fun hl => ?_)
  simp only [List.length_map] at hl
  refine tQ <| tG <| sm 1 rfl <| nL <| tQ <| tG <| sm 1 rfl <| nL <| tQ <| tQ <| Tr.grow (t := 5) (k := 105) ⟨3, 1⟩ rfl rfl rfl rfl rfl <| tG ?_
  refine sm 1 rfl <| nL <| tBk <| Tr.sub (Sub.of (fr' := [(6, iInt 0), (5, .sl 105 (([] : List Int).map eInt).length), (0, .ptr 2001 0), (1, .pv (ints ts))]) ⟨rfl, rfl, rfl, rfl, trivial⟩) <| Tr.heap (σ' := look [(105, some (rowI ([] : List Int))), (2001, some (z3b l g)), (2002, some (rowI g.types))]) (lkq [105, 2001, 2002] rfl rfl ⟨rfl, rfl, rfl, trivial⟩) ?_
  refine Tr.loop (fun fr σ m => ∃ (i : Nat) (acc : List Int) (g1 : Gn), (i <= ts.length) /\ (acc ++ (z0q (ts.drop i) g1).1 = (z0q ts g).1) /\ ((z0q (ts.drop i) g1).2 = (z0q ts g).2) /\ (g1.types.length + (ts.length - i) <= 1000000) /\ (acc.length = i) /\ fr = [(6, iInt i), (5, .sl 105 (acc.map eInt).length), (0, .ptr 2001 0), (1, .pv (ints ts))] /\ σ = look [(105, some (rowI acc)), (2001, some (z3b l g1)), (2002, some (rowI g1.types))] /\ m = ts.length - i) (n := ts.length - 0) ?_ ?_
  ·exact ⟨0, ([] : List Int), g, Nat.zero_le _, sI0, rfl, hb, rfl, rfl, rfl, rfl⟩
  rintro fr σ m ⟨i, acc, g1, hI0, hI1, hI2, hIb, hIa, rfl, rfl, rfl⟩
  refine tQ <| tQ <| tG <| sm 2 rfl <| cV rfl (oSm uT35 rfl) <| sm 1 rfl <| nL ?_
  refine tC rfl (fun hc10 => ?_) fun hc10 => ?_
  ·have hlt : i < ts.length := by simpa using hc10
   have hd := List.drop_eq_getElem_cons hlt
   have hm := List.getElem_mem hlt
   have hi := z0i (f := eInt) (List.getElem?_eq_getElem hlt)
   generalize ts[i] = x at hd hm hi
   have hal : (acc.map eInt).length = acc.length := by simp
   refine tSk <| tQ <| tBk <| tG <| sm 4 rfl <| cV rfl (iSq rfl rfl rfl uT35 hi tS3 rfl (by rfl)) <| sm 1 rfl <| cE rfl (ocr (z9d l x g1 oM0) ent35 rfl (po2 rfl rfl) rfl (fun k (h : _) => .inr h) rfl rfl) <| cE rfl (bSl rfl rfl uT35 tZ3 tS3 rfl rfl rfl rfl (fbk rfl) rfl) ?_
   refine cE rfl (aPp rfl rfl rfl rfl (by rfl) ((fun h => h)) uT35 tB3 dC0 (by (simp [z03]; done)) (by (simp [z03, PV.one]; rfl)) (by simp [maxLen, z03]; omega) (by simp [z03]; omega)) ?_
   refine sm 1 rfl <| nL <| tG <| sm 1 rfl <| cV rfl (oB rfl rfl (z0b rfl oM0)) <| sm 1 rfl <| nL ?_
   refine ⟨_, _, ?_, Sub.of (fr' := [(6, iInt (i + 1)), (5, .sl 105 ((acc ++ [(z0c x g1).1]).map eInt).length), (0, .ptr 2001 0), (1, .pv (ints ts))]) ⟨rfl, congrArg (fun z => some (IV.sl _ z)) (by simp [z03, eInt]), rfl, rfl, trivial⟩, (i + 1), (acc ++ [(z0c x g1).1]), (z0c x g1).2, ?_, ?_, ?_, ?_, ?_, rfl, (funext (lkq [105, 2001, 2002] rfl rfl ⟨(congrArg (fun z => some (HO.row _ z)) (by simp [z03, eInt])), rfl, rfl, trivial⟩)), rfl⟩
   ·omega
   ·omega
   ·rw [<- hI1, hd]; simp [z0q]
   ·rw [<- hI2, hd]; rfl
   ·simp only [z0c, List.length_append, List.length_cons, List.length_nil]
    omega
   simp [hIa]
  refine tEx <| tQ <| Tr.freeze (t := 5) (k := 105) rfl rfl sI0 ?_
  have hge : ts.length <= i := by simpa using hc10
  rw [List.drop_eq_nil_of_le hge] at hI1 hI2
  simp only [z0q, List.append_nil] at hI1 hI2
  subst hI2
  rw [<- hI1]
  refine tG <| sm 2 rfl <| nL <| tRt <| rOk rfl rfl (po2 rfl rfl)
theorem y57 (l : List UInt8) (ts : List Int) (g : Gn) (hb : g.types.length + ts.length <= 1000000) : SC Tryz.prog 34 [.ptr 2001 0, .pv (ints ts)] (gH l g) (fun _ => False) (.sl 2005 ((z0q ts g).1.map eInt).length) ((2005, rowI (z0q ts g).1) :: gH l (z0q ts g).2) := by
  refine SC.of Tryz.func34 rfl (lb rfl) fun F ρ w => ?_
  refine Tr.lenOf (t := 1) rfl (fun hl => ?_)
  simp only [List.length_map] at hl
  refine tQ <| tG <| sm 1 rfl <| nL <| tQ <| tG <| sm 1 rfl <| nL <| tQ <| tQ <| Tr.grow (t := 5) (k := 2005) ⟨3, 1⟩ rfl rfl rfl rfl rfl <| tG ?_
  refine sm 1 rfl <| nL <| tBk <| Tr.sub (Sub.of (fr' := [(6, iInt 0), (5, .sl 2005 (([] : List Int).map eInt).length), (0, .ptr 2001 0), (1, .pv (ints ts))]) ⟨rfl, rfl, rfl, rfl, trivial⟩) <| Tr.heap (σ' := look [(2005, some (rowI ([] : List Int))), (2001, some (z3b l g)), (2002, some (rowI g.types))]) (lkq [2005, 2001, 2002] rfl rfl ⟨rfl, rfl, rfl, trivial⟩) ?_
  refine Tr.loop (fun fr σ m => ∃ (i : Nat) (acc : List Int) (g1 : Gn), (i <= ts.length) /\ (acc ++ (z0q (ts.drop i) g1).1 = (z0q ts g).1) /\ ((z0q (ts.drop i) g1).2 = (z0q ts g).2) /\ (g1.types.length + (ts.length - i) <= 1000000) /\ (acc.length = i) /\ fr = [(6, iInt i), (5, .sl 2005 (acc.map eInt).length), (0, .ptr 2001 0), (1, .pv (ints ts))] /\ σ = look [(2005, some (rowI acc)), (2001, some (z3b l g1)), (2002, some (rowI g1.types))] /\ m = ts.length - i) (n := ts.length - 0) ?_ ?_
  ·exact ⟨0, ([] : List Int), g, Nat.zero_le _, sI0, rfl, hb, rfl, rfl, rfl, rfl⟩
  rintro fr σ m ⟨i, acc, g1, hI0, hI1, hI2, hIb, hIa, rfl, rfl, rfl⟩
  refine tQ <| tQ <| tG <| sm 2 rfl <| cV rfl (oSm uT35 rfl) <| sm 1 rfl <| nL ?_
  refine tC rfl (fun hc10 => ?_) fun hc10 => ?_
  ·have hlt : i < ts.length := by simpa using hc10
   have hd := List.drop_eq_getElem_cons hlt
   have hm := List.getElem_mem hlt
   have hi := z0i (f := eInt) (List.getElem?_eq_getElem hlt)
   generalize ts[i] = x at hd hm hi
   have hal : (acc.map eInt).length = acc.length := by simp
   refine tSk <| tQ <| tBk <| tG <| sm 4 rfl <| cV rfl (iSq rfl rfl rfl uT35 hi tS3 rfl (by rfl)) <| sm 1 rfl <| cE rfl (ocr (z9d l x g1 oM0) ent35 rfl (po2 rfl rfl) rfl (fun k (h : _) => .inr h) rfl rfl) <| cE rfl (bSl rfl rfl uT35 tZ3 tS3 rfl rfl rfl rfl (fbk rfl) rfl) ?_
   refine cE rfl (aPp rfl rfl rfl rfl (by rfl) ((fun h => h)) uT35 tB3 dC0 (by (simp [z03]; done)) (by (simp [z03, PV.one]; rfl)) (by simp [maxLen, z03]; omega) (by simp [z03]; omega)) ?_
   refine sm 1 rfl <| nL <| tG <| sm 1 rfl <| cV rfl (oB rfl rfl (z0b rfl oM0)) <| sm 1 rfl <| nL ?_
   refine ⟨_, _, ?_, Sub.of (fr' := [(6, iInt (i + 1)), (5, .sl 2005 ((acc ++ [(z0c x g1).1]).map eInt).length), (0, .ptr 2001 0), (1, .pv (ints ts))]) ⟨rfl, congrArg (fun z => some (IV.sl _ z)) (by simp [z03, eInt]), rfl, rfl, trivial⟩, (i + 1), (acc ++ [(z0c x g1).1]), (z0c x g1).2, ?_, ?_, ?_, ?_, ?_, rfl, (funext (lkq [2005, 2001, 2002] rfl rfl ⟨(congrArg (fun z => some (HO.row _ z)) (by simp [z03, eInt])), rfl, rfl, trivial⟩)), rfl⟩
   ·omega
   ·omega
   ·rw [<- hI1, hd]; simp [z0q]
   ·rw [<- hI2, hd]; rfl
   ·simp only [z0c, List.length_append, List.length_cons, List.length_nil]
    omega
   simp [hIa]
  refine tEx <| tQ ?_
  have hge : ts.length <= i := by simpa using hc10
  rw [List.drop_eq_nil_of_le hge] at hI1 hI2
  simp only [z0q, List.append_nil] at hI1 hI2
  subst hI2
  rw [<- hI1]
  refine tG <| sm 2 rfl <| nL <| tRt <| rOk rfl rfl (po3 rfl rfl rfl)
end Go.Proofs.YthbcibeddfacbaaGreat
