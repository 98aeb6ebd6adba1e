/- PART 1 of 6 of a proof: see the last part. -/
import Derived.Deep.Fields
import Derived.Deep.MidRow
import Derived.JoinedCond
import Derived.Laws.BytesString
import Derived.Laws.Cells
import Derived.Lib.AppendStr
import Derived.Lib.AppendZeros
import Derived.Lib.ItoaLen
import Derived.Lib.ItoaMem
import Derived.Lib.LaidTab
import Derived.MapKept
import Derived.OpenShut
import Derived.OrdersHeld
import Derived.ProofKit
import Derived.SevenTiedAt
import Derived.Shelf.Strconv.Itoa4
import Derived.Shelf.Strings.OnBuilder
import Derived.Shelf.Strings.Repeat
import Derived.SizedLaws
import Derived.Still
import Derived.Test.YtahpinmlgnfklaaGreatDoorCards
import Derived.Test.YtahpinmlgnfklaaGreatDoorChecked
import Derived.Test.YtahpinmlgnfklaaGreatDoorProg
import Derived.Test.YtahpinmlgnfklaaGreatDoorRows
import Derived.Test.YtahpinmlgnfklaaGreatDoorTie
import Derived.WalkKit
import Derived.WideKeyArgs
import Derived.WideKeyRuns
set_option maxRecDepth 8000
set_option maxHeartbeats 2000000
set_option linter.unusedSimpArgs false
set_option linter.unusedVariables false
set_option linter.unusedSectionVars false
namespace Go.Proofs.YtahpinmlgnfklaaGreatDoor
open Go
def tabs : List (Nat × Array Value) := [(0, (Lib.pow10Tab.map fun z => Value.int .u64 z).toArray)]
inductive PV where
  | val (v : Value)
  | seq (els : List (List PV))
  | agg (cs : List PV)
  | ept (cs : List PV) (off : Nat)
instance : Inhabited PV := ⟨.val default⟩
inductive IV where
  | pv (p : PV)
  | ptr (k off : Nat)
  | sl (k len : Nat)
  | rpt (k len off : Nat)
  | bs (k n : Nat)
  | mp (k : Nat)
  | tnil (k T : Nat)
  | agg (cs : List IV)
  | tup (vs : List IV)
  | fn (f : Fn) (first cap : List IV)
instance : Inhabited IV := ⟨.pv default⟩
structure RT where
  e : TypeId
  n : Nat
inductive HO where
  | box (cs : List IV)
  | row (s : RT) (els : List (List PV))
  | map (es : List (Value × PV))
abbrev Heap' := Nat → Option HO
abbrev Loc := Nat → Option (Nat × Nat)
inductive RepP (own : Nat → Prop) (w : World) : PV → Value → Prop where
  | val (v : Value) : RepP own w (.val v) v
  | seq (els : List (List PV)) (a : Option Addr) (cap b off : Nat) (u : Nat → Nat → Value)
      (ha : els ≠ [] → a = some ⟨b, off, none⟩) (hb : els ≠ [] → ¬ own b ∧ b < w.heap.size) (hl : els.length ≤ cap) (hm : cap ≤ maxLen)
      (hc : ∀ i el, els[i]? = some el → ∀ j c, el[j]? = some c → w.cell? ⟨b, off + i * el.length + j, none⟩ = some (u i j))
      (hr : ∀ i el, els[i]? = some el → ∀ j c, el[j]? = some c → RepP own w c (u i j)) : RepP own w (.seq els) (.slice a els.length cap)
  | agg (cs : List PV) (vs : Array Value) (u : Nat → Value) (hl : vs.size = cs.length) (hv : ∀ j c, cs[j]? = some c → vs[j]? = some (u j))
      (hr : ∀ j c, cs[j]? = some c → RepP own w c (u j)) : RepP own w (.agg cs) (.agg vs)
  | ept (cs : List PV) (off b o : Nat) (u : Nat → Value) (hb : ¬ own b ∧ b < w.heap.size)
      (hc : ∀ j c, cs[j]? = some c → w.cell? ⟨b, o + j, none⟩ = some (u j))
      (hr : ∀ j c, cs[j]? = some c → RepP own w c (u j)) : RepP own w (.ept cs off) (.pointer (some ⟨b, o + off, none⟩))
def owned (F : Nat → Prop) (ρ : Loc) (b : Nat) : Prop := F b ∨ ∃ k c, ρ k = some (b, c)
inductive RepI (F : Nat → Prop) (ρ : Loc) (σ : Heap') (w : World) : IV → Value → Prop where
  | tnil (k T : Nat) (v : Value) (h : ∀ cs, σ k = some (.box cs) → ∃ b, ρ k = some (b, T) ∧ v = .pointer none) : RepI F ρ σ w (.tnil k T) v
  | pv (p : PV) (v : Value) (h : RepP (owned F ρ) w p v) : RepI F ρ σ w (.pv p) v
  | ptr (k off : Nat) (v : Value) (h : ∀ cs, σ k = some (.box cs) → ∃ b c, ρ k = some (b, c) ∧ v = .pointer (some ⟨b, off, none⟩)) : RepI F ρ σ w (.ptr k off) v
  | sl (k len : Nat) (v : Value) (h : ∀ s els, σ k = some (.row s els) → len ≤ els.length ∧ (els.length = len →
        (∃ b c, ρ k = some (b, c) ∧ v = .slice (some ⟨b, 0, none⟩) len c) ∨ (ρ k = none ∧ len = 0 ∧ v = .slice none 0 0))) : RepI F ρ σ w (.sl k len) v
  | rpt (k len off : Nat) (v : Value) (h : ∀ s els, σ k = some (.row s els) → len ≤ els.length ∧ (els.length = len → ∃ b c, ρ k = some (b, c) ∧ v = .pointer (some ⟨b, off, none⟩))) : RepI F ρ σ w (.rpt k len off) v
  | bs (k n : Nat) (v : Value) (h : ∀ cs, σ k = some (.box cs) → ∃ b c, ρ k = some (b, c) ∧ ∃ cap, n ≤ cap ∧ cap ≤ maxLen ∧ v = .slice (some ⟨b, 0, none⟩) n cap) : RepI F ρ σ w (.bs k n) v
  | mp (k : Nat) (v : Value) (h : ∀ es, σ k = some (.map es) → ∃ b c, ρ k = some (b, c) ∧ v = .map (some b)) : RepI F ρ σ w (.mp k) v
  | agg (cs : List IV) (vs : Array Value) (u : Nat → Value) (hl : vs.size = cs.length) (hv : ∀ j c, cs[j]? = some c → vs[j]? = some (u j))
      (hr : ∀ j c, cs[j]? = some c → RepI F ρ σ w c (u j)) : RepI F ρ σ w (.agg cs) (.agg vs)
  | tup (cs : List IV) (vs : Array Value) (u : Nat → Value) (hl : vs.size = cs.length) (hv : ∀ j c, cs[j]? = some c → vs[j]? = some (u j))
      (hr : ∀ j c, cs[j]? = some c → RepI F ρ σ w c (u j)) : RepI F ρ σ w (.tup cs) (.tuple vs)
  | fn (f : Fn) (xs ys : List IV) (vs ws : Array Value) (u t : Nat → Value) (hl : vs.size = xs.length) (hv : ∀ j c, xs[j]? = some c → vs[j]? = some (u j))
      (hr : ∀ j c, xs[j]? = some c → RepI F ρ σ w c (u j)) (hl' : ws.size = ys.length) (hv' : ∀ j c, ys[j]? = some c → ws[j]? = some (t j))
      (hr' : ∀ j c, ys[j]? = some c → RepI F ρ σ w c (t j)) : RepI F ρ σ w (.fn f xs ys) (.func f vs ws)
def tyTag : Nat := 18446744073709551616
def tyOk (c e n : Nat) : Prop := tyTag ≤ c → c = tyTag + e ∧ n = 2
theorem tyOk1 (e n : Nat) : tyOk 1 e n := fun h => absurd h (by decide)
inductive RepO (F : Nat → Prop) (ρ : Loc) (σ : Heap') (w : World) (b c : Nat) : HO → Prop where
  | box (cs : List IV) (e : TypeId) (a : Array Value) (u : Nat → Value) (h : w.heap[b]? = some (.cells a e (0, 0))) (hl : cs.length ≤ a.size)
      (hv : ∀ j x, cs[j]? = some x → a[j]? = some (u j)) (hr : ∀ j x, cs[j]? = some x → RepI F ρ σ w x (u j)) (ht : tyOk c e a.size := by first | exact tyOk1 _ _ | assumption | (simp only [Array.size_setIfInBounds]; assumption)) : RepO F ρ σ w b c (.box cs)
  | row (s : RT) (els : List (List PV)) (a : Array Value) (u : Nat → Nat → Value) (h : w.heap[b]? = some (.cells a s.e (0, 0))) (hs : a.size = c * s.n) (hl : els.length ≤ c) (hm : c ≤ maxLen)
      (hw : ∀ el ∈ els, el.length = s.n) (hv : ∀ i el, els[i]? = some el → ∀ j x, el[j]? = some x → a[i * s.n + j]? = some (u i j))
      (hr : ∀ i el, els[i]? = some el → ∀ j x, el[j]? = some x → RepP (owned F ρ) w x (u i j)) : RepO F ρ σ w b c (.row s els)
  | map (es : List (Value × PV)) (a : Array MapEntry) (t : Nat) (u : Nat → Value) (h : w.heap[b]? = some (.map a t)) (hl : a.size = es.length)
      (hv : ∀ i k p, es[i]? = some (k, p) → ∃ m : MapEntry, a[i]? = some m ∧ m.key = k ∧ m.val = u i)
      (hr : ∀ i k p, es[i]? = some (k, p) → RepP (owned F ρ) w p (u i)) : RepO F ρ σ w b c (.map es)
structure RelH (F : Nat → Prop) (ρ : Loc) (σ : Heap') (w : World) : Prop where
  inj : ∀ k k' b c c', ρ k = some (b, c) → ρ k' = some (b, c') → k = k'
  apart : ∀ k b c, ρ k = some (b, c) → ¬ F b
  old : ∀ b, F b → b < w.heap.size
  obj : ∀ k b c, ρ k = some (b, c) → ∃ o, σ k = some o ∧ RepO F ρ σ w b c o
  real : ∀ k o, σ k = some o → ρ k = none → ∃ s, o = .row s []
theorem RelH.ty {F : Nat → Prop} {ρ : Loc} {σ : Heap'} {w : World} (h : RelH F ρ σ w) {k b cc : Nat} {cs : List IV} {r : Array Value} {e : TypeId} {f : Nat × Nat} (hk : σ k = some (.box cs)) (hρ : ρ k = some (b, cc)) (h3 : w.heap[b]? = some (.cells r e f)) : tyOk cc e r.size := by
  obtain ⟨o, h1, h2⟩ := h.obj k b cc hρ
  rw [hk] at h1; cases h1
  cases h2 with
  | box _ e' a u h4 hl hv hr ht => rw [h3] at h4; cases h4; exact ht
theorem RepO.lt {F : Nat → Prop} {ρ : Loc} {σ : Heap'} {w : World} {b c : Nat} {o : HO} (h : RepO F ρ σ w b c o) : b < w.heap.size := by
  cases h <;> (rename_i h _ _ ; rcases Nat.lt_or_ge b w.heap.size with g | g; exact g; simp [Array.getElem?_eq_none g] at *)
theorem RelH.lt {F : Nat → Prop} {ρ : Loc} {σ : Heap'} {w : World} (h : RelH F ρ σ w) {k b c : Nat} (hk : ρ k = some (b, c)) : b < w.heap.size := by
  obtain ⟨o, _, ho⟩ := h.obj k b c hk
  exact ho.lt
theorem RelH.own_lt {F : Nat → Prop} {ρ : Loc} {σ : Heap'} {w : World} (h : RelH F ρ σ w) {b : Nat} (hb : owned F ρ b) : b < w.heap.size := by
  rcases hb with hb | ⟨k, c, hk⟩
  ·exact h.old b hb
  exact h.lt hk
theorem RepP.keep {own own' : Nat → Prop} {w w' : World} {p : PV} {v : Value} (h : RepP own w p v) (hs : w.heap.size ≤ w'.heap.size)
    (hk : ∀ b, b < w.heap.size → ¬ own b → w'.heap[b]? = w.heap[b]? ∧ ¬ own' b) : RepP own' w' p v := by
  induction h with
  | val v => exact .val v
  | seq els a cap b off u ha hb hl hm hc _ ih =>
    refine .seq els a cap b off u ha (fun hne => ⟨(hk b (hb hne).2 (hb hne).1).2, Nat.lt_of_lt_of_le (hb hne).2 hs⟩) hl hm (fun i el hi j c hj => ?_) ih
    have hne : els ≠ [] := by intro h0; simp [h0] at hi
    rw [← hc i el hi j c hj]
    exact World.cell?_of_block (a := ⟨b, _, none⟩) (hk b (hb hne).2 (hb hne).1).1
  | agg cs vs u hl hv _ ih => exact .agg cs vs u hl hv ih
  | ept cs off b o u hb hc _ ih =>
    refine .ept cs off b o u ⟨(hk b hb.2 hb.1).2, Nat.lt_of_lt_of_le hb.2 hs⟩ (fun j c hj => ?_) ih
    rw [← hc j c hj]
    exact World.cell?_of_block (a := ⟨b, _, none⟩) (hk b hb.2 hb.1).1
inductive Names (P : Nat → Prop) : IV → Prop where
  | ptr {k off : Nat} (h : P k) : Names P (.ptr k off)
  | sl {k len : Nat} (h : P k) : Names P (.sl k len)
  | rpt {k len off : Nat} (h : P k) : Names P (.rpt k len off)
  | bs {k n : Nat} (h : P k) : Names P (.bs k n)
  | mp {k : Nat} (h : P k) : Names P (.mp k)
  | tnil {k T : Nat} (h : P k) : Names P (.tnil k T)
  | agg {cs : List IV} {c : IV} (hc : c ∈ cs) (h : Names P c) : Names P (.agg cs)
  | tup {cs : List IV} {c : IV} (hc : c ∈ cs) (h : Names P c) : Names P (.tup cs)
  | fn1 {f : Fn} {xs ys : List IV} {c : IV} (hc : c ∈ xs) (h : Names P c) : Names P (.fn f xs ys)
  | fn2 {f : Fn} {xs ys : List IV} {c : IV} (hc : c ∈ ys) (h : Names P c) : Names P (.fn f xs ys)
structure Trans (F : Nat → Prop) (R : Nat → Prop) (ρ : Loc) (σ : Heap') (w : World) (ρ' : Loc) (σ' : Heap') (w' : World) : Prop where
  os : w'.os = w.os
  tape : w'.tape = w.tape
  output : w'.output = w.output
  size : w.heap.size ≤ w'.heap.size
  blk : ∀ b, b < w.heap.size → (∀ k c, ρ k = some (b, c) → R k) → w'.heap[b]? = w.heap[b]?
  own : ∀ k b c, ρ' k = some (b, c) → b < w.heap.size → ρ k = some (b, c)
  box : ∀ k cs cs', σ k = some (.box cs) → σ' k = some (.box cs') → ρ' k = ρ k
  map : ∀ k es es', σ k = some (.map es) → σ' k = some (.map es') → ρ' k = ρ k
  row : ∀ k s s' els els', σ k = some (.row s els) → σ' k = some (.row s' els') → els'.length = els.length → ρ' k = ρ k
  grow : ∀ k s s' els els', σ k = some (.row s els) → σ' k = some (.row s' els') → els.length ≤ els'.length
  kindB : ∀ k cs', σ' k = some (.box cs') → σ k = none ∨ ∃ cs, σ k = some (.box cs)
  kindM : ∀ k es', σ' k = some (.map es') → σ k = none ∨ ∃ es, σ k = some (.map es)
  kindR : ∀ k s els', σ' k = some (.row s els') → σ k = none ∨ ∃ els, σ k = some (.row s els)
theorem owned.keep {F R : Nat → Prop} {ρ ρ' : Loc} {σ σ' : Heap'} {w w' : World} (t : Trans F R ρ σ w ρ' σ' w') {b : Nat} (hb : b < w.heap.size) (hn : ¬ owned F ρ b) : w'.heap[b]? = w.heap[b]? ∧ ¬ owned F ρ' b := by
  refine ⟨t.blk b hb fun k c hk => absurd (.inr ⟨k, c, hk⟩) hn, fun ho => hn ?_⟩
  rcases ho with ho | ⟨k, c, hk⟩
  ·exact .inl ho
  exact .inr ⟨k, c, t.own k b c hk hb⟩
def Kept (w : World) (own : Nat → Prop) : Prop := ∀ e ∈ tabs, (∃ T f, w.heap[e.1]? = some (.cells e.2 T f)) ∧ ¬ own e.1
theorem Kept.mono {w : World} {own own' : Nat → Prop} (h : Kept w own) (hs : ∀ b, own' b → own b) : Kept w own' := fun e he => ⟨(h e he).1, fun ho => (h e he).2 (hs _ ho)⟩
theorem Kept.keep {F R : Nat → Prop} {ρ ρ' : Loc} {σ σ' : Heap'} {w w' : World} (h : Kept w (owned F ρ)) (t : Trans F R ρ σ w ρ' σ' w') : Kept w' (owned F ρ') := fun e he => by
  obtain ⟨⟨T, f, h1⟩, h2⟩ := h e he
  obtain ⟨k1, k2⟩ := owned.keep t (Array.getElem?_eq_some_iff.1 h1).1 h2
  exact ⟨⟨T, f, by rw [k1]; exact h1⟩, k2⟩
theorem Trans.refl (F R : Nat → Prop) (ρ : Loc) (σ : Heap') (w : World) : Trans F R ρ σ w ρ σ w where
  os := rfl
  tape := rfl
  output := rfl
  size := Nat.le_refl _
  blk _ _ _ := rfl
  own _ _ _ h _ := h
  box _ _ _ _ _ := rfl
  map _ _ _ _ _ := rfl
  row _ _ _ _ _ _ _ _ := rfl
  grow k s s' els els' h h' := by rw [h] at h'; cases h'; exact Nat.le_refl _
  kindB k cs' h := .inr ⟨_, h⟩
  kindM k es' h := .inr ⟨_, h⟩
  kindR k s els' h := .inr ⟨_, h⟩
theorem Trans.trans {F R R' : Nat → Prop} {ρ ρ' ρ'' : Loc} {σ σ' σ'' : Heap'} {w w' w'' : World} (t : Trans F R ρ σ w ρ' σ' w') (t' : Trans F R' ρ' σ' w' ρ'' σ'' w'')
    (hR : ∀ k, R k → R' k) (hnew : ∀ k, σ' k = none → σ'' k ≠ none → σ k = none) : Trans F R ρ σ w ρ'' σ'' w'' where
  os := t'.os.trans t.os
  tape := t'.tape.trans t.tape
  output := t'.output.trans t.output
  size := Nat.le_trans t.size t'.size
  blk b hb h := (t'.blk b (Nat.lt_of_lt_of_le hb t.size) fun k c hk => hR k (h k c (t.own k b c hk hb))).trans (t.blk b hb h)
  own k b c h hb := t.own k b c (t'.own k b c h (Nat.lt_of_lt_of_le hb t.size)) hb
  box k cs cs'' h h'' := by
    rcases t'.kindB k cs'' h'' with h0 | ⟨cs', h'⟩
    ·rw [hnew k h0 (by simp [h''])] at h; cases h
    exact (t'.box k cs' cs'' h' h'').trans (t.box k cs cs' h h')
  map k cs cs'' h h'' := by
    rcases t'.kindM k cs'' h'' with h0 | ⟨cs', h'⟩
    ·rw [hnew k h0 (by simp [h''])] at h; cases h
    exact (t'.map k cs' cs'' h' h'').trans (t.map k cs cs' h h')
  row k s s'' els els'' h h'' hl := by
    rcases t'.kindR k s'' els'' h'' with h0 | ⟨els', h'⟩
    ·rw [hnew k h0 (by simp [h''])] at h; cases h
    have g := t.grow k _ _ _ _ h h'
    have g' := t'.grow k _ _ _ _ h' h''
    exact (t'.row k _ _ els' els'' h' h'' (by omega)).trans (t.row k _ _ els els' h h' (by omega))
  grow k s s'' els els'' h h'' := by
    rcases t'.kindR k s'' els'' h'' with h0 | ⟨els', h'⟩
    ·rw [hnew k h0 (by simp [h''])] at h; cases h
    exact Nat.le_trans (t.grow k _ _ _ _ h h') (t'.grow k _ _ _ _ h' h'')
  kindB k cs'' h'' := by
    rcases t'.kindB k cs'' h'' with h0 | ⟨cs', h'⟩
    ·exact .inl (hnew k h0 (by simp [h'']))
    exact t.kindB k cs' h'
  kindM k cs'' h'' := by
    rcases t'.kindM k cs'' h'' with h0 | ⟨cs', h'⟩
    ·exact .inl (hnew k h0 (by simp [h'']))
    exact t.kindM k cs' h'
  kindR k s els'' h'' := by
    rcases t'.kindR k s els'' h'' with h0 | ⟨els', h'⟩
    ·exact .inl (hnew k h0 (by simp [h'']))
    exact t.kindR k s els' h'
theorem RepP.trans' {F R : Nat → Prop} {ρ ρ' : Loc} {σ σ' : Heap'} {w w' : World} (t : Trans F R ρ σ w ρ' σ' w') {p : PV} {v : Value} (h : RepP (owned F ρ) w p v) : RepP (owned F ρ') w' p v :=
  h.keep t.size fun _ hb hn => owned.keep t hb hn
theorem RepI.trans' {F R : Nat → Prop} {ρ ρ' : Loc} {σ σ' : Heap'} {w w' : World} (t : Trans F R ρ σ w ρ' σ' w') {x : IV} {v : Value} (h : RepI F ρ σ w x v)
    (hn : ¬ Names (fun k => σ k = none ∧ σ' k ≠ none) x) : RepI F ρ' σ' w' x v := by
  induction h with
  | pv p v h => exact .pv p v (h.trans' t)
  | tnil k T v h =>
    refine .tnil k T v fun cs' h' => ?_
    rcases t.kindB k cs' h' with h0 | ⟨cs, h0⟩
    ·exact absurd (Names.tnil ⟨h0, by simp [h']⟩) hn
    obtain ⟨b, hk, hv⟩ := h cs h0
    exact ⟨b, (t.box k cs cs' h0 h').trans hk, hv⟩
  | ptr k off v h =>
    refine .ptr k off v fun cs' h' => ?_
    rcases t.kindB k cs' h' with h0 | ⟨cs, h0⟩
    ·exact absurd (Names.ptr ⟨h0, by simp [h']⟩) hn
    obtain ⟨b, c, hk, hv⟩ := h cs h0
    exact ⟨b, c, (t.box k cs cs' h0 h').trans hk, hv⟩
  | sl k len v h =>
    refine .sl k len v fun s els' h' => ?_
    rcases t.kindR k s els' h' with h0 | ⟨els, h0⟩
    ·exact absurd (Names.sl ⟨h0, by simp [h']⟩) hn
    have h1 := h s els h0
    have hg := t.grow k s s els els' h0 h'
    refine ⟨Nat.le_trans h1.1 hg, fun hl => ?_⟩
    have he : els.length = len := by have := h1.1; omega
    have hr := t.row k s s els els' h0 h' (by omega)
    rcases h1.2 he with ⟨b, c, hk, hv⟩ | ⟨hk, hz, hv⟩
    ·exact .inl ⟨b, c, hr.trans hk, hv⟩
    exact .inr ⟨hr.trans hk, hz, hv⟩
  | rpt k len off v h =>
    refine .rpt k len off v fun s els' h' => ?_
    rcases t.kindR k s els' h' with h0 | ⟨els, h0⟩
    ·exact absurd (Names.rpt ⟨h0, by simp [h']⟩) hn
    have h1 := h s els h0
    have hg := t.grow k s s els els' h0 h'
    refine ⟨Nat.le_trans h1.1 hg, fun hl => ?_⟩
    have he : els.length = len := by have := h1.1; omega
    obtain ⟨b, c, hk, hv⟩ := h1.2 he
    exact ⟨b, c, (t.row k s s els els' h0 h' (by omega)).trans hk, hv⟩
  | bs k n v h =>
    refine .bs k n v fun cs' h' => ?_
    rcases t.kindB k cs' h' with h0 | ⟨cs, h0⟩
    ·exact absurd (Names.bs ⟨h0, by simp [h']⟩) hn
    obtain ⟨b, c, hk, hv⟩ := h cs h0
    exact ⟨b, c, (t.box k cs cs' h0 h').trans hk, hv⟩
  | mp k v h =>
    refine .mp k v fun cs' h' => ?_
    rcases t.kindM k cs' h' with h0 | ⟨cs, h0⟩
    ·exact absurd (Names.mp ⟨h0, by simp [h']⟩) hn
    obtain ⟨b, c, hk, hv⟩ := h cs h0
    exact ⟨b, c, (t.map k cs cs' h0 h').trans hk, hv⟩
  | agg cs vs u hl hv _ ih => exact .agg cs vs u hl hv fun j c hj => ih j c hj fun hc => hn (.agg (List.mem_of_getElem? hj) hc)
  | tup cs vs u hl hv _ ih => exact .tup cs vs u hl hv fun j c hj => ih j c hj fun hc => hn (.tup (List.mem_of_getElem? hj) hc)
  | fn f xs ys vs ws u t' hl hv _ hl' hv' _ ih ih' =>
    exact .fn f xs ys vs ws u t' hl hv (fun j c hj => ih j c hj fun hc => hn (.fn1 (List.mem_of_getElem? hj) hc)) hl' hv' (fun j c hj => ih' j c hj fun hc => hn (.fn2 (List.mem_of_getElem? hj) hc))
abbrev Fr := List (Nat × IV)
def Fr.get : Fr → Nat → Option IV
  | [], _ => none
  | (k, x) :: r, t => bif Nat.beq k t then some x else Fr.get r t
def Fr.put (fr : Fr) : Option Nat → IV → Fr
  | some t, x => (t, x) :: fr
  | none, _ => fr
def Fr.ev (fr : Fr) : Operand → Option IV
  | .tmp t => fr.get t
  | .const v => some (.pv (.val v))
  | .global _ => none
  | .func f => some (.pv (.val (.func (.func f) #[] #[])))
structure Cx where
  F : Nat → Prop
  R : Nat → Prop
  ρ : Loc
  σ : Heap'
  w : World
  n : Nat
structure All (c : Cx) (ρ : Loc) (σ : Heap') (w : World) (fr : Fr) (a : Act) : Prop where
  rel : RelH c.F ρ σ w
  fr : ∀ t x, fr.get t = some x → ∃ v, a.tmps[t]? = some v ∧ RepI c.F ρ σ w x v
  tr : Trans c.F c.R c.ρ c.σ c.w ρ σ w
  df : a.defers = []
  sz : a.tmps.size = c.n
  kk : Kept c.w (owned c.F c.ρ)
theorem All.kept {c : Cx} {ρ : Loc} {σ : Heap'} {w : World} {fr : Fr} {a : Act} (h : All c ρ σ w fr a) : Kept w (owned c.F ρ) := h.kk.keep h.tr
theorem All.ev {c : Cx} {ρ : Loc} {σ : Heap'} {w : World} {fr : Fr} {a : Act} (h : All c ρ σ w fr a) {o : Operand} {x : IV} (hx : fr.ev o = some x) : RepI c.F ρ σ w x (a.eval o) := by
  cases o with
  | tmp t =>
    obtain ⟨v, hv, hr⟩ := h.fr t x hx
    simpa [Act.eval, hv] using hr
  | const v => cases hx; exact .pv _ _ (.val v)
  | global g => cases hx
  | func f => cases hx; exact .pv _ _ (.val _)
theorem All.step {c : Cx} {ρ ρ' : Loc} {σ σ' : Heap'} {w w' : World} {fr : Fr} {a : Act} {R' : Nat → Prop} (h : All c ρ σ w fr a) (t : Trans c.F R' ρ σ w ρ' σ' w') (hR : ∀ k, c.R k → R' k)
    (hrel : RelH c.F ρ' σ' w') (hnew : ∀ k, σ k = none → σ' k ≠ none → c.σ k = none) (hfr : ∀ t x, fr.get t = some x → ¬ Names (fun k => σ k = none ∧ σ' k ≠ none) x) : All c ρ' σ' w' fr a where
  rel := hrel
  fr t' x hx := by
    obtain ⟨v, hv, hr⟩ := h.fr t' x hx
    exact ⟨v, hv, hr.trans' t (hfr t' x hx)⟩
  tr := h.tr.trans t hR hnew
  df := h.df
  sz := h.sz
  kk := h.kk
theorem All.put {c : Cx} {ρ : Loc} {σ : Heap'} {w : World} {fr : Fr} {a : Act} (h : All c ρ σ w fr a) {d : Option Tmp} {x : IV} {v : Value} (hx : RepI c.F ρ σ w x v) (hd : ∀ t, d = some t → t < c.n) :
    All c ρ σ w (fr.put d x) (a.put d v) := by
  cases d with
  | none => exact h
  | some t =>
    refine ⟨h.rel, fun t' x' hx' => ?_, h.tr, h.df, by simp [Act.put, h.sz], h.kk⟩
    simp only [Fr.put, Fr.get] at hx'
    by_cases e : t = t'
    ·subst e
     rw [show Nat.beq t t = true from Nat.beq_refl t] at hx'
     simp only [cond_true, Option.some.injEq] at hx'
     subst hx'
     exact ⟨v, by simp [Act.put, h.sz, hd t rfl], hx⟩
    rw [show Nat.beq t t' = false from by cases hb : Nat.beq t t' with | true => exact absurd (Nat.eq_of_beq_eq_true hb) e | false => rfl] at hx'
    obtain ⟨u, hu, hr⟩ := h.fr t' x' hx'
    exact ⟨u, by simp [Act.put, e, hu], hr⟩
theorem All.weaken {c : Cx} {ρ : Loc} {σ : Heap'} {w : World} {fr fr' : Fr} {a : Act} (h : All c ρ σ w fr a) (hs : ∀ t x, fr'.get t = some x → fr.get t = some x) : All c ρ σ w fr' a :=
  ⟨h.rel, fun t x hx => h.fr t x (hs t x hx), h.tr, h.df, h.sz, h.kk⟩
def Ok (P : Program) (c : Cx) (o : Oper) (fr : Fr) (σ : Heap') (x : IV) (σ' : Heap') : Prop :=
  ∀ ρ w a K Q, All c ρ σ w fr a → (∀ ρ' w' v, All c ρ' σ' w' fr a → RepI c.F ρ' σ' w' x v → K (a.put o.dst v) w') → o.wp P a w K Q
def lift (c : Cx) (Q : Exit → Fr → Heap' → Prop) (e : Exit) (a : Act) (w : World) : Prop := ∃ ρ σ fr, All c ρ σ w fr a ∧ Q e fr σ
def WL (P : Program) (c : Cx) (ops : Array Oper) (Q : Exit → Fr → Heap' → Prop) (l : List Oper) (fr : Fr) (σ : Heap') : Prop :=
  ∀ ρ w a, All c ρ σ w fr a → wpList P ops (lift c Q) l a w
def Tr (P : Program) (c : Cx) (code : Code) (fr : Fr) (σ : Heap') (Q : Exit → Fr → Heap' → Prop) : Prop :=
  ∀ ρ w a, All c ρ σ w fr a → code.wp P (lift c Q) a w
section
variable {P : Program} {c : Cx} {R1 : Nat → Prop} {o : Oper} {fr : Fr} {σ : Heap'}
def SameFor (F R1 : Nat → Prop) (ρ : Loc) (w w2 : World) : Prop := ∀ b, b < w.heap.size → (¬ owned F ρ b ∨ ∃ k cc, R1 k ∧ ρ k = some (b, cc)) → w2.heap[b]? = w.heap[b]?
theorem SameFor.refl (F R1 : Nat → Prop) (ρ : Loc) (w : World) : SameFor F R1 ρ w w := fun _ _ _ => rfl
def OkV (P : Program) (c : Cx) (R1 : Nat → Prop) (o : Oper) (fr : Fr) (σ : Heap') (x : IV) : Prop :=
  ∀ ρ w a, All c ρ σ w fr a → ∃ v, (∀ w2, SameFor c.F R1 ρ w w2 → (execOp a.eval o).run P w2 = .ok (.value v) w2) ∧ RepI c.F ρ σ w x v
theorem OkV.ok {P : Program} {c : Cx} {R1 : Nat → Prop} {o : Oper} {fr : Fr} {σ : Heap'} {x : IV} (h : OkV P c R1 o fr σ x) : Ok P c o fr σ x σ := by
  intro ρ w a K Q ha hK
  obtain ⟨v, hr, hv⟩ := h ρ w a ha
  unfold Oper.wp
  rw [hr w (.refl _ _ _ _)]
  exact hK ρ w v ha hv
theorem RepI.val {F : Nat → Prop} {ρ : Loc} {w : World} {v u : Value} (h : RepI F ρ σ w (.pv (.val v)) u) : u = v := by
  cases h with
  | pv _ _ h => cases h; rfl
theorem ev_val {ρ : Loc} {w : World} {a : Act} (h : All c ρ σ w fr a) {y : Operand} {v : Value} (hy : fr.ev y = some (.pv (.val v))) : a.eval y = v := (h.ev hy).val
theorem mkVal {F : Nat → Prop} {ρ : Loc} {w : World} (v : Value) : RepI F ρ σ w (.pv (.val v)) v := .pv _ _ (.val v)
theorem ok_move {y : Operand} {x : IV} (ho : o.op = .move y) (hy : fr.ev y = some x) : OkV P c R1 o fr σ x :=
  fun ρ w a h => ⟨a.eval y, fun _ _ => by simp [execOp, ho], h.ev hy⟩
theorem ok_assign {y : Operand} {x : IV} (ho : o.op = .assign y) (hy : fr.ev y = some x) : OkV P c R1 o fr σ x :=
  fun ρ w a h => ⟨a.eval y, fun _ _ => by simp [execOp, ho], h.ev hy⟩
theorem ok_pick_true {q x y : Operand} {z : IV} (ho : o.op = .pick q x y) (hq : fr.ev q = some (.pv (.val (.bool true)))) (hy : fr.ev x = some z) : OkV P c R1 o fr σ z :=
  fun ρ w a h => ⟨a.eval x, fun _ _ => by simp [execOp, ho, ev_val h hq, asBool], h.ev hy⟩
theorem ok_pick_false {q x y : Operand} {z : IV} (ho : o.op = .pick q x y) (hq : fr.ev q = some (.pv (.val (.bool false)))) (hy : fr.ev y = some z) : OkV P c R1 o fr σ z :=
  fun ρ w a h => ⟨a.eval y, fun _ _ => by simp [execOp, ho, ev_val h hq, asBool], h.ev hy⟩
def intBin : BinOp → IntKind → Int → Int → Option Value
  | .add, k, m, n => some (.int k (k.wrap (m + n)))
  | .sub, k, m, n => some (.int k (k.wrap (m - n)))
  | .mul, k, m, n => some (.int k (k.wrap (m * n)))
  | .quo, k, m, n => if n = 0 then none else some (.int k (k.wrap (m.tdiv n)))
  | .rem, k, m, n => if n = 0 then none else some (.int k (m.tmod n))
  | .and, k, m, n => some (.int k (k.wrap (BitVec.ofInt k.bits m &&& BitVec.ofInt k.bits n).toNat))
  | .or, k, m, n => some (.int k (k.wrap (BitVec.ofInt k.bits m ||| BitVec.ofInt k.bits n).toNat))
  | .xor, k, m, n => some (.int k (k.wrap (BitVec.ofInt k.bits m ^^^ BitVec.ofInt k.bits n).toNat))
  | .eql, _, m, n => some (.bool (m == n))
  | .neq, _, m, n => some (.bool (m != n))
  | .lss, _, m, n => some (.bool (decide (m < n)))
  | .leq, _, m, n => some (.bool (decide (m ≤ n)))
  | .gtr, _, m, n => some (.bool (decide (m > n)))
  | .geq, _, m, n => some (.bool (decide (m ≥ n)))
  | _, _, _, _ => none
theorem run_intBin {op : BinOp} {k : IntKind} {m n : Int} {v : Value} (h : intBin op k m n = some v) (t : TypeId) (w : World) :
    (binOp op t (.int k m) (.int k n)).run P w = .ok v w := by
  cases op <;> simp only [intBin] at h <;> first
    | (cases h; done)
    | (split at h <;> cases h; simp [binOp, Op.intDiv, *]; done)
    | (cases h; simp [binOp, Op.intArith, Op.intBits, Op.intCmp]; done)
theorem run_eqGuard_int {op : BinOp} {t : TypeId} {x y : Operand} {k k' : IntKind} {m n : Int} (w : World) : (eqGuard op t x y (.int k m) (.int k' n)).run P w = .ok () w := by
  unfold eqGuard
  split <;> simp
theorem ok_bin_int {op : BinOp} {t u : TypeId} {x y : Operand} {k : IntKind} {m n : Int} {v : Value} (ho : o.op = .binOp op t x y u) (hx : fr.ev x = some (.pv (.val (.int k m)))) (hy : fr.ev y = some (.pv (.val (.int k n))))
    (hv : intBin op k m n = some v) : OkV P c R1 o fr σ (.pv (.val v)) :=
  fun ρ w a h => ⟨v, fun _ _ => by simp [execOp, ho, ev_val h hx, ev_val h hy, Sem.run_bind, run_eqGuard_int, run_intBin hv], mkVal v⟩
theorem ok_shl {t u : TypeId} {x y : Operand} {k k' : IntKind} {m n : Int} (ho : o.op = .binOp .shl t x y u) (hx : fr.ev x = some (.pv (.val (.int k m)))) (hy : fr.ev y = some (.pv (.val (.int k' n))))
    (hn : 0 ≤ n) : OkV P c R1 o fr σ (.pv (.val (.int k (k.wrap (m * 2 ^ (min n.toNat k.bits)))))) :=
  fun ρ w a h => ⟨_, fun _ _ => by simp [execOp, ho, ev_val h hx, ev_val h hy, run_eqGuard_int, binOp, Op.shift, show ¬ n < 0 by omega], mkVal _⟩
theorem ok_shr {t u : TypeId} {x y : Operand} {k k' : IntKind} {m n : Int} (ho : o.op = .binOp .shr t x y u) (hx : fr.ev x = some (.pv (.val (.int k m)))) (hy : fr.ev y = some (.pv (.val (.int k' n))))
    (hn : 0 ≤ n) : OkV P c R1 o fr σ (.pv (.val (.int k (m.fdiv (2 ^ (min n.toNat k.bits)))))) :=
  fun ρ w a h => ⟨_, fun _ _ => by simp [execOp, ho, ev_val h hx, ev_val h hy, run_eqGuard_int, binOp, Op.shift, show ¬ n < 0 by omega], mkVal _⟩
def strBin : BinOp → ByteArray → ByteArray → Option Value
  | .add, x, y => if ((x.size + y.size : Nat) : Int) > IntKind.i64.max then none else some (.string (x ++ y))
  | .eql, x, y => some (.bool (x.toList == y.toList))
  | .neq, x, y => some (.bool (!(x.toList == y.toList)))
  | .lss, x, y => some (.bool (Op.bytesLess x.toList y.toList))
  | .leq, x, y => some (.bool (Op.bytesLess x.toList y.toList || x.toList == y.toList))
  | .gtr, x, y => some (.bool (!(Op.bytesLess x.toList y.toList || x.toList == y.toList)))
  | .geq, x, y => some (.bool (!Op.bytesLess x.toList y.toList))
  | _, _, _ => none
theorem run_strBin {op : BinOp} {x y : ByteArray} {v : Value} (h : strBin op x y = some v) (t : TypeId) (w : World) :
    (binOp op t (.string x) (.string y)).run P w = .ok v w := by
  cases op <;> simp only [strBin] at h <;> first
    | (cases h; done)
    | (split at h <;> cases h; simp only [binOp, Op.stringOp]; rw [if_neg (by assumption)]; rfl)
    | (cases h; simp [binOp, Op.stringOp]; done)
theorem run_eqGuard_str {op : BinOp} {t : TypeId} {x y : Operand} {s s' : ByteArray} (w : World) : (eqGuard op t x y (.string s) (.string s')).run P w = .ok () w := by
  unfold eqGuard
  split <;> simp
theorem ok_bin_str {op : BinOp} {t u : TypeId} {x y : Operand} {s s' : ByteArray} {v : Value} (ho : o.op = .binOp op t x y u) (hx : fr.ev x = some (.pv (.val (.string s)))) (hy : fr.ev y = some (.pv (.val (.string s'))))
    (hv : strBin op s s' = some v) : OkV P c R1 o fr σ (.pv (.val v)) :=
  fun ρ w a h => ⟨v, fun _ _ => by simp [execOp, ho, ev_val h hx, ev_val h hy, Sem.run_bind, run_eqGuard_str, run_strBin hv], mkVal v⟩
theorem run_eqGuard_bool {op : BinOp} {t : TypeId} {x y : Operand} {s s' : Bool} (w : World) : (eqGuard op t x y (.bool s) (.bool s')).run P w = .ok () w := by
  unfold eqGuard
  split <;> simp
theorem run_eql_bool {t : TypeId} {p q : Bool} {w : World} (hu : P.underlying t = some .bool) : (binOp .eql t (.bool p) (.bool q)).run P w = .ok (.bool (p == q)) w := by
  have h : binOp .eql t (.bool p) (.bool q) = (Op.equalIn (9999 + 1) t (.bool p) (.bool q) >>= fun r => pure (.bool r)) := rfl
  rw [h, Sem.run_bind, run_equalIn_bool _ _ _ _ _ hu]
  rfl
theorem run_neq_bool {t : TypeId} {p q : Bool} {w : World} (hu : P.underlying t = some .bool) : (binOp .neq t (.bool p) (.bool q)).run P w = .ok (.bool (!(p == q))) w := by
  have h : binOp .neq t (.bool p) (.bool q) = (Op.equalIn (9999 + 1) t (.bool p) (.bool q) >>= fun r => pure (.bool (!r))) := rfl
  rw [h, Sem.run_bind, run_equalIn_bool _ _ _ _ _ hu]
  rfl
theorem ok_eql_bool {t u : TypeId} {x y : Operand} {p q : Bool} (ho : o.op = .binOp .eql t x y u) (hx : fr.ev x = some (.pv (.val (.bool p)))) (hy : fr.ev y = some (.pv (.val (.bool q))))
    (hu : P.underlying t = some .bool) : OkV P c R1 o fr σ (.pv (.val (.bool (p == q)))) :=
  fun ρ w a h => ⟨_, fun _ _ => by simp only [execOp, ho, ev_val h hx, ev_val h hy, Sem.run_bind, run_eqGuard_bool, Result.andThen_ok, run_eql_bool hu]; rfl, mkVal _⟩
theorem ok_neq_bool {t u : TypeId} {x y : Operand} {p q : Bool} (ho : o.op = .binOp .neq t x y u) (hx : fr.ev x = some (.pv (.val (.bool p)))) (hy : fr.ev y = some (.pv (.val (.bool q))))
    (hu : P.underlying t = some .bool) : OkV P c R1 o fr σ (.pv (.val (.bool (!(p == q))))) :=
  fun ρ w a h => ⟨_, fun _ _ => by simp only [execOp, ho, ev_val h hx, ev_val h hy, Sem.run_bind, run_eqGuard_bool, Result.andThen_ok, run_neq_bool hu]; rfl, mkVal _⟩
theorem ok_not {t : TypeId} {x : Operand} {p : Bool} (ho : o.op = .unOp .not t x) (hx : fr.ev x = some (.pv (.val (.bool p)))) : OkV P c R1 o fr σ (.pv (.val (.bool (!p)))) :=
  fun ρ w a h => ⟨_, fun _ _ => by simp [execOp, ho, ev_val h hx, Op.unary], mkVal _⟩
theorem ok_neg {t : TypeId} {x : Operand} {k : IntKind} {n : Int} (ho : o.op = .unOp .neg t x) (hx : fr.ev x = some (.pv (.val (.int k n)))) : OkV P c R1 o fr σ (.pv (.val (.int k (k.wrap (0 - n))))) :=
  fun ρ w a h => ⟨_, fun _ _ => by simp [execOp, ho, ev_val h hx, Op.unary, Op.intArith], mkVal _⟩
theorem ok_conv_int {s t : TypeId} {x : Operand} {k k' : IntKind} {n : Int} (ho : o.op = .convert s t x) (hx : fr.ev x = some (.pv (.val (.int k n)))) (hs : ∃ d, P.underlying s = some d) (hu : P.underlying t = some (.int k')) :
    OkV P c R1 o fr σ (.pv (.val (.int k' (k'.wrap n)))) := by
  obtain ⟨d, hd⟩ := hs
  refine fun ρ w a h => ⟨.int k' (k'.wrap n), fun w2 _ => ?_, mkVal _⟩
  simp only [execOp, ho, ev_val h hx, convert, Sem.run_bind, run_underlying hd, run_underlying hu, Result.andThen_ok, Conv.intToInt]
  rfl
theorem RepI.inv_seq {F : Nat → Prop} {ρ : Loc} {w : World} {els : List (List PV)} {v : Value} (h : RepI F ρ σ w (.pv (.seq els)) v) : RepP (owned F ρ) w (.seq els) v := by
  cases h; assumption
theorem RepI.inv_ept {F : Nat → Prop} {ρ : Loc} {w : World} {cs : List PV} {off : Nat} {v : Value} (h : RepI F ρ σ w (.pv (.ept cs off)) v) : RepP (owned F ρ) w (.ept cs off) v := by
  cases h; assumption
theorem run_sizeOf {t : TypeId} {n : Nat} (h : (P.info? t).map (·.size) = some n) (w : World) : (sizeOf t).run P w = .ok n w := by
  cases hq : P.info? t with
  | none => simp [hq] at h
  | some i => simp [hq] at h; simp [sizeOf, typeInfo, hq, h]
theorem ok_index_seq {t e : TypeId} {x y : Operand} {els : List (List PV)} {el : List PV} {k : IntKind} {m : Int} {i : Nat} (ho : o.op = .indexAddr t x y) (hx : fr.ev x = some (.pv (.seq els))) (hy : fr.ev y = some (.pv (.val (.int k m))))
    (hu : P.underlying t = some (.slice e)) (hi : els[i]? = some el) {s : Nat} (he' : (P.info? e).map (·.size) = some s) (hs : el.length = s) (hm : m = i) : OkV P c R1 o fr σ (.pv (.ept el 0)) := by
  subst hm
  refine fun ρ w a h => ?_
  have he : (P.info? e).map (·.size) = some el.length := hs ▸ he'
  have hr := (h.ev hx).inv_seq
  have hlt : i < els.length := (List.getElem?_eq_some_iff.1 hi).1
  generalize hv : a.eval x = v at hr
  cases hr with
  | seq _ ad cap b off u ha hb hl hm hc hr =>
    have hne : els ≠ [] := by intro h0; simp [h0] at hlt
    obtain rfl := ha hne
    refine ⟨.pointer (some ⟨b, off + i * el.length, none⟩), fun w2 _ => ?_, .pv _ _ (.ept el 0 b (off + i * el.length) (u i) (hb hne) (fun j z hj => hc i el hi j z hj) (fun j z hj => hr i el hi j z hj))⟩
    simp [execOp, ho, hv, ev_val h hy, Instr.indexAt, Sem.run_bind, asIntOf, run_underlying hu, hlt, run_sizeOf he, Addr.add_mid]
def FieldOk (P : Program) (t : TypeId) (f off : Nat) : Prop := ∃ fs fd s, P.underlying t = some (.struct fs) ∧ fs[f]? = some fd ∧ fd.offset = off ∧ (P.info? fd.type).map (·.size) = some (s + 1)
theorem ok_field_ept {t : TypeId} {x : Operand} {f fo : Nat} {cs : List PV} {off : Nat} (ho : o.op = .fieldAddr t x f) (hx : fr.ev x = some (.pv (.ept cs off)))
    (hfo : FieldOk P t f fo) : OkV P c R1 o fr σ (.pv (.ept cs (off + fo))) := by
  refine fun ρ w a h => ?_
  obtain ⟨fs, fd, s, hu, hf, rfl, hs⟩ := hfo
  have hr := (h.ev hx).inv_ept
  generalize hv : a.eval x = v at hr
  cases hr with
  | ept _ _ b o' u hb hc hr =>
    refine ⟨.pointer (some ⟨b, o' + (off + fd.offset), none⟩), fun w2 _ => ?_, .pv _ _ (.ept cs _ b o' u hb hc hr)⟩
    simp [execOp, ho, hv, Instr.fieldAt, Sem.run_bind, run_underlying hu, hf, Instr.sureAddr, fieldPlace, run_sizeOf hs, Addr.add_mid, Nat.add_assoc]
theorem run_isAgg {t : TypeId} {d : TypeDesc} (hu : P.underlying t = some d) (w : World) : (isAgg t).run P w = .ok d.isRow w := by
  unfold isAgg
  rw [Sem.run_bind, run_underlying hu w]
  cases d <;> simp
theorem ok_load_ept {t : TypeId} {x : Operand} {d : TypeDesc} {cs : List PV} {off : Nat} {z : PV} (ho : o.op = .load t x) (hx : fr.ev x = some (.pv (.ept cs off)))
    (hu : P.underlying t = some d) (hd : d.isRow = false) (hz : cs[off]? = some z) : OkV P c R1 o fr σ (.pv z) := by
  refine fun ρ w a h => ?_
  have hr := (h.ev hx).inv_ept
  generalize hv : a.eval x = v at hr
  cases hr with
  | ept _ _ b o' u hb hc hr =>
    refine ⟨u off, fun w2 h2 => ?_, .pv _ _ (hr off z hz)⟩
    have hcell : w2.cell? ⟨b, o' + off, none⟩ = some (u off) := (World.cell?_of_block (a := ⟨b, o' + off, none⟩) (h2 b hb.2 (.inl hb.1))).trans (hc off z hz)
    simp [execOp, ho, hv, Instr.loadAt, Instr.sureAddr, loadVar, Sem.run_bind, run_isAgg hu, hd, run_load, hcell]
theorem ok_load_ept_agg {t : TypeId} {x : Operand} {d : TypeDesc} {cs : List PV} {off n : Nat} (ho : o.op = .load t x) (hx : fr.ev x = some (.pv (.ept cs off)))
    (hu : P.underlying t = some d) (hd : d.isRow = true) (hs : (P.info? t).map (·.size) = some n) (hn : off + n ≤ cs.length) : OkV P c R1 o fr σ (.pv (.agg ((cs.drop off).take n))) := by
  refine fun ρ w a h => ?_
  have hr := (h.ev hx).inv_ept
  generalize hv : a.eval x = v at hr
  cases hr with
  | ept _ _ b o' u hb hc hr =>
    have hlen : (((List.range n).map fun j => u (off + j)) : List Value).length = n := by simp
    have hrow : ∀ w2, SameFor c.F R1 ρ w w2 → w2.rangeAt b (o' + off) ((List.range n).map fun j => u (off + j)) := by
      intro w2 h2 j v' hj
      have hjn : j < n := by have := (List.getElem?_eq_some_iff.1 hj).1; simpa using this
      have hv' : v' = u (off + j) := by simpa [hjn] using hj.symm
      have hcs : cs[off + j]? = some (cs[off + j]'(by omega)) := List.getElem?_eq_getElem (by omega)
      rw [hv', Nat.add_assoc]
      exact (World.cell?_of_block (a := ⟨b, _, none⟩) (h2 b hb.2 (.inl hb.1))).trans (hc (off + j) _ hcs)
    refine ⟨_, fun w2 h2 => by simp only [execOp, ho, hv, Sem.run_bind, run_loadAt_mid (P := P) w2 b (o' + off) t _ d (hrow w2 h2) hu hd (by rw [hlen]; exact hs)]; rfl, .pv _ _ (.agg _ _ (fun j => u (off + j)) ?_ ?_ ?_)⟩
    ·simp; omega
    ·intro j z hj
     have hjn : j < n := by have := (List.getElem?_eq_some_iff.1 hj).1; simp at this; omega
     simp [hjn]
    intro j z hj
    rw [List.getElem?_take] at hj
    split at hj
    ·rw [List.getElem?_drop] at hj; exact hr _ z hj
    cases hj
theorem ok_len_seq {t : TypeId} {x : Operand} {e : TypeId} {els : List (List PV)} (ho : o.op = .call { callee := .builtin .len, args := #[x], argTypes := #[t] }) (hx : fr.ev x = some (.pv (.seq els)))
    (hu : P.underlying t = some (.slice e)) {n : Nat} (hn : els.length = n) : OkV P c R1 o fr σ (.pv (.val (.int .i64 n))) := by
  subst hn
  refine fun ρ w a h => ?_
  have hr := (h.ev hx).inv_seq
  generalize hv : a.eval x = v at hr
  cases hr with
  | seq _ ad cap b off u ha hb hl hm hc hr =>
    refine ⟨.int .i64 els.length, fun w2 _ => ?_, mkVal _⟩
    simp [execOp, ho, hv, resolve, Sem.run_bind, invoke, builtin, Builtin.len_, run_underlying hu, goInt]
end
section
variable {P : Program} {c : Cx} {R1 : Nat → Prop} {o : Oper} {fr : Fr} {σ : Heap'}
def bytesStr (ns : List Int) : ByteArray := ns.foldl (fun r n => r.push (UInt8.ofNat n.toNat)) ByteArray.empty
def asBytes : List (List PV) → Option (List Int)
  | [] => some []
  | [.val (.int .u8 n)] :: r => match asBytes r with
    | some l => some (n :: l)
    | none => none
  | _ => none
theorem asBytes_eq : ∀ {els : List (List PV)} {ns : List Int}, asBytes els = some ns → els = ns.map fun n => [.val (.int .u8 n)] := by
  intro els
  induction els with
  | nil => intro ns h; cases h; rfl
  | cons x r ih =>
    intro ns h
    unfold asBytes at h
    split at h
    ·rename_i h1; cases h1
    ·rename_i n r' h1
     cases h1
     split at h
     ·rename_i l hl
      cases h
      rw [ih hl]; rfl
     cases h
    cases h
theorem ok_conv_seq {s t e : TypeId} {x : Operand} {els : List (List PV)} {ns : List Int} (ho : o.op = .convert s t x) (hx : fr.ev x = some (.pv (.seq els))) (hn : asBytes els = some ns)
    (hs : P.underlying s = some (.slice e)) (he : P.underlying e = some (.int .u8)) (hd : P.underlying t = some .string) : OkV P c R1 o fr σ (.pv (.val (.string (bytesStr ns)))) := by
  have hels := asBytes_eq hn
  refine fun ρ w a h => ?_
  have hr := (h.ev hx).inv_seq
  generalize hv : a.eval x = v at hr
  cases hr with
  | seq _ ad cap b off u ha hb hl hm hc hrp =>
    refine ⟨.string (bytesStr ns), fun w2 h2 => ?_, mkVal _⟩
    have hlen : els.length = (ns.map (Value.int .u8)).length := by rw [hels]; simp
    simp only [execOp, ho, hv, Sem.run_bind]
    rw [run_convert_bytes_string w2 s t e ad els.length cap hs he hd]
    cases ad with
    | none =>
      have h0 : els = [] := Classical.byContradiction fun hne => by cases ha hne
      have hn0 : ns = [] := by rw [h0] at hels; cases ns with | nil => rfl | cons _ _ => cases hels
      subst hn0
      rfl
    | some ad =>
      have hload : (loadCells ad els.length).run P w2 = .ok (ns.map (Value.int .u8)).toArray w2 := by
        rw [hlen]
        refine run_loadCells_list w2 ad _ fun j v hj => ?_
        rw [List.getElem?_map] at hj
        obtain ⟨n, hn1, rfl⟩ := Option.map_eq_some_iff.1 hj
        have hej : els[j]? = some [.val (.int .u8 n)] := by rw [hels, List.getElem?_map, hn1]; rfl
        have hne : els ≠ [] := fun e => by rw [e] at hej; cases hej
        have hc2 := hc j _ hej 0 _ rfl
        have hr2 := hrp j _ hej 0 _ rfl
        have hu : u j 0 = .int .u8 n := by
          generalize u j 0 = q at hr2
          cases hr2
          rfl
        rw [hu] at hc2
        cases ha hne
        have hcell := (World.cell?_of_block (a := ⟨b, off + j * 1 + 0, none⟩) (h2 b (hb hne).2 (.inl (hb hne).1))).trans hc2
        rw [show (⟨b, off, none⟩ : Addr).add j = ⟨b, off + j, none⟩ by cases j <;> simp [Addr.add]]
        simpa using hcell
      rw [run_bytesToString w2 ad els.length cap ns hload]
      rfl
end
abbrev Hp := List (Nat × Option HO)
def look : Hp → Nat → Option HO
  | [], _ => none
  | (k, o) :: r, j => bif Nat.beq k j then o else look r j
theorem beq_ne {k j : Nat} (h : k ≠ j) : Nat.beq k j = false := by
  cases hb : Nat.beq k j with
  | true => exact absurd (Nat.eq_of_beq_eq_true hb) h
  | false => rfl
theorem look_hd {k : Nat} {o : Option HO} {r : Hp} : look ((k, o) :: r) k = o := by simp [look]
theorem look_tl {k j : Nat} {o x : Option HO} {r : Hp} (h : k ≠ j) (hr : look r j = x) : look ((k, o) :: r) j = x := by simp [look, beq_ne h, hr]
theorem look_ne {k j : Nat} {o : Option HO} {r : Hp} (h : k ≠ j) : look ((k, o) :: r) j = look r j := look_tl h rfl
def locUpd (ρ : Loc) (k : Nat) (l : Option (Nat × Nat)) : Loc := fun j => bif Nat.beq k j then l else ρ j
theorem locUpd_same {ρ : Loc} {k : Nat} {l : Option (Nat × Nat)} : locUpd ρ k l k = l := by simp [locUpd]
theorem locUpd_ne {ρ : Loc} {k j : Nat} {l : Option (Nat × Nat)} (h : k ≠ j) : locUpd ρ k l j = ρ j := by simp [locUpd, beq_ne h]
theorem Names.imp {P Q : Nat → Prop} {x : IV} (h : Names P x) (hi : ∀ k, P k → Q k) : Names Q x := by
  induction h with
  | ptr h => exact .ptr (hi _ h)
  | sl h => exact .sl (hi _ h)
  | rpt h => exact .rpt (hi _ h)
  | bs h => exact .bs (hi _ h)
  | mp h => exact .mp (hi _ h)
  | tnil h => exact .tnil (hi _ h)
  | agg hc _ ih => exact .agg hc ih
  | tup hc _ ih => exact .tup hc ih
  | fn1 hc _ ih => exact .fn1 hc ih
  | fn2 hc _ ih => exact .fn2 hc ih
theorem Names.some {P : Nat → Prop} {x : IV} (h : Names P x) : ∃ k, P k := by
  induction h with
  | ptr h => exact ⟨_, h⟩
  | sl h => exact ⟨_, h⟩
  | rpt h => exact ⟨_, h⟩
  | bs h => exact ⟨_, h⟩
  | mp h => exact ⟨_, h⟩
  | tnil h => exact ⟨_, h⟩
  | agg _ _ ih => exact ih
  | tup _ _ ih => exact ih
  | fn1 _ _ ih => exact ih
  | fn2 _ _ ih => exact ih
def HO.has (o : HO) (x : IV) : Prop := ∃ cs, o = .box cs ∧ x ∈ cs
theorem RepO.keep {F R : Nat → Prop} {ρ ρ' : Loc} {σ σ' : Heap'} {w w' : World} (t : Trans F R ρ σ w ρ' σ' w') {b c : Nat} {o : HO} (h : RepO F ρ σ w b c o) (hb : w'.heap[b]? = w.heap[b]?)
    (hn : ∀ x, o.has x → ¬ Names (fun k => σ k = none ∧ σ' k ≠ none) x) : RepO F ρ' σ' w' b c o := by
  cases h with
  | box cs e a u h hl hv hr => exact .box cs e a u (hb.trans h) hl hv fun j x hj => (hr j x hj).trans' t (hn x ⟨cs, rfl, List.mem_of_getElem? hj⟩)
  | row s els a u h hs hl hm hw hv hr => exact .row s els a u (hb.trans h) hs hl hm hw hv fun i el hi j x hj => (hr i el hi j x hj).trans' t
  | map es a t' u h hl hv hr => exact .map es a t' u (hb.trans h) hl hv fun i k p hi => (hr i k p hi).trans' t
def HO.fits : HO → HO → Prop
  | .box _, .box _ => True
  | .row s els, .row s' els' => s = s' ∧ els.length ≤ els'.length
  | .map _, .map _ => True
  | _, _ => False
theorem All.write {c : Cx} {ρ : Loc} {hp : Hp} {w w' : World} {fr : Fr} {a : Act} {k b cc : Nat} {o o' : HO} (h : All c ρ (look hp) w fr a) (hk : ρ k = some (b, cc)) (hσ : look hp k = some o) (hf : o.fits o') (hR : ¬ c.R k)
    (hos : w'.os = w.os) (ht : w'.tape = w.tape) (hout : w'.output = w.output) (hsz : w'.heap.size = w.heap.size) (hblk : ∀ j, j ≠ b → w'.heap[j]? = w.heap[j]?)
    (ho' : (∀ x v, RepI c.F ρ (look hp) w x v → RepI c.F ρ (look ((k, some o') :: hp)) w' x v) → (∀ x v, RepP (owned c.F ρ) w x v → RepP (owned c.F ρ) w' x v) → RepO c.F ρ (look ((k, some o') :: hp)) w' b cc o') :
    All c ρ (look ((k, some o') :: hp)) w' fr a := by
  have hlk : ∀ j, j ≠ k → look ((k, some o') :: hp) j = look hp j := fun j hj => look_ne (Ne.symm hj)
  have hlk' : look ((k, some o') :: hp) k = some o' := look_hd
  have t : Trans c.F (· ≠ k) ρ (look hp) w ρ (look ((k, some o') :: hp)) w' := by
    refine ⟨hos, ht, hout, by omega, fun j hj hall => hblk j fun e => ?_, fun _ _ _ h' _ => h', fun _ _ _ _ _ => rfl, fun _ _ _ _ _ => rfl, fun _ _ _ _ _ _ _ _ => rfl, ?_, ?_, ?_, ?_⟩
    ·exact hall k cc (e ▸ hk) rfl
    ·intro j s s' els els' h1 h2
     by_cases e : j = k
     ·subst e
      rw [hσ] at h1; rw [hlk'] at h2
      cases h1; cases h2
      exact hf.2
     rw [hlk j e, h1] at h2; cases h2; exact Nat.le_refl _
    ·intro j cs' h2
     by_cases e : j = k
     ·subst e
      rw [hlk'] at h2; cases h2
      cases o with
      | box cs => exact .inr ⟨cs, hσ⟩
      | row => exact hf.elim
      | map => exact hf.elim
     rw [hlk j e] at h2; exact .inr ⟨_, h2⟩
    ·intro j cs' h2
     by_cases e : j = k
     ·subst e
      rw [hlk'] at h2; cases h2
      cases o with
      | map cs => exact .inr ⟨cs, hσ⟩
      | row => exact hf.elim
      | box => exact hf.elim
     rw [hlk j e] at h2; exact .inr ⟨_, h2⟩
    intro j s cs' h2
    by_cases e : j = k
    ·subst e
     rw [hlk'] at h2; cases h2
     cases o with
     | row s' cs => obtain ⟨rfl, _⟩ := hf; exact .inr ⟨cs, hσ⟩
     | map => exact hf.elim
     | box => exact hf.elim
    rw [hlk j e] at h2; exact .inr ⟨_, h2⟩
  have hnone : ∀ j, ¬ (look hp j = none ∧ look ((k, some o') :: hp) j ≠ none) := fun j hj => by
    by_cases e : j = k
    ·subst e; rw [hσ] at hj; cases hj.1
    rw [hlk j e] at hj; exact hj.2 hj.1
  have hnn : ∀ x, ¬ Names (fun j => look hp j = none ∧ look ((k, some o') :: hp) j ≠ none) x := fun x hx => by
    obtain ⟨j, hj⟩ := hx.some
    exact hnone j hj
  refine h.step t (fun j hj e => hR (e ▸ hj)) ⟨h.rel.inj, h.rel.apart, fun b hb => by rw [hsz]; exact h.rel.old b hb, fun j b' c' hj => ?_, fun j o1 h1 h2 => ?_⟩ (fun j h1 h2 => absurd ⟨h1, h2⟩ (hnone j)) fun _ x _ => hnn x
  ·by_cases e : j = k
   ·subst e
    rw [hk] at hj; cases hj
    exact ⟨o', hlk', ho' (fun x v hx => hx.trans' t (hnn x)) fun x v hx => hx.trans' t⟩
   obtain ⟨o1, h1, h2⟩ := h.rel.obj j b' c' hj
   refine ⟨o1, (hlk j e).trans h1, h2.keep t (hblk b' fun e' => e ?_) fun x _ => hnn x⟩
   subst e'
   exact h.rel.inj _ _ _ _ _ hj hk
  by_cases e : j = k
  ·subst e; rw [hk] at h2; cases h2
  rw [hlk j e] at h1; exact h.rel.real j o1 h1 h2
def nm (k : Nat) : IV → Bool
  | .pv _ => false
  | .ptr j _ => Nat.beq k j
  | .sl j _ => Nat.beq k j
  | .rpt j _ _ => Nat.beq k j
  | .bs j _ => Nat.beq k j
  | .mp j => Nat.beq k j
  | .tnil j _ => Nat.beq k j
  | .agg cs => nms k cs
  | .tup cs => nms k cs
  | .fn _ xs ys => nms k xs || nms k ys
where nms (k : Nat) : List IV → Bool
  | [] => false
  | x :: r => nm k x || nms k r
theorem nms_mem {k : Nat} : ∀ {l : List IV} {x : IV}, nm.nms k l = false → x ∈ l → nm k x = false
  | y :: r, x, h, hx => by
    simp only [nm.nms, Bool.or_eq_false_iff] at h
    rcases List.mem_cons.1 hx with rfl | hx
    ·exact h.1
    exact nms_mem h.2 hx
theorem nm_names {k : Nat} {x : IV} (h : Names (· = k) x) : nm k x = true := by
  induction h with
  | ptr h => subst h; exact Nat.beq_refl _
  | sl h => subst h; exact Nat.beq_refl _
  | rpt h => subst h; exact Nat.beq_refl _
  | bs h => subst h; exact Nat.beq_refl _
  | mp h => subst h; exact Nat.beq_refl _
  | tnil h => subst h; exact Nat.beq_refl _
  | agg hc _ ih =>
    cases hb : nm k (.agg _) with
    | true => rfl
    | false => simp only [nm] at hb; rw [nms_mem hb hc] at ih; cases ih
  | tup hc _ ih =>
    cases hb : nm k (.tup _) with
    | true => rfl
    | false => simp only [nm] at hb; rw [nms_mem hb hc] at ih; cases ih
  | fn1 hc _ ih =>
    cases hb : nm k (.fn _ _ _) with
    | true => rfl
    | false => simp only [nm, Bool.or_eq_false_iff] at hb; rw [nms_mem hb.1 hc] at ih; cases ih
  | fn2 hc _ ih =>
    cases hb : nm k (.fn _ _ _) with
    | true => rfl
    | false => simp only [nm, Bool.or_eq_false_iff] at hb; rw [nms_mem hb.2 hc] at ih; cases ih
def nmFr (k : Nat) : Fr → Bool
  | [] => false
  | (_, x) :: r => nm k x || nmFr k r
def nmHp (k : Nat) : Hp → Bool
  | [] => false
  | (_, some (.box cs)) :: r => nm.nms k cs || nmHp k r
  | (_, _) :: r => nmHp k r
theorem nmFr_get {k : Nat} : ∀ {fr : Fr} {t : Nat} {x : IV}, nmFr k fr = false → fr.get t = some x → nm k x = false
  | (j, y) :: r, t, x, h, hx => by
    simp only [nmFr, Bool.or_eq_false_iff] at h
    simp only [Fr.get] at hx
    cases hb : Nat.beq j t with
    | true => rw [hb] at hx; cases hx; exact h.1
    | false => rw [hb] at hx; exact nmFr_get h.2 hx
theorem nmHp_look {k : Nat} : ∀ {hp : Hp} {j : Nat} {cs : List IV}, nmHp k hp = false → look hp j = some (.box cs) → nm.nms k cs = false
  | (i, o) :: r, j, cs, h, hx => by
    simp only [look] at hx
    cases hb : Nat.beq i j with
    | true =>
      rw [hb] at hx
      simp only [cond_true] at hx
      subst hx
      simp only [nmHp, Bool.or_eq_false_iff] at h
      exact h.1
    | false =>
      rw [hb] at hx
      refine nmHp_look (j := j) ?_ hx
      cases o with
      | none => simpa [nmHp] using h
      | some o => cases o <;> simp_all [nmHp]
theorem All.alloc {c : Cx} {ρ : Loc} {hp : Hp} {w : World} {fr : Fr} {a : Act} {k : Nat} (h : All c ρ (look hp) w fr a) (hσ : look hp k = none) (hc : c.σ k = none) (hfr : nmFr k fr = false) (hhp : nmHp k hp = false)
    (cc : Nat) (o : HO) (ob : Obj)
    (ho : (∀ x v, RepI c.F ρ (look hp) w x v → nm k x = false → RepI c.F (locUpd ρ k (some (w.heap.size, cc))) (look ((k, some o) :: hp)) (w.alloc ob) x v) →
      (∀ x v, RepP (owned c.F ρ) w x v → RepP (owned c.F (locUpd ρ k (some (w.heap.size, cc)))) (w.alloc ob) x v) →
      RepO c.F (locUpd ρ k (some (w.heap.size, cc))) (look ((k, some o) :: hp)) (w.alloc ob) w.heap.size cc o) :
    All c (locUpd ρ k (some (w.heap.size, cc))) (look ((k, some o) :: hp)) (w.alloc ob) fr a := by
  have hlk : ∀ j, j ≠ k → look ((k, some o) :: hp) j = look hp j := fun j hj => look_ne (Ne.symm hj)
  have hlk' : look ((k, some o) :: hp) k = some o := look_hd
  have hρ : ∀ j, j ≠ k → locUpd ρ k (some (w.heap.size, cc)) j = ρ j := fun j hj => locUpd_ne (Ne.symm hj)
  have hρk : ρ k = none := by
    cases hk : ρ k with
    | none => rfl
    | some l => obtain ⟨o', h', _⟩ := h.rel.obj k l.1 l.2 hk; rw [hσ] at h'; cases h'
  have hheap : ∀ j, j < w.heap.size → (w.alloc ob).heap[j]? = w.heap[j]? := fun j hj => by
    show (w.heap.push ob)[j]? = _
    rw [Array.getElem?_push, if_neg (by omega)]
  have hne : ∀ j x, look hp j = some x → j ≠ k := fun j x hj e => by subst e; rw [hσ] at hj; cases hj
  have t : Trans c.F (fun _ => True) ρ (look hp) w (locUpd ρ k (some (w.heap.size, cc))) (look ((k, some o) :: hp)) (w.alloc ob) := by
    refine ⟨rfl, rfl, rfl, by simp, fun j hj _ => hheap j hj, ?_, fun j _ _ h1 _ => hρ j (hne _ _ h1), fun j _ _ h1 _ => hρ j (hne _ _ h1), fun j _ _ _ _ h1 _ _ => hρ j (hne _ _ h1), ?_, ?_, ?_, ?_⟩
    ·intro j b c' hj hb
     by_cases e : j = k
     ·subst e; rw [locUpd_same] at hj; cases hj; omega
     rwa [hρ j e] at hj
    ·intro j s s' els els' h1 h2
     rw [hlk j (hne _ _ h1), h1] at h2
     cases h2; exact Nat.le_refl _
    all_goals intro j
    ·intro cs h2
     by_cases e : j = k
     ·subst e; exact .inl hσ
     rw [hlk j e] at h2; exact .inr ⟨_, h2⟩
    ·intro cs h2
     by_cases e : j = k
     ·subst e; exact .inl hσ
     rw [hlk j e] at h2; exact .inr ⟨_, h2⟩
    intro s cs h2
    by_cases e : j = k
    ·subst e; exact .inl hσ
    rw [hlk j e] at h2; exact .inr ⟨_, h2⟩
  have hnew : ∀ j, look hp j = none ∧ look ((k, some o) :: hp) j ≠ none → j = k := fun j hj => Classical.byContradiction fun e => hj.2 ((hlk j e).trans hj.1)
  have hnn : ∀ x, nm k x = false → ¬ Names (fun j => look hp j = none ∧ look ((k, some o) :: hp) j ≠ none) x := fun x hx hn => by
    rw [nm_names (hn.imp hnew)] at hx; cases hx
  refine h.step t (fun _ _ => trivial) ⟨?_, ?_, fun b hb => Nat.lt_of_lt_of_le (h.rel.old b hb) (by simp), fun j b' c' hj => ?_, fun j o1 h1 h2 => ?_⟩ (fun j h1 h2 => hnew j ⟨h1, h2⟩ ▸ hc) fun t x hx => hnn x (nmFr_get hfr hx)
  ·intro j j' b c1 c2 h1 h2
   by_cases e : j = k <;> by_cases e' : j' = k
   ·rw [e, e']
   ·subst e
    rw [locUpd_same] at h1; rw [hρ j' e'] at h2
    cases h1
    have := h.rel.lt h2; omega
   ·subst e'
    rw [locUpd_same] at h2; rw [hρ j e] at h1
    cases h2
    have := h.rel.lt h1; omega
   rw [hρ j e] at h1; rw [hρ j' e'] at h2
   exact h.rel.inj _ _ _ _ _ h1 h2
  ·intro j b c1 h1 hF
   by_cases e : j = k
   ·subst e
    rw [locUpd_same] at h1; cases h1
    have := h.rel.old _ hF; omega
   rw [hρ j e] at h1; exact h.rel.apart _ _ _ h1 hF
  ·by_cases e : j = k
   ·subst e
    rw [locUpd_same] at hj; cases hj
    exact ⟨o, hlk', ho (fun x v hx hk => hx.trans' t (hnn x hk)) fun x v hx => hx.trans' t⟩
   rw [hρ j e] at hj
   obtain ⟨o1, h1, h2⟩ := h.rel.obj j b' c' hj
   refine ⟨o1, (hlk j e).trans h1, h2.keep t (hheap b' h2.lt) fun x ⟨cs, h3, h4⟩ => hnn x ?_⟩
   subst h3
   exact nms_mem (nmHp_look hhp h1) h4
  by_cases e : j = k
  ·subst e; rw [locUpd_same] at h2; cases h2
  rw [hlk j e] at h1; rw [hρ j e] at h2; exact h.rel.real j o1 h1 h2
theorem All.drop {c : Cx} {ρ : Loc} {hp : Hp} {w : World} {fr : Fr} {a : Act} {k : Nat} (h : All c ρ (look hp) w fr a) : All c (locUpd ρ k none) (look ((k, none) :: hp)) w fr a := by
  have hlk : ∀ j, j ≠ k → look ((k, none) :: hp) j = look hp j := fun j hj => look_ne (Ne.symm hj)
  have hlk' : look ((k, none) :: hp) k = none := look_hd
  have hρ : ∀ j, j ≠ k → locUpd ρ k none j = ρ j := fun j hj => locUpd_ne (Ne.symm hj)
  have hne : ∀ j x, look ((k, none) :: hp) j = some x → j ≠ k := fun j x hj e => by subst e; rw [hlk'] at hj; cases hj
  have t : Trans c.F (fun _ => True) ρ (look hp) w (locUpd ρ k none) (look ((k, none) :: hp)) w := by
    refine ⟨rfl, rfl, rfl, Nat.le_refl _, fun j hj _ => rfl, ?_, fun j _ _ _ h1 => hρ j (hne _ _ h1), fun j _ _ _ h1 => hρ j (hne _ _ h1), fun j _ _ _ _ _ h1 _ => hρ j (hne _ _ h1), ?_, ?_, ?_, ?_⟩
    ·intro j b c' hj hb
     by_cases e : j = k
     ·subst e; rw [locUpd_same] at hj; cases hj
     rwa [hρ j e] at hj
    ·intro j s s' els els' h1 h2
     rw [hlk j (hne _ _ h2), h1] at h2
     cases h2; exact Nat.le_refl _
    all_goals intro j
    ·intro cs h2
     rw [hlk j (hne _ _ h2)] at h2; exact .inr ⟨_, h2⟩
    ·intro cs h2
     rw [hlk j (hne _ _ h2)] at h2; exact .inr ⟨_, h2⟩
    intro s cs h2
    rw [hlk j (hne _ _ h2)] at h2; exact .inr ⟨_, h2⟩
  have hnone : ∀ j, ¬ (look hp j = none ∧ look ((k, none) :: hp) j ≠ none) := fun j hj => by
    by_cases e : j = k
    ·subst e; exact hj.2 hlk'
    rw [hlk j e] at hj; exact hj.2 hj.1
  have hnn : ∀ x, ¬ Names (fun j => look hp j = none ∧ look ((k, none) :: hp) j ≠ none) x := fun x hx => by
    obtain ⟨j, hj⟩ := hx.some
    exact hnone j hj
  refine h.step t (fun _ _ => trivial) ⟨?_, ?_, h.rel.old, fun j b' c' hj => ?_, fun j o1 h1 h2 => ?_⟩ (fun j h1 h2 => absurd ⟨h1, h2⟩ (hnone j)) fun _ x _ => hnn x
  ·intro j j' b c1 c2 h1 h2
   by_cases e : j = k
   ·subst e; rw [locUpd_same] at h1; cases h1
   by_cases e' : j' = k
   ·subst e'; rw [locUpd_same] at h2; cases h2
   rw [hρ j e] at h1; rw [hρ j' e'] at h2
   exact h.rel.inj _ _ _ _ _ h1 h2
  ·intro j b c1 h1 hF
   by_cases e : j = k
   ·subst e; rw [locUpd_same] at h1; cases h1
   rw [hρ j e] at h1; exact h.rel.apart _ _ _ h1 hF
  ·by_cases e : j = k
   ·subst e; rw [locUpd_same] at hj; cases hj
   rw [hρ j e] at hj
   obtain ⟨o1, h1, h2⟩ := h.rel.obj j b' c' hj
   exact ⟨o1, (hlk j e).trans h1, h2.keep t rfl fun x _ => hnn x⟩
  have e := hne _ _ h1
  rw [hlk j e] at h1; rw [hρ j e] at h2; exact h.rel.real j o1 h1 h2
section
variable {P : Program} {c : Cx} {R1 : Nat → Prop} {o : Oper} {fr : Fr} {hp : Hp}
theorem RepO.inv_box {F : Nat → Prop} {ρ : Loc} {σ : Heap'} {w : World} {b cc : Nat} {cs : List IV} (h : RepO F ρ σ w b cc (.box cs)) :
    ∃ (e : TypeId) (a : Array Value) (u : Nat → Value), w.heap[b]? = some (.cells a e (0, 0)) ∧ cs.length ≤ a.size ∧ (∀ j x, cs[j]? = some x → a[j]? = some (u j)) ∧ ∀ j x, cs[j]? = some x → RepI F ρ σ w x (u j) := by
  cases h with
  | box _ e a u h hl hv hr => exact ⟨e, a, u, h, hl, hv, hr⟩
theorem All.box {ρ : Loc} {w : World} {a : Act} (h : All c ρ (look hp) w fr a) {x : Operand} {k off : Nat} {cs : List IV} (hx : fr.ev x = some (.ptr k off)) (hk : look hp k = some (.box cs)) :
    ∃ (b cc : Nat) (e : TypeId) (r : Array Value) (u : Nat → Value), a.eval x = .pointer (some ⟨b, off, none⟩) ∧ ρ k = some (b, cc) ∧ w.heap[b]? = some (.cells r e (0, 0)) ∧ cs.length ≤ r.size ∧ (∀ j x, cs[j]? = some x → r[j]? = some (u j)) ∧ ∀ j x, cs[j]? = some x → RepI c.F ρ (look hp) w x (u j) := by
  have hr := h.ev hx
  generalize hv : a.eval x = v at hr
  cases hr with
  | ptr _ _ _ hh =>
    obtain ⟨b, cc, hρ, rfl⟩ := hh cs hk
    obtain ⟨o1, h1, h2⟩ := h.rel.obj k b cc hρ
    rw [hk] at h1; cases h1
    obtain ⟨e, r, u, h3, h4, h5, h6⟩ := h2.inv_box
    exact ⟨b, cc, e, r, u, rfl, hρ, h3, h4, h5, h6⟩
theorem cell_at {w : World} {b : Nat} {r : Array Value} {e : TypeId} (h : w.heap[b]? = some (.cells r e (0, 0))) (j : Nat) : w.cell? ⟨b, j, none⟩ = r[j]? := by simp [World.cell?, h]
theorem ok_field_ptr {t : TypeId} {x : Operand} {f fo : Nat} {k off : Nat} {cs : List IV} (ho : o.op = .fieldAddr t x f) (hx : fr.ev x = some (.ptr k off)) (hk : look hp k = some (.box cs))
    (hfo : FieldOk P t f fo) : OkV P c R1 o fr (look hp) (.ptr k (off + fo)) := by
  refine fun ρ w a h => ?_
  obtain ⟨fs, fd, s, hu, hf, rfl, hs⟩ := hfo
  obtain ⟨b, cc, e, r, u, hv, hρ, h3, h4, h5, h6⟩ := h.box hx hk
  refine ⟨.pointer (some ⟨b, off + fd.offset, none⟩), fun w2 _ => ?_, .ptr _ _ _ fun cs' _ => ⟨b, cc, hρ, rfl⟩⟩
  simp [execOp, ho, hv, Instr.fieldAt, Sem.run_bind, run_underlying hu, hf, Instr.sureAddr, fieldPlace, run_sizeOf hs, Addr.add_mid]
theorem ok_load_box {t : TypeId} {x : Operand} {d : TypeDesc} {k off : Nat} {cs : List IV} {z : IV} (ho : o.op = .load t x) (hx : fr.ev x = some (.ptr k off)) (hk : look hp k = some (.box cs))
    (hu : P.underlying t = some d) (hd : d.isRow = false) (hz : cs[off]? = some z) (hR1 : R1 k) : OkV P c R1 o fr (look hp) z := by
  refine fun ρ w a h => ?_
  obtain ⟨b, cc, e, r, u, hv, hρ, h3, h4, h5, h6⟩ := h.box hx hk
  refine ⟨u off, fun w2 h2 => ?_, h6 off z hz⟩
  have h3' : w2.heap[b]? = some (.cells r e (0, 0)) := (h2 b (h.rel.lt hρ) (.inr ⟨k, cc, hR1, hρ⟩)).trans h3
  simp [execOp, ho, hv, Instr.loadAt, Instr.sureAddr, loadVar, Sem.run_bind, run_isAgg hu, hd, run_load, cell_at h3', h5 off z hz]
theorem range_rel {w : World} {b : Nat} {r : Array Value} {e : TypeId} (h : w.heap[b]? = some (.cells r e (0, 0))) (off n : Nat) : w.rangeAt b off ((r.toList.drop off).take n) := by
  intro j v hj
  rw [List.getElem?_take] at hj
  split at hj
  ·rw [List.getElem?_drop] at hj
   rw [cell_at h]
   simpa using hj
  cases hj
theorem ok_load_box_agg {t : TypeId} {x : Operand} {d : TypeDesc} {k off n : Nat} {cs : List IV} (ho : o.op = .load t x) (hx : fr.ev x = some (.ptr k off)) (hk : look hp k = some (.box cs))
    (hu : P.underlying t = some d) (hd : d.isRow = true) (hs : (P.info? t).map (·.size) = some n) (hn : off + n ≤ cs.length) (hR1 : R1 k) : OkV P c R1 o fr (look hp) (.agg ((cs.drop off).take n)) := by
  refine fun ρ w a h => ?_
  obtain ⟨b, cc, e, r, u, hv, hρ, h3, h4, h5, h6⟩ := h.box hx hk
  have hlen : ((r.toList.drop off).take n).length = n := by simp; omega
  refine ⟨_, fun w2 h2 => by simp only [execOp, ho, hv, Sem.run_bind, run_loadAt_mid (P := P) w2 b off t _ d (range_rel ((h2 b (h.rel.lt hρ) (.inr ⟨k, cc, hR1, hρ⟩)).trans h3) off n) hu hd (by rw [hlen]; exact hs)]; rfl, .agg _ _ (fun j => u (off + j)) ?_ ?_ ?_⟩
  ·simp; omega
  ·intro j z hj
   have hjn : j < n := by have := (List.getElem?_eq_some_iff.1 hj).1; simp at this; omega
   rw [List.getElem?_take, if_pos hjn, List.getElem?_drop] at hj
   have := h5 _ z hj
   simp [hjn]
   simpa using this
  intro j z hj
  rw [List.getElem?_take] at hj
  split at hj
  ·rw [List.getElem?_drop] at hj; exact h6 _ z hj
  cases hj
def purify : List IV → Option (List PV)
  | [] => some []
  | .pv p :: r => (purify r).map (p :: ·)
  | _ :: _ => none
theorem purify_get : ∀ {cs : List IV} {ps : List PV}, purify cs = some ps → ps.length = cs.length ∧ ∀ (j : Nat) (p : PV), ps[j]? = some p → cs[j]? = some (IV.pv p)
  | [], ps, h => by cases h; exact ⟨rfl, fun j p hj => by simp at hj⟩
  | .pv q :: r, ps, h => by
    simp only [purify, Option.map_eq_some_iff] at h
    obtain ⟨qs, hq, rfl⟩ := h
    obtain ⟨hl, hg⟩ := purify_get hq
    refine ⟨by simp [hl], fun j p hj => ?_⟩
    cases j with
    | zero => simpa using hj
    | succ j => exact hg j p (by simpa using hj)
  | .ptr .. :: _, _, h | .sl .. :: _, _, h | .rpt .. :: _, _, h | .bs .. :: _, _, h | .mp .. :: _, _, h | .agg .. :: _, _, h | .tup .. :: _, _, h | .fn .. :: _, _, h => by cases h
theorem RepI.purify {F : Nat → Prop} {ρ : Loc} {σ : Heap'} {w : World} {cs : List IV} {ps : List PV} {v : Value} (h : RepI F ρ σ w (.agg cs) v) (hp : purify cs = some ps) : RepI F ρ σ w (.pv (.agg ps)) v := by
  cases h with
  | agg _ vs u hl hv hr =>
    obtain ⟨h1, h2⟩ := purify_get hp
    refine .pv _ _ (.agg ps vs u (by omega) (fun j p hj => hv j _ (h2 j p hj)) fun j p hj => ?_)
    have := hr j _ (h2 j p hj)
    cases this; assumption
theorem OkV.sub {σ : Heap'} {x y : IV} (h : OkV P c R1 o fr σ x) (hs : ∀ F ρ w v, RepI F ρ σ w x v → RepI F ρ σ w y v) : OkV P c R1 o fr σ y :=
  fun ρ w a ha => let ⟨v, hr, hv⟩ := h ρ w a ha; ⟨v, hr, hs _ _ _ _ hv⟩
theorem ok_load_box_pure {t : TypeId} {x : Operand} {d : TypeDesc} {k off n : Nat} {cs : List IV} {ps : List PV} (ho : o.op = .load t x) (hx : fr.ev x = some (.ptr k off)) (hk : look hp k = some (.box cs))
    (hu : P.underlying t = some d) (hd : d.isRow = true) (hs : (P.info? t).map (·.size) = some n) (hn : off + n ≤ cs.length) (hps : purify ((cs.drop off).take n) = some ps) (hR1 : R1 k) : OkV P c R1 o fr (look hp) (.pv (.agg ps)) :=
  (ok_load_box_agg ho hx hk hu hd hs hn hR1).sub fun _ _ _ _ h => h.purify hps
def PV.one : PV → Bool
  | .val v => v.oneCell'
  | .agg _ => false
  | _ => true
theorem RepP.one {own : Nat → Prop} {w : World} {p : PV} {v : Value} (h : RepP own w p v) (hp : p.one = true) : v.oneCell' = true := by
  cases h <;> first | rfl | exact hp | cases hp
def IV.firm (σ : Heap') : IV → Prop
  | .pv p => p.one = true
  | .ptr k _ => ∃ cs, σ k = some (.box cs)
  | .sl k len => ∃ s els, σ k = some (.row s els) ∧ els.length = len
  | .rpt k len _ => ∃ s els, σ k = some (.row s els) ∧ els.length = len
  | .bs k _ => ∃ cs, σ k = some (.box cs)
  | .mp k => ∃ es, σ k = some (.map es)
  | .tnil _ _ => False
  | .agg _ => False
  | .tup _ => False
  | .fn .. => True
theorem RepI.one {F : Nat → Prop} {ρ : Loc} {σ : Heap'} {w : World} {x : IV} {v : Value} (h : RepI F ρ σ w x v) (hx : x.firm σ) : v.oneCell' = true := by
  cases h with
  | pv p v h => exact h.one hx
  | ptr k off v h => obtain ⟨cs, hk⟩ := hx; obtain ⟨b, cc, _, rfl⟩ := h cs hk; rfl
  | sl k len v h =>
    obtain ⟨s, els, hk, hl⟩ := hx
    rcases (h s els hk).2 hl with ⟨b, cc, _, rfl⟩ | ⟨_, _, rfl⟩ <;> rfl
  | rpt k len off v h => obtain ⟨s, els, hk, hl⟩ := hx; obtain ⟨b, cc, _, rfl⟩ := (h s els hk).2 hl; rfl
  | bs k n v h => obtain ⟨cs, hk⟩ := hx; obtain ⟨b, cc, _, cap, _, _, rfl⟩ := h cs hk; rfl
  | mp k v h => obtain ⟨es, hk⟩ := hx; obtain ⟨b, cc, _, rfl⟩ := h es hk; rfl
  | tnil => exact hx.elim
  | agg => exact hx.elim
  | tup => exact hx.elim
  | fn => rfl
theorem ok_skip {σ σ' : Heap'} (h : ∀ ρ w a, All c ρ σ w fr a → ∃ ρ' w', (execOp a.eval o).run P w = .ok .skip w' ∧ All c ρ' σ' w' fr a) : Ok P c o fr σ (.pv (.val undef)) σ' := by
  intro ρ w a K Q ha hK
  obtain ⟨ρ', w', hr, ha'⟩ := h ρ w a ha
  unfold Oper.wp
  rw [hr]
  have := hK ρ' w' undef ha' (mkVal _)
  show K (a.put o.dst undef) w'
  exact this
theorem ok_store_box {t : TypeId} {x y : Operand} {k off : Nat} {cs : List IV} {z : IV} (ho : o.op = .store t x y) (hx : fr.ev x = some (.ptr k off)) (hy : fr.ev y = some z) (hk : look hp k = some (.box cs))
    (hR : ¬ c.R k) (hs : (P.info? t).map (·.size) = some 1) (hz : z.firm (look hp)) (hoff : off < cs.length) : Ok P c o fr (look hp) (.pv (.val undef)) (look ((k, some (.box (cs.set off z))) :: hp)) := by
  refine ok_skip fun ρ w a h => ?_
  obtain ⟨b, cc, e, r, u, hv, hρ, h3, h4, h5, h6⟩ := h.box hx hk
  have hyv := h.ev hy
  have h1 := hyv.one hz
  generalize hvy : a.eval y = vy at hyv h1
  have hst : (storeVar t ⟨b, off, none⟩ vy).run P w = .ok () (w.setRow b (r.setIfInBounds off vy)) := by
    have hcells : vy.cells = #[vy] := by cases vy <;> first | rfl | cases h1
    have := run_storeCells_at P b off e [vy] 0 r w h3 (by simp; omega) (by simpa using h1)
    simp [storeVar, hcells, Sem.run_bind, run_sizeOf hs, this]
    congr 1
    apply Array.ext'
    simp only [Array.toList_setIfInBounds]
    rw [List.set_eq_take_append_cons_drop, if_pos (by simp; omega)]
  refine ⟨ρ, w.setRow b (r.setIfInBounds off vy), by simp [execOp, ho, hv, hvy, Instr.storeAt, Instr.sureAddr, hst], ?_⟩
  refine h.write hρ hk trivial hR rfl rfl rfl (by simp) (fun j hj => setRow_other w b j _ hj) fun keep _ => ?_
  refine .box _ e (r.setIfInBounds off vy) (fun j => if j = off then vy else u j) (setRow_heap w b r _ e _ h3) (by simp [h4]) (fun j x hj => ?_) (fun j x hj => ?_) (by have := h.rel.ty hk hρ h3; simpa using this)
  ·by_cases e1 : j = off
   ·subst e1; simp [show j < r.size by omega]
   rw [List.getElem?_set_ne (Ne.symm e1)] at hj
   simp [e1, Ne.symm e1, h5 j x hj]
  by_cases e1 : j = off
  ·subst e1
   rw [List.getElem?_set_self hoff] at hj
   cases hj
   simpa using keep _ _ hyv
  rw [List.getElem?_set_ne (Ne.symm e1)] at hj
  simpa [e1] using keep _ _ (h6 j x hj)
def patch (cs : List IV) (off : Nat) (zs : List IV) : List IV := cs.take off ++ zs ++ cs.drop (off + zs.length)
theorem RepI.inv_agg {F : Nat → Prop} {ρ : Loc} {σ : Heap'} {w : World} {cs : List IV} {v : Value} (h : RepI F ρ σ w (.agg cs) v) :
    ∃ (vs : Array Value) (u : Nat → Value), v = .agg vs ∧ vs.size = cs.length ∧ (∀ j x, cs[j]? = some x → vs[j]? = some (u j)) ∧ ∀ j x, cs[j]? = some x → RepI F ρ σ w x (u j) := by
  cases h with
  | agg _ vs u hl hv hr => exact ⟨vs, u, rfl, hl, hv, hr⟩
theorem RepI.unpure {F : Nat → Prop} {ρ : Loc} {σ : Heap'} {w : World} {ps : List PV} {v : Value} (h : RepI F ρ σ w (.pv (.agg ps)) v) : RepI F ρ σ w (.agg (ps.map .pv)) v := by
  cases h with
  | pv _ _ h =>
    cases h with
    | agg _ vs u hl hv hr =>
      refine .agg _ vs u (by simp [hl]) (fun j x hj => ?_) fun j x hj => ?_
      ·simp only [List.getElem?_map, Option.map_eq_some_iff] at hj
       obtain ⟨p, hp, rfl⟩ := hj
       exact hv j p hp
      simp only [List.getElem?_map, Option.map_eq_some_iff] at hj
      obtain ⟨p, hp, rfl⟩ := hj
      exact .pv _ _ (hr j p hp)
def IV.parts : IV → Option (List IV)
  | .agg cs => some cs
  | .pv (.agg ps) => some (ps.map .pv)
  | _ => none
theorem RepI.parts {F : Nat → Prop} {ρ : Loc} {σ : Heap'} {w : World} {x : IV} {cs : List IV} {v : Value} (h : RepI F ρ σ w x v) (hx : x.parts = some cs) : RepI F ρ σ w (.agg cs) v := by
  unfold IV.parts at hx
  split at hx
  ·cases hx; exact h
  ·cases hx; exact h.unpure
  cases hx
theorem ok_store_box_agg {t : TypeId} {x y : Operand} {k off : Nat} {cs zs : List IV} {z : IV} (ho : o.op = .store t x y) (hx : fr.ev x = some (.ptr k off)) (hy : fr.ev y = some z) (hz : z.parts = some zs) (hk : look hp k = some (.box cs))
    (hR : ¬ c.R k) (hs : (P.info? t).map (·.size) = some zs.length) (hf : ∀ z ∈ zs, z.firm (look hp)) (hoff : off + zs.length ≤ cs.length) : Ok P c o fr (look hp) (.pv (.val undef)) (look ((k, some (.box (patch cs off zs))) :: hp)) := by
  refine ok_skip fun ρ w a h => ?_
  obtain ⟨b, cc, e, r, u, hv, hρ, h3, h4, h5, h6⟩ := h.box hx hk
  obtain ⟨vs, t', hvy, hl, hv', hr'⟩ := ((h.ev hy).parts hz).inv_agg
  have hone : ∀ v ∈ vs.toList, v.oneCell' = true := by
    intro v hv
    obtain ⟨j, hj⟩ := List.mem_iff_getElem?.1 hv
    have hlt : j < zs.length := by have := (List.getElem?_eq_some_iff.1 hj).1; simp at this; omega
    have hz' : zs[j]? = some zs[j] := List.getElem?_eq_getElem hlt
    have h7 := hv' j _ hz'
    have : v = t' j := by simp only [Array.getElem?_toList] at hj; rw [h7] at hj; cases hj; rfl
    subst this
    exact (hr' j _ hz').one (hf _ (List.getElem_mem hlt))
  have hst : (storeVar t ⟨b, off, none⟩ (.agg vs)).run P w = .ok () (w.setRow b (r.toList.take off ++ vs.toList ++ r.toList.drop (off + vs.size)).toArray) := by
    have := run_storeCells_at P b off e vs.toList 0 r w h3 (by simp; omega) hone
    simp only [Nat.add_zero, Array.length_toList] at this
    simp [storeVar, Value.cells, Sem.run_bind, run_sizeOf hs, hl]
    rw [hl] at this
    simpa using this
  refine ⟨ρ, w.setRow b (r.toList.take off ++ vs.toList ++ r.toList.drop (off + vs.size)).toArray, by simp only [execOp, ho, hv, hvy, Instr.storeAt, Instr.sureAddr, Sem.run_bind, Sem.run_pure, Result.andThen_ok, hst], ?_⟩
  refine h.write hρ hk trivial hR rfl rfl rfl (by simp) (fun j hj => setRow_other w b j _ hj) fun keep _ => ?_
  refine .box _ e _ (fun j => if off ≤ j ∧ j < off + zs.length then t' (j - off) else u j) (setRow_heap w b r _ e _ h3) (by simp [patch]; omega) (fun j x hj => ?_) (fun j x hj => ?_) (by have := h.rel.ty hk hρ h3; have e : (r.toList.take off ++ vs.toList ++ r.toList.drop (off + vs.size)).toArray.size = r.size := (by simp; omega); rw [e]; exact this)
  ·unfold patch at hj
   by_cases e1 : j < off
   ·have : cs[j]? = some x := by
      rw [List.getElem?_append_left (by simp; omega), List.getElem?_append_left (by simp; omega), List.getElem?_take, if_pos e1] at hj; exact hj
    have := h5 j x this
    rw [if_neg (by omega)]
    simp only [List.getElem?_toArray]
    rw [List.getElem?_append_left (by simp; omega), List.getElem?_append_left (by simp; omega), List.getElem?_take, if_pos e1]
    simpa using this
   by_cases e2 : j < off + zs.length
   ·have : zs[j - off]? = some x := by
      rw [List.getElem?_append_left (by simp; omega), List.getElem?_append_right (by simp; omega)] at hj
      simpa [Nat.min_eq_left (show off ≤ cs.length by omega)] using hj
    have := hv' _ x this
    rw [if_pos ⟨by omega, e2⟩]
    simp only [List.getElem?_toArray]
    rw [List.getElem?_append_left (by simp; omega), List.getElem?_append_right (by simp; omega)]
    simpa [Nat.min_eq_left (show off ≤ r.size by omega)] using this
   have : cs[j]? = some x := by
     rw [List.getElem?_append_right (by simp; omega)] at hj
     simp only [List.getElem?_drop, List.length_append, List.length_take, Nat.min_eq_left (show off ≤ cs.length by omega)] at hj
     rwa [show off + zs.length + (j - (off + zs.length)) = j by omega] at hj
   have := h5 j x this
   rw [if_neg (by omega)]
   simp only [List.getElem?_toArray]
   rw [List.getElem?_append_right (by simp; omega)]
   simp only [List.getElem?_drop, List.length_append, List.length_take, Array.length_toList, Nat.min_eq_left (show off ≤ r.size by omega)]
   rw [show off + vs.size + (j - (off + vs.size)) = j by omega]
   simpa using this
  unfold patch at hj
  by_cases e1 : j < off
  ·have : cs[j]? = some x := by
     rw [List.getElem?_append_left (by simp; omega), List.getElem?_append_left (by simp; omega), List.getElem?_take, if_pos e1] at hj; exact hj
   rw [if_neg (by omega)]
   exact keep _ _ (h6 j x this)
  by_cases e2 : j < off + zs.length
  ·have : zs[j - off]? = some x := by
     rw [List.getElem?_append_left (by simp; omega), List.getElem?_append_right (by simp; omega)] at hj
     simpa [Nat.min_eq_left (show off ≤ cs.length by omega)] using hj
   rw [if_pos ⟨by omega, e2⟩]
   exact keep _ _ (hr' _ x this)
  have : cs[j]? = some x := by
    rw [List.getElem?_append_right (by simp; omega)] at hj
    simp only [List.getElem?_drop, List.length_append, List.length_take, Nat.min_eq_left (show off ≤ cs.length by omega)] at hj
    rwa [show off + zs.length + (j - (off + zs.length)) = j by omega] at hj
  rw [if_neg (by omega)]
  exact keep _ _ (h6 j x this)
theorem heap_new (w : World) (ob : Obj) : (w.alloc ob).heap[w.heap.size]? = some ob := by
  show (w.heap.push ob)[w.heap.size]? = _
  simp
theorem ok_alloc {t : TypeId} {k : Nat} {z : Value} (ho : o.op = .alloc t) (hz : ((P.info? t).bind (·.zero)) = some z) (hσ : look hp k = none) (hc : c.σ k = none) (hfr : nmFr k fr = false) (hhp : nmHp k hp = false) :
    Ok P c o fr (look hp) (.ptr k 0) (look ((k, some (.box (z.cells.toList.map fun v => .pv (.val v)))) :: hp)) := by
  intro ρ w a K Q h hK
  have hzv : (zeroValue t).run P w = .ok z w := by
    cases hq : P.info? t with
    | none => simp [hq] at hz
    | some i => simp [hq] at hz; simp [zeroValue, typeInfo, hq, hz]
  have hrun : (execOp a.eval o).run P w = .ok (.value (.pointer (some ⟨w.heap.size, 0, none⟩))) (w.alloc (.cells z.cells t)) := by
    have hn : (newVar t z).run P w = .ok ⟨w.heap.size, 0, none⟩ (w.alloc (.cells z.cells t)) := rfl
    simp only [execOp, ho, Instr.alloc, Sem.run_bind, hzv, hn, Result.andThen_ok]
    rfl
  unfold Oper.wp
  rw [hrun]
  refine hK (locUpd ρ k (some (w.heap.size, 1))) _ _ (h.alloc hσ hc hfr hhp 1 _ _ fun keep _ => ?_) (.ptr _ _ _ fun cs' _ => ⟨w.heap.size, 1, locUpd_same, rfl⟩)
  refine .box _ t z.cells (fun j => z.cells.getD j undef) (heap_new w _) (by simp) (fun j x hj => ?_) fun j x hj => ?_
  ·simp only [List.getElem?_map, Option.map_eq_some_iff] at hj
   obtain ⟨v, hv, rfl⟩ := hj
   simp only [Array.getElem?_toList] at hv
   simp [hv, Array.getD_eq_getD_getElem?]
  simp only [List.getElem?_map, Option.map_eq_some_iff] at hj
  obtain ⟨v, hv, rfl⟩ := hj
  simp only [Array.getElem?_toList] at hv
  simp only [Array.getD_eq_getD_getElem?, hv, Option.getD_some]
  exact mkVal _
theorem ok_extract {x : Operand} {i : Nat} {vs : List IV} {z : IV} {σ : Heap'} (ho : o.op = .extract x i) (hx : fr.ev x = some (.tup vs)) (hz : vs[i]? = some z) : OkV P c R1 o fr σ z := by
  refine fun ρ w a h => ?_
  have hr := h.ev hx
  generalize hv : a.eval x = v at hr
  cases hr with
  | tup _ ws u hl hv' hr =>
    exact ⟨u i, fun _ _ => by simp [execOp, ho, hv, Instr.extract, hv' i z hz], hr i z hz⟩
end
section
variable {P : Program} {c : Cx} {o : Oper} {fr : Fr} {σ : Heap'} {ops : Array Oper} {Q : Exit → Fr → Heap' → Prop}
theorem WL.nil (h : Q .normal fr σ) : WL P c ops Q [] fr σ := fun ρ _ _ ha => ⟨ρ, σ, fr, ha, h⟩
theorem WL.cons {x : IV} {σ' : Heap'} {l : List Oper} {d : Nat} (hg : o.guard = none) (hd : o.dst = some d) (hn : Nat.blt d c.n = true) (hok : Ok P c o fr σ x σ') (h : WL P c ops Q l ((d, x) :: fr) σ') : WL P c ops Q (o :: l) fr σ :=
  fun ρ w a ha => wpList_plain hg fun K hK => hok ρ w a K _ ha fun ρ' w' _ ha' hv => hK _ _ (h ρ' w' _ (by
    have := ha'.put (d := o.dst) hv (by rw [hd]; intro t ht; cases ht; simpa using hn)
    rwa [hd] at this ⊢))
theorem WL.cons0 {x : IV} {σ' : Heap'} {l : List Oper} (hg : o.guard = none) (hd : o.dst = none) (hok : Ok P c o fr σ x σ') (h : WL P c ops Q l fr σ') : WL P c ops Q (o :: l) fr σ :=
  fun ρ w a ha => wpList_plain hg fun K hK => hok ρ w a K _ ha fun ρ' w' _ ha' hv => hK _ _ (h ρ' w' _ (by rw [hd]; exact ha'))
theorem WL.consV {x : IV} {l : List Oper} {d : Nat} (hg : o.guard = none) (hd : o.dst = some d) (hn : Nat.blt d c.n = true) (hok : OkV P c (fun _ => True) o fr σ x) (h : WL P c ops Q l ((d, x) :: fr) σ) : WL P c ops Q (o :: l) fr σ :=
  WL.cons hg hd hn hok.ok h
theorem yielded_val {ρ : Loc} {w : World} {a : Act} {j t : Nat} {oj : Oper} {b : Bool} (h : All c ρ σ w fr a) (hj : ops[j]? = some oj) (ht : oj.dst = some t) (hb : fr.get t = some (.pv (.val (.bool b)))) : yielded ops a.tmps j = some b := by
  obtain ⟨v, hv, hr⟩ := h.fr t _ hb
  have := hr.val
  subst this
  simp [yielded, hj, ht, hv]
theorem WL.yes {x : IV} {σ' : Heap'} {l : List Oper} {j t d : Nat} {b : Bool} {oj : Oper} (hg : o.guard = some (j, b)) (hj : ops[j]? = some oj) (ht : oj.dst = some t) (hb : fr.get t = some (.pv (.val (.bool b)))) (hd : o.dst = some d) (hn : Nat.blt d c.n = true)
    (hok : Ok P c o fr σ x σ') (h : WL P c ops Q l ((d, x) :: fr) σ') : WL P c ops Q (o :: l) fr σ := by
  intro ρ w a ha
  refine wpList_step fun K hK => ?_
  rw [if_pos (by simp [Region.wanted, hg, yielded_val ha hj ht hb])]
  exact hok ρ w a K _ ha fun ρ' w' _ ha' hv => hK _ _ (h ρ' w' _ (by
    have := ha'.put (d := o.dst) hv (by rw [hd]; intro t ht; cases ht; simpa using hn)
    rwa [hd] at this ⊢))
theorem WL.yesV {x : IV} {l : List Oper} {j t d : Nat} {b : Bool} {oj : Oper} (hg : o.guard = some (j, b)) (hj : ops[j]? = some oj) (ht : oj.dst = some t) (hb : fr.get t = some (.pv (.val (.bool b)))) (hd : o.dst = some d) (hn : Nat.blt d c.n = true)
    (hok : OkV P c (fun _ => True) o fr σ x) (h : WL P c ops Q l ((d, x) :: fr) σ) : WL P c ops Q (o :: l) fr σ := WL.yes hg hj ht hb hd hn hok.ok h
theorem WL.no {l : List Oper} {j t d : Nat} {b : Bool} {oj : Oper} (hg : o.guard = some (j, !b)) (hj : ops[j]? = some oj) (ht : oj.dst = some t) (hb : fr.get t = some (.pv (.val (.bool b)))) (hd : o.dst = some d) (hn : Nat.blt d c.n = true)
    (h : WL P c ops Q l ((d, .pv (.val undef)) :: fr) σ) : WL P c ops Q (o :: l) fr σ := by
  intro ρ w a ha
  refine wpList_step fun K hK => ?_
  rw [if_neg (by simp [Region.wanted, hg, yielded_val ha hj ht hb])]
  exact hK _ _ (h ρ w _ (by
    have := ha.put (d := o.dst) (mkVal undef) (by rw [hd]; intro t ht; cases ht; simpa using hn)
    rwa [hd] at this ⊢))
theorem yielded_undef {ρ : Loc} {w : World} {a : Act} {j t : Nat} {oj : Oper} (h : All c ρ σ w fr a) (hj : ops[j]? = some oj) (ht : oj.dst = some t) (hb : fr.get t = some (.pv (.val undef))) : yielded ops a.tmps j = none := by
  obtain ⟨v, hv, hr⟩ := h.fr t _ hb
  have := hr.val
  subst this
  simp [yielded, hj, ht, hv, undef]
theorem WL.noU {l : List Oper} {j t d : Nat} {b : Bool} {oj : Oper} (hg : o.guard = some (j, b)) (hj : ops[j]? = some oj) (ht : oj.dst = some t) (hb : fr.get t = some (.pv (.val undef))) (hd : o.dst = some d) (hn : Nat.blt d c.n = true)
    (h : WL P c ops Q l ((d, .pv (.val undef)) :: fr) σ) : WL P c ops Q (o :: l) fr σ := by
  intro ρ w a ha
  refine wpList_step fun K hK => ?_
  rw [if_neg (by simp [Region.wanted, hg, yielded_undef ha hj ht hb])]
  exact hK _ _ (h ρ w _ (by
    have := ha.put (d := o.dst) (mkVal undef) (by rw [hd]; intro t ht; cases ht; simpa using hn)
    rwa [hd] at this ⊢))
def WS (P : Program) (c : Cx) (ops : Array Oper) (Q : Exit → Fr → Heap' → Prop) (l : List Oper) (fr : Fr) (σ : Heap') : Prop :=
  ∀ ρ w a, All c ρ σ w fr a → wpStill P ops w (fun a' => lift c Q .normal a' w) l a
theorem WS.nil (h : Q .normal fr σ) : WS P c ops Q [] fr σ := fun ρ _ _ ha => ⟨ρ, σ, fr, ha, h⟩
theorem WS.consV {x : IV} {l : List Oper} {d : Nat} (hg : o.guard = none) (hd : o.dst = some d) (hn : Nat.blt d c.n = true) (hok : OkV P c (fun _ => True) o fr σ x) (h : WS P c ops Q l ((d, x) :: fr) σ) : WS P c ops Q (o :: l) fr σ := by
  intro ρ w a ha
  unfold wpStill
  rw [if_pos (by simp [Region.wanted, hg])]
  obtain ⟨v, hr, hv⟩ := hok ρ w a ha
  unfold Oper.still
  rw [hr w (.refl _ _ _ _), Oper.stillUpon_value]
  refine h ρ w _ ?_
  have := ha.put (d := o.dst) hv (by rw [hd]; intro t ht; cases ht; simpa using hn)
  rwa [hd] at this ⊢
theorem WS.yes {x : IV} {l : List Oper} {j t d : Nat} {b : Bool} {oj : Oper} (hg : o.guard = some (j, b)) (hj : ops[j]? = some oj) (ht : oj.dst = some t) (hb : fr.get t = some (.pv (.val (.bool b)))) (hd : o.dst = some d) (hn : Nat.blt d c.n = true)
    (hok : OkV P c (fun _ => True) o fr σ x) (h : WS P c ops Q l ((d, x) :: fr) σ) : WS P c ops Q (o :: l) fr σ := by
  intro ρ w a ha
  unfold wpStill
  rw [if_pos (by simp [Region.wanted, hg, yielded_val ha hj ht hb])]
  obtain ⟨v, hr, hv⟩ := hok ρ w a ha
  unfold Oper.still
  rw [hr w (.refl _ _ _ _), Oper.stillUpon_value]
  refine h ρ w _ ?_
  have := ha.put (d := o.dst) hv (by rw [hd]; intro t ht; cases ht; simpa using hn)
  rwa [hd] at this ⊢
theorem WS.no {l : List Oper} {j t d : Nat} {b : Bool} {oj : Oper} (hg : o.guard = some (j, !b)) (hj : ops[j]? = some oj) (ht : oj.dst = some t) (hb : fr.get t = some (.pv (.val (.bool b)))) (hd : o.dst = some d) (hn : Nat.blt d c.n = true)
    (h : WS P c ops Q l ((d, .pv (.val undef)) :: fr) σ) : WS P c ops Q (o :: l) fr σ := by
  intro ρ w a ha
  unfold wpStill
  rw [if_neg (by simp [Region.wanted, hg, yielded_val ha hj ht hb])]
  refine h ρ w _ ?_
  have := ha.put (d := o.dst) (mkVal undef) (by rw [hd]; intro t ht; cases ht; simpa using hn)
  rwa [hd] at this ⊢
theorem WS.noU {l : List Oper} {j t d : Nat} {b : Bool} {oj : Oper} (hg : o.guard = some (j, b)) (hj : ops[j]? = some oj) (ht : oj.dst = some t) (hb : fr.get t = some (.pv (.val undef))) (hd : o.dst = some d) (hn : Nat.blt d c.n = true)
    (h : WS P c ops Q l ((d, .pv (.val undef)) :: fr) σ) : WS P c ops Q (o :: l) fr σ := by
  intro ρ w a ha
  unfold wpStill
  rw [if_neg (by simp [Region.wanted, hg, yielded_undef ha hj ht hb])]
  refine h ρ w _ ?_
  have := ha.put (d := o.dst) (mkVal undef) (by rw [hd]; intro t ht; cases ht; simpa using hn)
  rwa [hd] at this ⊢
theorem Trans.drew (F R : Nat → Prop) (ρ : Loc) (σ : Heap') (w : World) : Trans F R ρ σ w ρ σ { w with drawn := w.drawn + 1 } :=
  ⟨rfl, rfl, rfl, Nat.le_refl _, fun _ _ _ => rfl, fun _ _ _ h _ => h, fun _ _ _ _ _ => rfl, fun _ _ _ _ _ => rfl, fun _ _ _ _ _ _ _ _ => rfl,
    fun k s s' els els' h h' => by rw [h] at h'; cases h'; exact Nat.le_refl _, fun _ _ h => .inr ⟨_, h⟩, fun _ _ h => .inr ⟨_, h⟩, fun _ _ _ h => .inr ⟨_, h⟩⟩
theorem All.drew {ρ : Loc} {w : World} {a : Act} (h : All c ρ σ w fr a) : All c ρ σ { w with drawn := w.drawn + 1 } fr a := by
  have t := Trans.drew c.F (fun _ => True) ρ σ w
  have hnn : ∀ x, ¬ Names (fun k => σ k = none ∧ σ k ≠ none) x := fun x hx => by obtain ⟨k, hk⟩ := hx.some; exact hk.2 hk.1
  exact h.step t (fun _ _ => trivial) ⟨h.rel.inj, h.rel.apart, h.rel.old, fun k b cc hk => by
    obtain ⟨o1, h1, h2⟩ := h.rel.obj k b cc hk
    exact ⟨o1, h1, h2.keep t rfl fun x _ => hnn x⟩, h.rel.real⟩ (fun k h1 h2 => absurd h1 h2) fun _ x _ => hnn x
def thenQ (P : Program) (c : Cx) (y : Code) (Q : Exit → Fr → Heap' → Prop) : Exit → Fr → Heap' → Prop
  | .normal, fr, σ => Tr P c y fr σ Q
  | e, fr, σ => Q e fr σ
def blockQ (id : Nat) (Q : Exit → Fr → Heap' → Prop) : Exit → Fr → Heap' → Prop
  | .exit id', fr, σ => bif Nat.beq id' id then Q .normal fr σ else Q (.exit id') fr σ
  | e, fr, σ => Q e fr σ
theorem Tr.region {id : Nat} {l : List Oper} (hl : ops.toList = l) (h : WL P c ops Q l fr σ) : Tr P c (.region id ops false) fr σ Q :=
  fun ρ w a ha => wp_region_list (by rw [hl]; exact h ρ w a ha)
theorem Tr.still {id : Nat} {l : List Oper} (hm : P.follows .mixedOrders = true) (hB : Region.lexB .any ops = true) (hl : ops.toList = l) (h : WS P c ops Q l fr σ) : Tr P c (.region id ops true) fr σ Q :=
  fun ρ w a ha => wp_region_still hm hB (by rw [hl]; exact h ρ _ a ha.drew)
theorem Tr.seq {x y : Code} (h : Tr P c x fr σ (thenQ P c y Q)) : Tr P c (.seq x y) fr σ Q :=
  fun ρ w a ha => wp_seq (wp_mono (h ρ w a ha) fun e a w ⟨ρ, σ, fr, ha, hq⟩ => by
    cases e <;> first | exact hq ρ w a ha | exact ⟨ρ, σ, fr, ha, hq⟩)
theorem Tr.skip (h : Q .normal fr σ) : Tr P c .skip fr σ Q := fun ρ _ _ ha => wp_skip ⟨ρ, σ, fr, ha, h⟩
theorem Tr.ret (h : Q .ret fr σ) : Tr P c .ret fr σ Q := fun ρ _ _ ha => wp_ret ⟨ρ, σ, fr, ha, h⟩
theorem Tr.exit {id : Nat} (h : Q (.exit id) fr σ) : Tr P c (.exit id) fr σ Q := fun ρ _ _ ha => wp_exit ⟨ρ, σ, fr, ha, h⟩
theorem Tr.block {id : Nat} {x : Code} (h : Tr P c x fr σ (blockQ id Q)) : Tr P c (.block id x) fr σ Q :=
  fun ρ w a ha => wp_block (wp_mono (h ρ w a ha) fun e a w ⟨ρ, σ, fr, ha, hq⟩ => by
    cases e with
    | exit id' =>
      simp only [blockQ] at hq
      show if id' = id then _ else _
      by_cases e : id' = id
      · subst e
        rw [if_pos rfl]
        rw [show Nat.beq id' id' = true from Nat.beq_refl _] at hq
        exact ⟨ρ, σ, fr, ha, hq⟩
      · rw [if_neg e]
        rw [beq_ne e] at hq
        exact ⟨ρ, σ, fr, ha, hq⟩
    | _ => exact ⟨ρ, σ, fr, ha, hq⟩)
theorem Tr.cond {x : Operand} {y z : Code} {t : Bool} (hx : fr.ev x = some (.pv (.val (.bool t)))) (hy : t = true → Tr P c y fr σ Q) (hz : t = false → Tr P c z fr σ Q) : Tr P c (.cond x y z) fr σ Q :=
  fun ρ w a ha => wp_cond_split (ev_val ha hx) (fun h => hy h ρ w a ha) fun h => hz h ρ w a ha
theorem Tr.mono {x : Code} {Q' : Exit → Fr → Heap' → Prop} (h : Tr P c x fr σ Q) (hq : ∀ e fr σ, Q e fr σ → Q' e fr σ) : Tr P c x fr σ Q' :=
  fun ρ w a ha => wp_mono (h ρ w a ha) fun _ _ _ ⟨ρ, σ, fr, ha, h⟩ => ⟨ρ, σ, fr, ha, hq _ _ _ h⟩
def Sub (σ : Heap') (fr fr' : Fr) : Prop := ∀ t y, fr'.get t = some y → ∃ x, fr.get t = some x ∧ ∀ F ρ w v, RepI F ρ σ w x v → RepI F ρ σ w y v
theorem All.sub {ρ : Loc} {w : World} {fr' : Fr} {a : Act} (h : All c ρ σ w fr a) (hs : Sub σ fr fr') : All c ρ σ w fr' a :=
  ⟨h.rel, fun t y hy => by
    obtain ⟨x, hx, hr⟩ := hs t y hy
    obtain ⟨v, hv, h1⟩ := h.fr t x hx
    exact ⟨v, hv, hr _ _ _ _ h1⟩, h.tr, h.df, h.sz, h.kk⟩
def subB : Fr → Fr → Prop
  | _, [] => True
  | fr, (t, y) :: r => fr.get t = some y ∧ subB fr r
theorem Sub.of {fr fr' : Fr} (h : subB fr fr') : Sub σ fr fr' := by
  induction fr' with
  | nil => intro t y hy; cases hy
  | cons p r ih =>
    obtain ⟨t0, y0⟩ := p
    intro t y hy
    simp only [Fr.get] at hy
    cases hb : Nat.beq t0 t with
    | true =>
      rw [hb] at hy; cases hy
      obtain rfl := Nat.eq_of_beq_eq_true hb
      exact ⟨_, h.1, fun _ _ _ _ h => h⟩
    | false => rw [hb] at hy; exact ih h.2 t y hy
theorem Tr.sub {x : Code} {fr' : Fr} (hs : Sub σ fr fr') (h : Tr P c x fr' σ Q) : Tr P c x fr σ Q := fun ρ w a ha => h ρ w a (ha.sub hs)
theorem Tr.loop {x : Code} (I : Fr → Heap' → Nat → Prop) {n : Nat} (h0 : I fr σ n)
    (round : ∀ fr σ n, I fr σ n → Tr P c x fr σ fun e fr' σ' => match e with
      | .normal => ∃ fr'' n', n' < n ∧ Sub σ' fr' fr'' ∧ I fr'' σ' n'
      | e => Q e fr' σ') : Tr P c (.loop x) fr σ Q := by
  intro ρ w a ha b k cs
  have key : ∀ n ρ w a fr σ, All c ρ σ w fr a → I fr σ n →
      ∃ e a' w', lift c Q e a' w' ∧ Arrives P (lone (b.at a (.code x :: .inLoop x :: k)) cs w) b k cs e a' w' := by
    intro n
    induction n using Nat.strongRecOn with
    | _ n ih =>
      intro ρ w a fr σ ha hI
      obtain ⟨e, a₁, w₁, ⟨ρ₁, σ₁, fr₁, ha₁, hq⟩, harr⟩ := round fr σ n hI ρ w a ha b (.inLoop x :: k) cs
      cases e with
      | normal =>
        obtain ⟨fr₂, n', hlt, hs, hI₁⟩ := hq
        obtain ⟨e₂, a₂, w₂, hq₂, harr₂⟩ := ih n' hlt ρ₁ w₁ a₁ fr₂ σ₁ (ha₁.sub hs) hI₁
        exact ⟨e₂, a₂, w₂, hq₂, .of_steps (Steps.trans harr (.one step_inLoop)) harr₂⟩
      | exit id => exact ⟨_, a₁, w₁, ⟨ρ₁, σ₁, fr₁, ha₁, hq⟩, .pass (x := .inLoop x) rfl (fun _ _ => .inl (by simp)) harr⟩
      | goto l => exact ⟨_, a₁, w₁, ⟨ρ₁, σ₁, fr₁, ha₁, hq⟩, .pass (x := .inLoop x) rfl (fun _ _ => .inl (by simp)) harr⟩
      | ret => exact ⟨_, a₁, w₁, ⟨ρ₁, σ₁, fr₁, ha₁, hq⟩, .pass (x := .inLoop x) rfl (fun _ _ => .inl (by simp)) harr⟩
      | panic ch => exact ⟨_, a₁, w₁, ⟨ρ₁, σ₁, fr₁, ha₁, hq⟩, .pass (x := .inLoop x) rfl (fun _ _ => .inl (by simp)) harr⟩
      | outgrown => exact ⟨_, a₁, w₁, ⟨ρ₁, σ₁, fr₁, ha₁, hq⟩, .pass (x := .inLoop x) rfl (fun _ _ => .inl (by simp)) harr⟩
  obtain ⟨e, a', w', hq, harr⟩ := key n ρ w a fr σ ha h0
  exact ⟨e, a', w', hq, .of_steps (.one step_loop) harr⟩
def RepL (F : Nat → Prop) (ρ : Loc) (σ : Heap') (w : World) (xs : List IV) (vs : List Value) : Prop := xs.length = vs.length ∧ ∀ (j : Nat) (x : IV), xs[j]? = some x → ∃ v, vs[j]? = some v ∧ RepI F ρ σ w x v
def up (l : List (Nat × HO)) : Hp := l.map fun p => (p.1, some p.2)
def SC (P : Program) (f : FuncId) (args : List IV) (pre : List (Nat × HO)) (R : Nat → Prop) (r : IV) (post : List (Nat × HO)) : Prop :=
  ∀ F ρ w vs, Kept w (owned F ρ) → RelH F ρ (look (up pre)) w → RepL F ρ (look (up pre)) w args vs → Calls P f vs.toArray w fun e w' =>
    ∃ ρ' v, e = .returned v ∧ RepI F ρ' (look (up post)) w' r v ∧ RelH F ρ' (look (up post)) w' ∧ Trans F R ρ (look (up pre)) w ρ' (look (up post)) w'
def frOf : Nat → List IV → Fr
  | _, [] => []
  | n, x :: r => (n, x) :: frOf (n + 1) r
theorem frOf_get : ∀ {xs : List IV} {n t : Nat} {x : IV}, (frOf n xs).get t = some x → n ≤ t ∧ xs[t - n]? = some x
  | y :: r, n, t, x, h => by
    simp only [frOf, Fr.get] at h
    cases hb : Nat.beq n t with
    | true => rw [hb] at h; obtain rfl := Nat.eq_of_beq_eq_true hb; cases h; exact ⟨Nat.le_refl _, by simp⟩
    | false =>
      rw [hb] at h
      obtain ⟨h1, h2⟩ := frOf_get h
      refine ⟨by omega, ?_⟩
      rw [show t - n = (t - (n + 1)) + 1 by omega]
      simpa using h2
def resOf (fn : Func) (fr : Fr) : Option IV :=
  match fn.results.toList with
  | [.tmp t] => fr.get t
  | [] => some (.tup [])
  | [.tmp t, .tmp u] => match fr.get t, fr.get u with
    | some x, some y => some (.tup [x, y])
    | _, _ => none
  | [.tmp t, .tmp u, .tmp s] => match fr.get t, fr.get u, fr.get s with
    | some x, some y, some z => some (.tup [x, y, z])
    | _, _, _ => none
  | _ => none
def retQ (fn : Func) (r : IV) (post : List (Nat × HO)) : Exit → Fr → Heap' → Prop
  | .ret, fr, σ | .normal, fr, σ => (∃ x, resOf fn fr = some x ∧ ∀ F ρ w v, RepI F ρ σ w x v → RepI F ρ σ w r v) ∧ ∀ k o, look (up post) k = some o → σ k = some o
  | _, _, _ => False
theorem tup_two {F : Nat → Prop} {ρ : Loc} {w : World} {x y : IV} {u v : Value} (hx : RepI F ρ σ w x u) (hy : RepI F ρ σ w y v) : RepI F ρ σ w (.tup [x, y]) (.tuple #[u, v]) := by
  refine .tup _ _ (fun j => if j = 0 then u else v) rfl (fun j z hj => ?_) fun j z hj => ?_
  ·match j with
   | 0 => rfl
   | 1 => rfl
   | j + 2 => simp at hj
  match j with
  | 0 => cases hj; exact hx
  | 1 => cases hj; exact hy
  | j + 2 => simp at hj
theorem tup_three {F : Nat → Prop} {ρ : Loc} {w : World} {x y z : IV} {u v t : Value} (hx : RepI F ρ σ w x u) (hy : RepI F ρ σ w y v) (hz : RepI F ρ σ w z t) : RepI F ρ σ w (.tup [x, y, z]) (.tuple #[u, v, t]) := by
  refine .tup _ _ (fun j => if j = 0 then u else if j = 1 then v else t) rfl (fun j z hj => ?_) fun j z hj => ?_
  ·match j with
   | 0 => rfl
   | 1 => rfl
   | 2 => rfl
   | j + 3 => simp at hj
  match j with
  | 0 => cases hj; exact hx
  | 1 => cases hj; exact hy
  | 2 => cases hj; exact hz
  | j + 3 => simp at hj
theorem results_ok {fn : Func} {ρ : Loc} {w : World} {a : Act} {x : IV} (h : All c ρ σ w fr a) (hr : resOf fn fr = some x) : ∃ v, (results fn a.tmps).run P w = .ok v w ∧ RepI c.F ρ σ w x v := by
  unfold resOf at hr
  split at hr
  ·rename_i t heq
   obtain ⟨v, hv, h1⟩ := h.fr t x hr
   refine ⟨v, ?_, h1⟩
   rw [results_tmp (t := t) (by apply Array.toList_inj.1; simpa using heq)]
   simp [hv]
  ·rename_i heq
   cases hr
   refine ⟨.tuple #[], results_none (by apply Array.toList_inj.1; simpa using heq) _ _ _, .tup _ _ (fun _ => undef) rfl (fun j z hj => by simp at hj) fun j z hj => by simp at hj⟩
  ·rename_i t u heq
   split at hr
   ·rename_i y z hy hz
    cases hr
    obtain ⟨v, hv, h1⟩ := h.fr t y hy
    obtain ⟨v', hv', h1'⟩ := h.fr u z hz
    refine ⟨.tuple #[v, v'], ?_, tup_two h1 h1'⟩
    rw [results_tmp2 (t := t) (u := u) (by apply Array.toList_inj.1; simpa using heq)]
    simp [hv, hv']
   cases hr
  ·rename_i t u s heq
   split at hr
   ·rename_i y z q hy hz hq
    cases hr
    obtain ⟨v, hv, h1⟩ := h.fr t y hy
    obtain ⟨v', hv', h1'⟩ := h.fr u z hz
    obtain ⟨v'', hv'', h1''⟩ := h.fr s q hq
    refine ⟨.tuple #[v, v', v''], ?_, tup_three h1 h1' h1''⟩
    have heq' : fn.results = #[.tmp t, .tmp u, .tmp s] := by apply Array.toList_inj.1; simpa using heq
    simp [results, heq', hv, hv', hv'']
   cases hr
  cases hr
theorem RepP.own {own own' : Nat → Prop} {w : World} {p : PV} {v : Value} (h : RepP own w p v) (hk : ∀ b, own' b → own b) : RepP own' w p v := by
  induction h with
  | val v => exact .val v
  | seq els a cap b off u ha hb hl hm hc _ ih => exact .seq els a cap b off u ha (fun hne => ⟨fun ho => (hb hne).1 (hk _ ho), (hb hne).2⟩) hl hm hc ih
  | agg cs vs u hl hv _ ih => exact .agg cs vs u hl hv ih
  | ept cs off b o u hb hc _ ih => exact .ept cs off b o u ⟨fun ho => hb.1 (hk _ ho), hb.2⟩ hc ih
open Classical in
theorem All.restrict {ρ : Loc} {σ σ' : Heap'} {w : World} {a : Act} (h : All c ρ σ w fr a) (hσ : ∀ k o, σ' k = some o → σ k = some o) :
    ∃ ρ', All c ρ' σ' w fr a ∧ ∀ x v, RepI c.F ρ σ w x v → RepI c.F ρ' σ' w x v := by
  let ρ' : Loc := fun k => if σ' k = none then none else ρ k
  have hin : ∀ k, σ' k ≠ none → ρ' k = ρ k := fun k hk => if_neg hk
  have hout : ∀ k, σ' k = none → ρ' k = none := fun k hk => if_pos hk
  have hsome : ∀ k l, ρ' k = some l → σ' k ≠ none ∧ ρ k = some l := fun k l hk => by
    by_cases e : σ' k = none
    ·rw [hout k e] at hk; cases hk
    exact ⟨e, hin k e ▸ hk⟩
  have t : Trans c.F (fun _ => True) ρ σ w ρ' σ' w := by
    refine ⟨rfl, rfl, rfl, Nat.le_refl _, fun j hj _ => rfl, fun k b c hk _ => (hsome _ _ hk).2, fun j _ _ _ h1 => hin j (by simp [h1]), fun j _ _ _ h1 => hin j (by simp [h1]), fun j _ _ _ _ _ h1 _ => hin j (by simp [h1]), ?_, ?_, ?_, ?_⟩
    ·intro j s s' els els' h1 h2
     rw [hσ _ _ h2] at h1; cases h1; exact Nat.le_refl _
    all_goals intro j
    ·intro cs h2; exact .inr ⟨_, hσ _ _ h2⟩
    ·intro cs h2; exact .inr ⟨_, hσ _ _ h2⟩
    intro s cs h2; exact .inr ⟨_, hσ _ _ h2⟩
  have hnone : ∀ j, ¬ (σ j = none ∧ σ' j ≠ none) := fun j hj => by
    cases h1 : σ' j with
    | none => exact hj.2 h1
    | some o => rw [hσ _ _ h1] at hj; cases hj.1
  have hnn : ∀ x, ¬ Names (fun j => σ j = none ∧ σ' j ≠ none) x := fun x hx => by
    obtain ⟨j, hj⟩ := hx.some
    exact hnone j hj
  refine ⟨ρ', h.step t (fun _ _ => trivial) ⟨fun k k' b c1 c2 h1 h2 => h.rel.inj _ _ _ _ _ (hsome _ _ h1).2 (hsome _ _ h2).2, fun k b c1 h1 => h.rel.apart _ _ _ (hsome _ _ h1).2, h.rel.old, fun k b c1 hk => ?_, fun k o h1 h2 => ?_⟩ (fun j h1 h2 => absurd ⟨h1, h2⟩ (hnone j)) fun _ x _ => hnn x, fun x v hx => hx.trans' t (hnn x)⟩
  ·obtain ⟨hne, hk'⟩ := hsome _ _ hk
   obtain ⟨o1, h1, h2⟩ := h.rel.obj k b c1 hk'
   cases h3 : σ' k with
   | none => exact absurd h3 hne
   | some o2 => rw [hσ _ _ h3] at h1; cases h1; exact ⟨_, rfl, h2.keep t rfl fun x _ => hnn x⟩
  rw [hin k (by simp [h1])] at h2; exact h.rel.real k o (hσ _ _ h1) h2
theorem SC.of {f : FuncId} {fn : Func} {code : Code} {args : List IV} {pre post : List (Nat × HO)} {R : Nat → Prop} {r : IV} (hf : P.funcs[f]? = some fn) (hb : fn.body = some code) (hn : args.length ≤ fn.ntmps)
    (h : ∀ F ρ w, Tr P ⟨F, R, ρ, look (up pre), w, fn.ntmps⟩ code (frOf 0 args) (look (up pre)) (retQ fn r post)) : SC P f args pre R r post := by
  intro F ρ w vs hkept hrel hargs
  refine calls_of_wp hf hb ?_
  have ha : All ⟨F, R, ρ, look (up pre), w, fn.ntmps⟩ ρ (look (up pre)) w (frOf 0 args) { tmps := vs.toArray ++ Array.replicate (fn.ntmps - vs.toArray.size) undef, defers := [] } := by
    refine ⟨hrel, fun t x hx => ?_, .refl _ _ _ _ _, rfl, ?_, hkept⟩
    ·obtain ⟨v, hv, hr⟩ := hargs.2 t x (by simpa using (frOf_get hx).2)
     refine ⟨v, ?_, hr⟩
     rw [Array.getElem?_append_left (by simpa using (List.getElem?_eq_some_iff.1 hv).1)]
     simpa using hv
    have := hargs.1
    simp; omega
  refine wp_mono (h F ρ w ρ w _ ha) fun e a' w' hq => ?_
  obtain ⟨ρ', σ', fr', ha', hq⟩ := hq
  cases e with
  | ret =>
    obtain ⟨⟨x, hx, hs⟩, hσ⟩ := hq
    obtain ⟨v, hv, h1⟩ := results_ok (P := P) ha' hx
    obtain ⟨ρ'', ha'', keep⟩ := ha'.restrict hσ
    exact ⟨ha'.df, v, hv, ρ'', v, rfl, keep _ _ (hs _ _ _ _ h1), ha''.rel, ha''.tr⟩
  | normal =>
    obtain ⟨⟨x, hx, hs⟩, hσ⟩ := hq
    obtain ⟨v, hv, h1⟩ := results_ok (P := P) ha' hx
    obtain ⟨ρ'', ha'', keep⟩ := ha'.restrict hσ
    exact ⟨ha'.df, v, hv, ρ'', v, rfl, keep _ _ (hs _ _ _ _ h1), ha''.rel, ha''.tr⟩
  | _ => exact hq.elim
end
section
variable {P : Program} {c : Cx} {o : Oper} {fr : Fr}
theorem RepI.conv {F F' : Nat → Prop} {ρ ρ' : Loc} {σ σ' : Heap'} {w : World} {x : IV} {v : Value} (h : RepI F ρ σ w x v) (hown : ∀ b, owned F' ρ' b → owned F ρ b)
    (hn : ¬ Names (fun k => ¬ ∀ o, σ' k = some o → σ k = some o ∧ ρ' k = ρ k) x) : RepI F' ρ' σ' w x v := by
  induction h with
  | pv p v h => exact .pv p v (h.own hown)
  | ptr k off v h =>
    have hk : ∀ o, σ' k = some o → σ k = some o ∧ ρ' k = ρ k := Classical.byContradiction fun e => hn (.ptr e)
    refine .ptr k off v fun cs h' => ?_
    obtain ⟨b, c, h1, h2⟩ := h cs (hk _ h').1
    exact ⟨b, c, (hk _ h').2.trans h1, h2⟩
  | sl k len v h =>
    have hk : ∀ o, σ' k = some o → σ k = some o ∧ ρ' k = ρ k := Classical.byContradiction fun e => hn (.sl e)
    refine .sl k len v fun s els h' => ⟨(h s els (hk _ h').1).1, fun hl => ?_⟩
    rw [(hk _ h').2]
    exact (h s els (hk _ h').1).2 hl
  | rpt k len off v h =>
    have hk : ∀ o, σ' k = some o → σ k = some o ∧ ρ' k = ρ k := Classical.byContradiction fun e => hn (.rpt e)
    refine .rpt k len off v fun s els h' => ⟨(h s els (hk _ h').1).1, fun hl => ?_⟩
    rw [(hk _ h').2]
    exact (h s els (hk _ h').1).2 hl
  | bs k n v h =>
    have hk : ∀ o, σ' k = some o → σ k = some o ∧ ρ' k = ρ k := Classical.byContradiction fun e => hn (.bs e)
    refine .bs k n v fun cs h' => ?_
    obtain ⟨b, c, h1, h2⟩ := h cs (hk _ h').1
    exact ⟨b, c, (hk _ h').2.trans h1, h2⟩
  | tnil k T v h =>
    have hk : ∀ o, σ' k = some o → σ k = some o ∧ ρ' k = ρ k := Classical.byContradiction fun e => hn (.tnil e)
    refine .tnil k T v fun cs h' => ?_
    obtain ⟨b, h1, h2⟩ := h cs (hk _ h').1
    exact ⟨b, (hk _ h').2.trans h1, h2⟩
  | mp k v h =>
    have hk : ∀ o, σ' k = some o → σ k = some o ∧ ρ' k = ρ k := Classical.byContradiction fun e => hn (.mp e)
    refine .mp k v fun es h' => ?_
    obtain ⟨b, c, h1, h2⟩ := h es (hk _ h').1
    exact ⟨b, c, (hk _ h').2.trans h1, h2⟩
  | agg cs vs u hl hv _ ih => exact .agg cs vs u hl hv fun j c hj => ih j c hj fun hc => hn (.agg (List.mem_of_getElem? hj) hc)
  | tup cs vs u hl hv _ ih => exact .tup cs vs u hl hv fun j c hj => ih j c hj fun hc => hn (.tup (List.mem_of_getElem? hj) hc)
  | fn f xs ys vs ws u t hl hv _ hl' hv' _ ih ih' =>
    exact .fn f xs ys vs ws u t hl hv (fun j c hj => ih j c hj fun hc => hn (.fn1 (List.mem_of_getElem? hj) hc)) hl' hv' (fun j c hj => ih' j c hj fun hc => hn (.fn2 (List.mem_of_getElem? hj) hc))
theorem RepO.conv {F F' : Nat → Prop} {ρ ρ' : Loc} {σ σ' : Heap'} {w : World} {b c : Nat} {ob : HO} (h : RepO F ρ σ w b c ob) (hown : ∀ b, owned F' ρ' b → owned F ρ b)
    (hn : ∀ x, ob.has x → ¬ Names (fun k => ¬ ∀ o, σ' k = some o → σ k = some o ∧ ρ' k = ρ k) x) : RepO F' ρ' σ' w b c ob := by
  cases h with
  | box cs e a u h hl hv hr => exact .box cs e a u h hl hv fun j x hj => (hr j x hj).conv hown (hn x ⟨cs, rfl, List.mem_of_getElem? hj⟩)
  | row s els a u h hs hl hm hw hv hr => exact .row s els a u h hs hl hm hw hv fun i el hi j x hj => (hr i el hi j x hj).own hown
  | map es a t u h hl hv hr => exact .map es a t u h hl hv fun i k p hi => (hr i k p hi).own hown
def only (ks : List Nat) : IV → Bool
  | .pv _ => true
  | .ptr j _ => ks.contains j
  | .sl j _ => ks.contains j
  | .rpt j _ _ => ks.contains j
  | .bs j _ => ks.contains j
  | .mp j => ks.contains j
  | .tnil j _ => ks.contains j
  | .agg cs => onlys ks cs
  | .tup cs => onlys ks cs
  | .fn _ xs ys => onlys ks xs && onlys ks ys
where onlys (ks : List Nat) : List IV → Bool
  | [] => true
  | x :: r => only ks x && onlys ks r
theorem onlys_mem {ks : List Nat} : ∀ {l : List IV} {x : IV}, only.onlys ks l = true → x ∈ l → only ks x = true
  | y :: r, x, h, hx => by
    simp only [only.onlys, Bool.and_eq_true] at h
    rcases List.mem_cons.1 hx with rfl | hx
    ·exact h.1
    exact onlys_mem h.2 hx
theorem only_names {ks : List Nat} {x : IV} (h : only ks x = true) : ¬ Names (fun k => k ∉ ks) x := by
  intro hn
  induction hn with
  | ptr hk => exact hk (by simpa [only] using h)
  | sl hk => exact hk (by simpa [only] using h)
  | rpt hk => exact hk (by simpa [only] using h)
  | bs hk => exact hk (by simpa [only] using h)
  | mp hk => exact hk (by simpa [only] using h)
  | tnil hk => exact hk (by simpa [only] using h)
  | agg hc _ ih => exact ih (onlys_mem (by simpa [only] using h) hc)
  | tup hc _ ih => exact ih (onlys_mem (by simpa [only] using h) hc)
  | fn1 hc _ ih => simp only [only, Bool.and_eq_true] at h; exact ih (onlys_mem h.1 hc)
  | fn2 hc _ ih => simp only [only, Bool.and_eq_true] at h; exact ih (onlys_mem h.2 hc)
def onlyHp (ks : List Nat) : List (Nat × HO) → Bool
  | [] => true
  | (_, .box cs) :: r => only.onlys ks cs && onlyHp ks r
  | (_, _) :: r => onlyHp ks r
theorem look_up_mem : ∀ {l : List (Nat × HO)} {k : Nat} {o : HO}, look (up l) k = some o → (k, o) ∈ l
  | (j, q) :: r, k, o, h => by
    simp only [up, List.map_cons, look] at h
    cases hb : Nat.beq j k with
    | true => rw [hb] at h; cases h; obtain rfl := Nat.eq_of_beq_eq_true hb; exact List.mem_cons_self
    | false => rw [hb] at h; exact List.mem_cons_of_mem _ (look_up_mem h)
theorem look_up_none : ∀ {l : List (Nat × HO)} {k : Nat}, look (up l) k = none ↔ k ∉ l.map (·.1)
  | [], k => by simp [up, look]
  | (j, q) :: r, k => by
    simp only [up, List.map_cons, look, List.mem_cons, not_or]
    cases hb : Nat.beq j k with
    | true => obtain rfl := Nat.eq_of_beq_eq_true hb; simp
    | false =>
      have : k ≠ j := fun e => by subst e; simp at hb
      simp only [cond_false, this, not_false_eq_true, true_and]
      exact look_up_none
theorem look_append : ∀ {l : List (Nat × HO)} {hp : Hp} {k : Nat}, look (up l ++ hp) k = (look (up l) k).or (look hp k)
  | [], hp, k => by simp [up, look]
  | (j, q) :: r, hp, k => by
    simp only [up, List.map_cons, List.cons_append, look]
    cases hb : Nat.beq j k with
    | true => simp
    | false => exact look_append
theorem onlyHp_mem {ks : List Nat} : ∀ {l : List (Nat × HO)} {k : Nat} {cs : List IV}, onlyHp ks l = true → (k, HO.box cs) ∈ l → only.onlys ks cs = true
  | (j, .box ds) :: r, k, cs, h, hm => by
    simp only [onlyHp, Bool.and_eq_true] at h
    rcases List.mem_cons.1 hm with e | hm
    ·cases e; exact h.1
    exact onlyHp_mem h.2 hm
  | (j, .row ..) :: r, k, cs, h, hm => by
    rcases List.mem_cons.1 hm with e | hm
    ·cases e
    exact onlyHp_mem (by simpa [onlyHp] using h) hm
  | (j, .map ..) :: r, k, cs, h, hm => by
    rcases List.mem_cons.1 hm with e | hm
    ·cases e
    exact onlyHp_mem (by simpa [onlyHp] using h) hm
open Classical in
theorem SC.step {f : FuncId} {args : List IV} {pre post : List (Nat × HO)} {R : Nat → Prop} {r : IV} {hp : Hp} {ρ : Loc} {w : World} {a : Act} {vs : List Value} (hsc : SC P f args pre R r post)
    (h : All c ρ (look hp) w fr a) (hargs : RepL c.F ρ (look hp) w args vs) (hpre : ∀ k o, look (up pre) k = some o → look hp k = some o) (hdom : pre.map (·.1) = post.map (·.1))
    (hR : ∀ k, c.R k → look (up pre) k = none ∨ R k) (hr : only (post.map (·.1)) r = true) (hpost : onlyHp (post.map (·.1)) post = true) :
    Calls P f vs.toArray w fun e w' => ∃ ρ' v, e = .returned v ∧ All c ρ' (look (up post ++ hp)) w' fr a ∧ RepI c.F ρ' (look (up post ++ hp)) w' r v := by
  have hd : ∀ k, look (up pre) k = none ↔ look (up post) k = none := fun k => by rw [look_up_none, look_up_none, hdom]
  let ρ1 : Loc := fun k => if look (up pre) k = none then none else ρ k
  let F1 : Nat → Prop := fun b => c.F b ∨ ∃ k cc, ρ k = some (b, cc) ∧ look (up pre) k = none
  have h1in : ∀ k, look (up pre) k ≠ none → ρ1 k = ρ k := fun k hk => if_neg hk
  have h1out : ∀ k, look (up pre) k = none → ρ1 k = none := fun k hk => if_pos hk
  have h1 : ∀ k l, ρ1 k = some l → look (up pre) k ≠ none ∧ ρ k = some l := fun k l hk => by
    by_cases e : look (up pre) k = none
    ·rw [h1out k e] at hk; cases hk
    exact ⟨e, (h1in k e) ▸ hk⟩
  have hown1 : ∀ b, owned F1 ρ1 b → owned c.F ρ b := fun b hb => by
    rcases hb with (hb | ⟨k, cc, hk, _⟩) | ⟨k, cc, hk⟩
    ·exact .inl hb
    ·exact .inr ⟨k, cc, hk⟩
    exact .inr ⟨k, cc, (h1 k _ hk).2⟩
  have hconv : ∀ x : IV, ¬ Names (fun k => ¬ ∀ o, look (up pre) k = some o → look hp k = some o ∧ ρ1 k = ρ k) x := fun x hx => by
    obtain ⟨k, hk⟩ := hx.some
    exact hk fun o ho => ⟨hpre k o ho, h1in k (by simp [ho])⟩
  have hrel1 : RelH F1 ρ1 (look (up pre)) w := by
    refine ⟨fun k k' b cc cc' hk hk' => h.rel.inj k k' b cc cc' (h1 _ _ hk).2 (h1 _ _ hk').2, fun k b cc hk hb => ?_, fun b hb => ?_, fun k b cc hk => ?_, fun k o hk hρ => ?_⟩
    ·rcases hb with hb | ⟨k', cc', hk', hn⟩
     ·exact h.rel.apart k b cc (h1 _ _ hk).2 hb
     obtain rfl := h.rel.inj _ _ _ _ _ (h1 _ _ hk).2 hk'
     exact (h1 _ _ hk).1 hn
    ·rcases hb with hb | ⟨k', cc', hk', _⟩
     ·exact h.rel.old b hb
     exact h.rel.lt hk'
    ·obtain ⟨hne, hk2⟩ := h1 _ _ hk
     obtain ⟨o1, ho1, ho2⟩ := h.rel.obj k b cc hk2
     cases hl : look (up pre) k with
     | none => exact absurd hl hne
     | some o2 =>
       rw [hpre k o2 hl] at ho1; cases ho1
       exact ⟨_, rfl, ho2.conv hown1 fun x _ => hconv x⟩
    rw [h1in k (by simp [hk])] at hρ
    exact h.rel.real k o (hpre k o hk) hρ
  refine (hsc F1 ρ1 w vs (h.kept.mono hown1) hrel1 ⟨hargs.1, fun j x hj => ?_⟩).mono ?_
  ·obtain ⟨v, hv, hx⟩ := hargs.2 j x hj
   exact ⟨v, hv, hx.conv hown1 (hconv x)⟩
  rintro e w' ⟨ρ2, v, rfl, hv, hrel2, t⟩
  let ρ' : Loc := fun k => if look (up pre) k = none then ρ k else ρ2 k
  have h2in : ∀ k, look (up pre) k ≠ none → ρ' k = ρ2 k := fun k hk => if_neg hk
  have h2out : ∀ k, look (up pre) k = none → ρ' k = ρ k := fun k hk => if_pos hk
  have h2none : ∀ k, look (up pre) k = none → ρ2 k = none := fun k hk => by
    cases h3 : ρ2 k with
    | none => rfl
    | some l =>
      obtain ⟨o1, ho1, _⟩ := hrel2.obj k l.1 l.2 h3
      rw [(hd k).1 hk] at ho1; cases ho1
  have h2 : ∀ k l, ρ2 k = some l → look (up pre) k ≠ none := fun k l hk e => by rw [h2none k e] at hk; cases hk
  have hσin : ∀ k, look (up pre) k ≠ none → look (up post ++ hp) k = look (up post) k := fun k hk => by
    rw [look_append]
    cases h3 : look (up post) k with
    | none => exact absurd ((hd k).2 h3) hk
    | some o => rfl
  have hσout : ∀ k, look (up pre) k = none → look (up post ++ hp) k = look hp k := fun k hk => by
    rw [look_append, (hd k).1 hk]; rfl
  have hown2 : ∀ b, owned c.F ρ' b → owned F1 ρ2 b := fun b hb => by
    rcases hb with hb | ⟨k, cc, hk⟩
    ·exact .inl (.inl hb)
    by_cases e : look (up pre) k = none
    ·rw [h2out k e] at hk; exact .inl (.inr ⟨k, cc, hk, e⟩)
    rw [h2in k e] at hk; exact .inr ⟨k, cc, hk⟩
  have hconv2 : ∀ x : IV, only (post.map (·.1)) x = true → ¬ Names (fun k => ¬ ∀ o, look (up post ++ hp) k = some o → look (up post) k = some o ∧ ρ' k = ρ2 k) x := fun x hx hn => by
    refine only_names hx (hn.imp fun k hk hmem => hk fun o ho => ?_)
    have hne : look (up pre) k ≠ none := fun e => (look_up_none.1 ((hd k).1 e)) hmem
    rw [hσin k hne] at ho
    exact ⟨ho, h2in k hne⟩
  have T : Trans c.F (fun k => look (up pre) k = none ∨ R k) ρ (look hp) w ρ' (look (up post ++ hp)) w' := by
    refine ⟨t.os, t.tape, t.output, t.size, fun b hb hall => t.blk b hb fun k cc hk => ?_, fun k b cc hk hb => ?_, fun k cs cs' e1 e2 => ?_, fun k cs cs' e1 e2 => ?_, fun k s s' els els' e1 e2 hl => ?_, fun k s s' els els' e1 e2 => ?_, fun k cs' e2 => ?_, fun k cs' e2 => ?_, fun k s els' e2 => ?_⟩
    ·obtain ⟨hne, hk2⟩ := h1 _ _ hk
     exact (hall k cc hk2).resolve_left hne
    ·by_cases e : look (up pre) k = none
     ·rwa [h2out k e] at hk
     rw [h2in k e] at hk; exact (h1 _ _ (t.own k b cc hk hb)).2
    all_goals by_cases e : look (up pre) k = none
    ·exact h2out k e
    ·cases h3 : look (up pre) k with
     | none => exact absurd h3 e
     | some o =>
       rw [hpre k o h3] at e1; cases e1
       rw [hσin k e] at e2
       rw [h2in k e, t.box k _ _ h3 e2, h1in k e]
    ·exact h2out k e
    ·cases h3 : look (up pre) k with
     | none => exact absurd h3 e
     | some o =>
       rw [hpre k o h3] at e1; cases e1
       rw [hσin k e] at e2
       rw [h2in k e, t.map k _ _ h3 e2, h1in k e]
    ·exact h2out k e
    ·cases h3 : look (up pre) k with
     | none => exact absurd h3 e
     | some o =>
       rw [hpre k o h3] at e1; cases e1
       rw [hσin k e] at e2
       rw [h2in k e, t.row k _ _ _ _ h3 e2 hl, h1in k e]
    ·rw [hσout k e, e1] at e2; cases e2; exact Nat.le_refl _
    ·cases h3 : look (up pre) k with
     | none => exact absurd h3 e
     | some o =>
       rw [hpre k o h3] at e1; cases e1
       rw [hσin k e] at e2
       exact t.grow k _ _ _ _ h3 e2
    ·rw [hσout k e] at e2; exact .inr ⟨_, e2⟩
    ·rw [hσin k e] at e2
     rcases t.kindB k _ e2 with h3 | ⟨cs, h3⟩
     ·exact absurd h3 e
     exact .inr ⟨cs, hpre k _ h3⟩
    ·rw [hσout k e] at e2; exact .inr ⟨_, e2⟩
    ·rw [hσin k e] at e2
     rcases t.kindM k _ e2 with h3 | ⟨cs, h3⟩
     ·exact absurd h3 e
     exact .inr ⟨cs, hpre k _ h3⟩
    ·rw [hσout k e] at e2; exact .inr ⟨_, e2⟩
    rw [hσin k e] at e2
    rcases t.kindR k _ _ e2 with h3 | ⟨cs, h3⟩
    ·exact absurd h3 e
    exact .inr ⟨cs, hpre k _ h3⟩
  have hnone : ∀ k, ¬ (look hp k = none ∧ look (up post ++ hp) k ≠ none) := fun k hk => by
    by_cases e : look (up pre) k = none
    ·rw [hσout k e] at hk; exact hk.2 hk.1
    cases h3 : look (up pre) k with
    | none => exact e h3
    | some o => rw [hpre k o h3] at hk; cases hk.1
  have hnn : ∀ x : IV, ¬ Names (fun k => look hp k = none ∧ look (up post ++ hp) k ≠ none) x := fun x hx => by
    obtain ⟨k, hk⟩ := hx.some
    exact hnone k hk
  refine ⟨ρ', v, rfl, h.step T hR ⟨fun k k' b cc cc' hk hk' => ?_, fun k b cc hk hb => ?_, fun b hb => Nat.lt_of_lt_of_le (h.rel.old b hb) t.size, fun k b cc hk => ?_, fun k o hk hρ => ?_⟩ (fun k e1 e2 => absurd ⟨e1, e2⟩ (hnone k)) fun _ x _ => hnn x, hv.conv hown2 (hconv2 r hr)⟩
  ·by_cases e : look (up pre) k = none <;> by_cases e' : look (up pre) k' = none
   ·rw [h2out k e] at hk; rw [h2out k' e'] at hk'; exact h.rel.inj _ _ _ _ _ hk hk'
   ·rw [h2out k e] at hk; rw [h2in k' e'] at hk'
    exact absurd (.inr ⟨k, cc, hk, e⟩) (hrel2.apart _ _ _ hk')
   ·rw [h2in k e] at hk; rw [h2out k' e'] at hk'
    exact absurd (.inr ⟨k', cc', hk', e'⟩) (hrel2.apart _ _ _ hk)
   rw [h2in k e] at hk; rw [h2in k' e'] at hk'; exact hrel2.inj _ _ _ _ _ hk hk'
  ·by_cases e : look (up pre) k = none
   ·rw [h2out k e] at hk; exact h.rel.apart _ _ _ hk hb
   rw [h2in k e] at hk; exact hrel2.apart _ _ _ hk (.inl hb)
  ·by_cases e : look (up pre) k = none
   ·rw [h2out k e] at hk
    obtain ⟨o1, ho1, ho2⟩ := h.rel.obj k b cc hk
    refine ⟨o1, (hσout k e).trans ho1, ho2.keep T (t.blk b (h.rel.lt hk) fun k' cc' hk' => ?_) fun x _ => hnn x⟩
    obtain ⟨hne, hk2⟩ := h1 _ _ hk'
    obtain rfl := h.rel.inj _ _ _ _ _ hk hk2
    exact absurd e hne
   rw [h2in k e] at hk
   obtain ⟨o1, ho1, ho2⟩ := hrel2.obj k b cc hk
   refine ⟨o1, (hσin k e).trans ho1, ho2.conv hown2 fun x ⟨cs, h3, h4⟩ => hconv2 x ?_⟩
   subst h3
   exact onlys_mem (onlyHp_mem hpost (look_up_mem ho1)) h4
  by_cases e : look (up pre) k = none
  ·rw [hσout k e] at hk; rw [h2out k e] at hρ; exact h.rel.real k o hk hρ
  rw [hσin k e] at hk; rw [h2in k e] at hρ; exact hrel2.real k o hk hρ
def enters (P : Program) (f : FuncId) : Prop := ∃ fn, P.funcs[f]? = some fn ∧ (fn.name == "runtime.NumGoroutine") = false ∧ fn.body.isNone = false
def evs (fr : Fr) : List Operand → Option (List IV)
  | [] => some []
  | x :: r => match fr.ev x, evs fr r with
    | some y, some ys => some (y :: ys)
    | _, _ => none
theorem evs_rep {σ : Heap'} {ρ : Loc} {w : World} {a : Act} (h : All c ρ σ w fr a) : ∀ {os : List Operand} {xs : List IV}, evs fr os = some xs → RepL c.F ρ σ w xs (os.map a.eval)
  | [], xs, hx => by cases hx; exact ⟨rfl, fun j x hj => by simp at hj⟩
  | x :: r, xs, hx => by
    simp only [evs] at hx
    split at hx
    ·rename_i y ys hy hys
     cases hx
     have ih := evs_rep h hys
     refine ⟨by simp [ih.1], fun j z hj => ?_⟩
     cases j with
     | zero => cases hj; exact ⟨_, rfl, h.ev hy⟩
     | succ j => exact ih.2 j z (by simpa using hj)
    cases hx
def Subs (σ : Heap') (xs ys : List IV) : Prop := ∀ F ρ w vs, RepL F ρ σ w xs vs → RepL F ρ σ w ys vs
theorem Subs.refl (σ : Heap') (xs : List IV) : Subs σ xs xs := fun _ _ _ _ h => h
theorem ok_callr {f : FuncId} {os : Array Operand} {tys : Array TypeId} {xs args : List IV} {pre post : List (Nat × HO)} {R : Nat → Prop} {r : IV} {hp : Hp} (hsc : SC P f args pre R r post) (hf : enters P f)
    (ho : o.op = .call { callee := .value (.func f), args := os, argTypes := tys }) (hx : evs fr os.toList = some xs) (hs : Subs (look hp) xs args) (hpre : ∀ k o, look (up pre) k = some o → look hp k = some o) (hdom : pre.map (·.1) = post.map (·.1))
    (hR : ∀ k, c.R k → look (up pre) k = none ∨ R k) (hr : only (post.map (·.1)) r = true) (hpost : onlyHp (post.map (·.1)) post = true) : Ok P c o fr (look hp) r (look (up post ++ hp)) := by
  intro ρ w a K Q h hK
  obtain ⟨fn, hfn, hname, hbody⟩ := hf
  have hargs := hs _ _ _ _ (evs_rep h hx)
  have hrun : (execOp a.eval o).run P w = .ok (.enter f (os.toList.map a.eval).toArray) w := by
    have hcall : (callFunc f (os.toList.map a.eval).toArray).run P w = .ok (.enter f (os.toList.map a.eval).toArray) w := by
      unfold callFunc
      simp only [Sem.run_bind]
      show (Result.andThen (.ok P w) _) = _
      simp only [Result.andThen_ok, hfn, hname, hbody]
      rfl
    simp only [execOp, ho, resolve, Act.eval, Deferred.ofValue, Sem.run_bind, Sem.run_pure, Result.andThen_ok, invoke]
    rw [← hcall]
    congr 2
    apply Array.ext'
    simp
  unfold Oper.wp
  rw [hrun, Oper.upon_enter]
  refine (hsc.step h hargs hpre hdom hR hr hpost).mono ?_
  rintro e w' ⟨ρ', v, rfl, h1, h2⟩
  exact hK ρ' w' v h1 h2
theorem ok_call {f : FuncId} {os : Array Operand} {tys : Array TypeId} {xs args : List IV} {pre post : List (Nat × HO)} {R : Nat → Prop} {r : IV} {hp : Hp} (hsc : SC P f args pre R r post) (hf : enters P f)
    (ho : o.op = .call { callee := .value (.func f), args := os, argTypes := tys }) (hx : evs fr os.toList = some xs) (hs : Subs (look hp) xs args) (hpre : ∀ k o, look (up pre) k = some o → look hp k = some o) (hdom : pre.map (·.1) = post.map (·.1))
    (hR : ∀ k, c.R k → R k) (hr : only (post.map (·.1)) r = true) (hpost : onlyHp (post.map (·.1)) post = true) : Ok P c o fr (look hp) r (look (up post ++ hp)) :=
  ok_callr hsc hf ho hx hs hpre hdom (fun k h => .inr (hR k h)) hr hpost
end
section
variable {P : Program} {c : Cx} {R1 : Nat → Prop} {o : Oper} {fr : Fr} {hp : Hp} {ops : Array Oper} {Q : Exit → Fr → Heap' → Prop}
theorem All.move {ρ : Loc} {w w' : World} {a : Act} {k cc : Nat} {s : RT} {els els' : List (List PV)} (h : All c ρ (look hp) w fr a) (hσ : look hp k = some (.row s els)) (hlen : els.length < els'.length)
    (hos : w'.os = w.os) (ht : w'.tape = w.tape) (hout : w'.output = w.output) (hsz : w.heap.size < w'.heap.size) (hblk : ∀ j, j < w.heap.size → w'.heap[j]? = w.heap[j]?)
    (ho : (∀ x v, RepP (owned c.F ρ) w x v → RepP (owned c.F (locUpd ρ k (some (w.heap.size, cc)))) w' x v) → RepO c.F (locUpd ρ k (some (w.heap.size, cc))) (look ((k, some (.row s els')) :: hp)) w' w.heap.size cc (.row s els')) :
    All c (locUpd ρ k (some (w.heap.size, cc))) (look ((k, some (.row s els')) :: hp)) w' fr a := by
  have hlk : ∀ j, j ≠ k → look ((k, some (.row s els')) :: hp) j = look hp j := fun j hj => look_ne (Ne.symm hj)
  have hlk' : look ((k, some (.row s els')) :: hp) k = some (.row s els') := look_hd
  have hρ : ∀ j, j ≠ k → locUpd ρ k (some (w.heap.size, cc)) j = ρ j := fun j hj => locUpd_ne (Ne.symm hj)
  have hnk : ∀ {j x}, look hp j = some x → (∀ s els, x ≠ .row s els) → j ≠ k := fun hj hx e => by subst e; rw [hσ] at hj; cases hj; exact hx _ _ rfl
  have t : Trans c.F (fun _ => True) ρ (look hp) w (locUpd ρ k (some (w.heap.size, cc))) (look ((k, some (.row s els')) :: hp)) w' := by
    refine ⟨hos, ht, hout, Nat.le_of_lt hsz, fun j hj _ => hblk j hj, ?_, fun j _ _ h1 _ => hρ j (hnk h1 (by simp)), fun j _ _ h1 _ => hρ j (hnk h1 (by simp)), ?_, ?_, ?_, ?_, ?_⟩
    ·intro j b c' hj hb
     by_cases e : j = k
     ·subst e; rw [locUpd_same] at hj; cases hj; omega
     rwa [hρ j e] at hj
    ·intro j s1 s2 e1 e2 h1 h2 hl
     by_cases e : j = k
     ·subst e
      rw [hσ] at h1; rw [hlk'] at h2
      cases h1; cases h2; omega
     exact hρ j e
    ·intro j s1 s2 e1 e2 h1 h2
     by_cases e : j = k
     ·subst e
      rw [hσ] at h1; rw [hlk'] at h2
      cases h1; cases h2; omega
     rw [hlk j e, h1] at h2; cases h2; exact Nat.le_refl _
    all_goals intro j
    ·intro cs h2
     by_cases e : j = k
     ·subst e; rw [hlk'] at h2; cases h2
     rw [hlk j e] at h2; exact .inr ⟨_, h2⟩
    ·intro cs h2
     by_cases e : j = k
     ·subst e; rw [hlk'] at h2; cases h2
     rw [hlk j e] at h2; exact .inr ⟨_, h2⟩
    intro s1 cs h2
    by_cases e : j = k
    ·subst e; rw [hlk'] at h2; cases h2; exact .inr ⟨_, hσ⟩
    rw [hlk j e] at h2; exact .inr ⟨_, h2⟩
  have hnone : ∀ j, ¬ (look hp j = none ∧ look ((k, some (.row s els')) :: hp) j ≠ none) := fun j hj => by
    by_cases e : j = k
    ·subst e; rw [hσ] at hj; cases hj.1
    rw [hlk j e] at hj; exact hj.2 hj.1
  have hnn : ∀ x, ¬ Names (fun j => look hp j = none ∧ look ((k, some (.row s els')) :: hp) j ≠ none) x := fun x hx => by
    obtain ⟨j, hj⟩ := hx.some
    exact hnone j hj
  refine h.step t (fun _ _ => trivial) ⟨?_, ?_, fun b hb => Nat.lt_trans (h.rel.old b hb) hsz, fun j b' c' hj => ?_, fun j o1 h1 h2 => ?_⟩ (fun j h1 h2 => absurd ⟨h1, h2⟩ (hnone j)) fun _ x _ => hnn x
  ·intro j j' b c1 c2 h1 h2
   by_cases e : j = k <;> by_cases e' : j' = k
   ·rw [e, e']
   ·subst e
    rw [locUpd_same] at h1; rw [hρ j' e'] at h2
    cases h1
    have := h.rel.lt h2; omega
   ·subst e'
    rw [locUpd_same] at h2; rw [hρ j e] at h1
    cases h2
    have := h.rel.lt h1; omega
   rw [hρ j e] at h1; rw [hρ j' e'] at h2
   exact h.rel.inj _ _ _ _ _ h1 h2
  ·intro j b c1 h1 hF
   by_cases e : j = k
   ·subst e
    rw [locUpd_same] at h1; cases h1
    have := h.rel.old _ hF; omega
   rw [hρ j e] at h1; exact h.rel.apart _ _ _ h1 hF
  ·by_cases e : j = k
   ·subst e
    rw [locUpd_same] at hj; cases hj
    exact ⟨_, hlk', ho fun x v hx => hx.trans' t⟩
   rw [hρ j e] at hj
   obtain ⟨o1, h1, h2⟩ := h.rel.obj j b' c' hj
   exact ⟨o1, (hlk j e).trans h1, h2.keep t (hblk b' h2.lt) fun x _ => hnn x⟩
  by_cases e : j = k
  ·subst e; rw [locUpd_same] at h2; cases h2
  rw [hlk j e] at h1; rw [hρ j e] at h2; exact h.rel.real j o1 h1 h2
theorem All.ghost {ρ : Loc} {w : World} {a : Act} {k : Nat} (h : All c ρ (look hp) w fr a) (hσ : look hp k = none) (hc : c.σ k = none) (hfr : nmFr k fr = false) (hhp : nmHp k hp = false) (s : RT) :
    ρ k = none ∧ All c ρ (look ((k, some (.row s [])) :: hp)) w fr a := by
  have hlk : ∀ j, j ≠ k → look ((k, some (.row s [])) :: hp) j = look hp j := fun j hj => look_ne (Ne.symm hj)
  have hlk' : look ((k, some (.row s [])) :: hp) k = some (.row s []) := look_hd
  have hρk : ρ k = none := by
    cases hk : ρ k with
    | none => rfl
    | some l => obtain ⟨o', h', _⟩ := h.rel.obj k l.1 l.2 hk; rw [hσ] at h'; cases h'
  have hne : ∀ j x, look hp j = some x → j ≠ k := fun j x hj e => by subst e; rw [hσ] at hj; cases hj
  have t : Trans c.F (fun _ => True) ρ (look hp) w ρ (look ((k, some (.row s [])) :: hp)) w := by
    refine ⟨rfl, rfl, rfl, Nat.le_refl _, fun j hj _ => rfl, fun _ _ _ h _ => h, fun _ _ _ _ _ => rfl, fun _ _ _ _ _ => rfl, fun _ _ _ _ _ _ _ _ => rfl, ?_, ?_, ?_, ?_⟩
    ·intro j s s' els els' h1 h2
     rw [hlk j (hne _ _ h1), h1] at h2
     cases h2; exact Nat.le_refl _
    all_goals intro j
    ·intro cs h2
     by_cases e : j = k
     ·subst e; exact .inl hσ
     rw [hlk j e] at h2; exact .inr ⟨_, h2⟩
    ·intro cs h2
     by_cases e : j = k
     ·subst e; exact .inl hσ
     rw [hlk j e] at h2; exact .inr ⟨_, h2⟩
    intro s1 cs h2
    by_cases e : j = k
    ·subst e; exact .inl hσ
    rw [hlk j e] at h2; exact .inr ⟨_, h2⟩
  have hnew : ∀ j, look hp j = none ∧ look ((k, some (.row s [])) :: hp) j ≠ none → j = k := fun j hj => Classical.byContradiction fun e => hj.2 ((hlk j e).trans hj.1)
  have hnn : ∀ x, nm k x = false → ¬ Names (fun j => look hp j = none ∧ look ((k, some (.row s [])) :: hp) j ≠ none) x := fun x hx hn => by
    rw [nm_names (hn.imp hnew)] at hx; cases hx
  refine ⟨hρk, h.step t (fun _ _ => trivial) ⟨h.rel.inj, h.rel.apart, h.rel.old, fun j b' c' hj => ?_, fun j o1 h1 h2 => ?_⟩ (fun j h1 h2 => hnew j ⟨h1, h2⟩ ▸ hc) fun t x hx => hnn x (nmFr_get hfr hx)⟩
  ·obtain ⟨o1, h1, h2⟩ := h.rel.obj j b' c' hj
   refine ⟨o1, (hlk j (hne _ _ h1)).trans h1, h2.keep t rfl fun x ⟨cs, h3, h4⟩ => hnn x ?_⟩
   subst h3
   exact nms_mem (nmHp_look hhp h1) h4
  by_cases e : j = k
  ·subst e; rw [hlk'] at h1; cases h1; exact ⟨s, rfl⟩
  rw [hlk j e] at h1; exact h.rel.real j o1 h1 h2
theorem All.putFr {ρ : Loc} {σ : Heap'} {w : World} {a : Act} {t : Nat} {x y : IV} (h : All c ρ σ w fr a) (ht : fr.get t = some x) (hxy : ∀ v, RepI c.F ρ σ w x v → RepI c.F ρ σ w y v) : All c ρ σ w ((t, y) :: fr) a := by
  refine ⟨h.rel, fun t' z hz => ?_, h.tr, h.df, h.sz, h.kk⟩
  simp only [Fr.get] at hz
  cases hb : Nat.beq t t' with
  | true =>
    rw [hb] at hz; cases hz
    obtain rfl := Nat.eq_of_beq_eq_true hb
    obtain ⟨v, hv, hr⟩ := h.fr t x ht
    exact ⟨v, hv, hxy v hr⟩
  | false => rw [hb] at hz; exact h.fr t' z hz
theorem Tr.grow {x : Code} {t k : Nat} (s : RT) (ht : fr.get t = some (.pv (.val (.slice none 0 0)))) (hσ : look hp k = none) (hc : c.σ k = none) (hfr : nmFr k fr = false) (hhp : nmHp k hp = false)
    (h : Tr P c x ((t, .sl k 0) :: fr) (look ((k, some (.row s [])) :: hp)) Q) : Tr P c x fr (look hp) Q := by
  intro ρ w a ha
  obtain ⟨hk, ha'⟩ := ha.ghost hσ hc hfr hhp s
  refine h ρ w a (ha'.putFr ht fun v hv => ?_)
  obtain rfl := hv.val
  exact .sl k 0 _ fun s' els' _ => ⟨Nat.zero_le _, fun _ => .inr ⟨hk, rfl, rfl⟩⟩
theorem All.row {ρ : Loc} {w : World} {a : Act} (h : All c ρ (look hp) w fr a) {x : Operand} {k n : Nat} {s : RT} {els : List (List PV)} (hx : fr.ev x = some (.sl k n)) (hk : look hp k = some (.row s els)) (hn : els.length = n) :
    (∃ (b cc : Nat) (r : Array Value) (u : Nat → Nat → Value), a.eval x = .slice (some ⟨b, 0, none⟩) n cc ∧ ρ k = some (b, cc) ∧ w.heap[b]? = some (.cells r s.e (0, 0)) ∧ r.size = cc * s.n ∧ n ≤ cc ∧ cc ≤ maxLen ∧ (∀ el ∈ els, el.length = s.n) ∧
      (∀ i el, els[i]? = some el → ∀ j x, el[j]? = some x → r[i * s.n + j]? = some (u i j)) ∧ ∀ i el, els[i]? = some el → ∀ j x, el[j]? = some x → RepP (owned c.F ρ) w x (u i j)) ∨
    (a.eval x = .slice none 0 0 ∧ ρ k = none ∧ els = []) := by
  have hr := h.ev hx
  generalize hv : a.eval x = v at hr
  cases hr with
  | sl _ _ _ hh =>
    rcases (hh s els hk).2 hn with ⟨b, cc, hρ, rfl⟩ | ⟨hρ, hz, rfl⟩
    ·obtain ⟨o1, h1, h2⟩ := h.rel.obj k b cc hρ
     rw [hk] at h1; cases h1
     cases h2 with
     | row _ _ r u h3 h4 h5 h6 h7 h8 h9 => exact .inl ⟨b, cc, r, u, rfl, hρ, h3, h4, hn ▸ h5, h6, h7, h8, h9⟩
    exact .inr ⟨rfl, hρ, List.eq_nil_of_length_eq_zero (hn.trans hz)⟩
theorem ok_len_row {t e : TypeId} {x : Operand} {k n : Nat} {s : RT} {els : List (List PV)} (ho : o.op = .call { callee := .builtin .len, args := #[x], argTypes := #[t] }) (hx : fr.ev x = some (.sl k n)) (hk : look hp k = some (.row s els)) (hn : els.length = n)
    (hu : P.underlying t = some (.slice e)) : OkV P c R1 o fr (look hp) (.pv (.val (.int .i64 n))) := by
  intro ρ w a h
  refine ⟨.int .i64 n, fun w2 _ => ?_, mkVal _⟩
  rcases h.row hx hk hn with ⟨b, cc, r, u, hv, _⟩ | ⟨hv, _, he⟩
  ·simp [execOp, ho, hv, resolve, Sem.run_bind, invoke, builtin, Builtin.len_, run_underlying hu, goInt]
  subst he
  subst hn
  simp [execOp, ho, hv, resolve, Sem.run_bind, invoke, builtin, Builtin.len_, run_underlying hu, goInt]
theorem ok_len_nil {t e : TypeId} {x : Operand} (ho : o.op = .call { callee := .builtin .len, args := #[x], argTypes := #[t] }) (hx : fr.ev x = some (.pv (.val (.slice none 0 0)))) (hu : P.underlying t = some (.slice e)) : OkV P c R1 o fr (look hp) (.pv (.val (.int .i64 0))) := by
  intro ρ w a h
  refine ⟨.int .i64 0, fun w2 _ => ?_, mkVal _⟩
  simp [execOp, ho, ev_val h hx, resolve, Sem.run_bind, invoke, builtin, Builtin.len_, run_underlying hu, goInt]
theorem ok_len_str {t : TypeId} {x : Operand} {s : ByteArray} (ho : o.op = .call { callee := .builtin .len, args := #[x], argTypes := #[t] }) (hx : fr.ev x = some (.pv (.val (.string s)))) (hu : P.underlying t = some .string) : OkV P c R1 o fr (look hp) (.pv (.val (.int .i64 s.size))) := by
  intro ρ w a h
  refine ⟨.int .i64 s.size, fun w2 _ => ?_, mkVal _⟩
  simp [execOp, ho, ev_val h hx, resolve, Sem.run_bind, invoke, builtin, Builtin.len_, run_underlying hu, goInt]
theorem div_mod_flat {s q i j : Nat} (hj : j < s) (h : q = i * s + j) : q / s = i ∧ q % s = j := by
  subst h
  have hs : 0 < s := by omega
  exact ⟨by rw [Nat.add_comm, Nat.add_mul_div_right _ _ hs, Nat.div_eq_of_lt hj, Nat.zero_add], by rw [Nat.add_comm, Nat.add_mul_mod_self_right, Nat.mod_eq_of_lt hj]⟩
theorem flat_lt {s m q : Nat} (h : q < m * s) : q / s < m ∧ q % s < s ∧ q / s * s + q % s = q := by
  have hs : 0 < s := by
    rcases Nat.eq_zero_or_pos s with e | e
    ·subst e; simp at h
    exact e
  exact ⟨Nat.div_lt_of_lt_mul (by rwa [Nat.mul_comm]), Nat.mod_lt _ hs, by rw [Nat.mul_comm]; exact Nat.div_add_mod q s⟩
theorem RepP.flat {own : Nat → Prop} {w : World} {els : List (List PV)} {v : Value} {s : Nat} (h : RepP own w (.seq els) v) (hw : ∀ el ∈ els, el.length = s) (hone : ∀ el ∈ els, ∀ x ∈ el, x.one = true) :
    ∃ (a : Option Addr) (cap : Nat) (u : Nat → Nat → Value), v = .slice a els.length cap ∧ (els ≠ [] → ∃ ad : Addr, a = some ad ∧ ∀ j y, ((List.range (els.length * s)).map fun q => u (q / s) (q % s))[j]? = some y → w.cell? (ad.add j) = some y) ∧
      (∀ y ∈ (List.range (els.length * s)).map fun q => u (q / s) (q % s), y.oneCell' = true) ∧ ∀ i el, els[i]? = some el → ∀ j x, el[j]? = some x → RepP own w x (u i j) := by
  cases h with
  | seq _ a cap b off u ha hb hl hm hc hr =>
    have key : ∀ q, q < els.length * s → ∃ el x, els[q / s]? = some el ∧ el.length = s ∧ el[q % s]? = some x ∧ x.one = true := fun q hq => by
      obtain ⟨h1, h2, h3⟩ := flat_lt hq
      have he := hw _ (List.getElem_mem h1)
      exact ⟨els[q / s], els[q / s][q % s]'(by omega), List.getElem?_eq_getElem h1, he, List.getElem?_eq_getElem _, hone _ (List.getElem_mem h1) _ (List.getElem_mem _)⟩
    refine ⟨a, cap, u, rfl, fun hne => ⟨⟨b, off, none⟩, ha hne, fun j y hj => ?_⟩, fun y hy => ?_, hr⟩
    ·have hq : j < els.length * s := by have := (List.getElem?_eq_some_iff.1 hj).1; simpa using this
     obtain ⟨el, x, h1, h2, h3, _⟩ := key j hq
     have hy : y = u (j / s) (j % s) := by simpa [hq] using hj.symm
     have := hc _ el h1 _ x h3
     rw [h2] at this
     rw [Addr.add_mid, hy, ← this, Nat.add_assoc, (flat_lt hq).2.2]
    obtain ⟨q, hq, rfl⟩ := List.mem_map.1 hy
    obtain ⟨el, x, h1, h2, h3, h4⟩ := key q (by simpa using hq)
    exact (hr _ el h1 _ x h3).one h4
theorem run_append_zero {t e : TypeId} (ty : TypeId) (ht : P.underlying t = some (.slice e)) {i : TypeInfo} (hi : P.info? e = some i) (w : World) (v : Option Addr) (n cap : Nat) (hn : n ≤ cap) (a : Option Addr) (cc : Nat) :
    (Builtin.append_ #[t, t] ty #[.slice v n cap, .slice a 0 cc]).run P w = .ok (.slice v n cap) w := by
  cases v <;> cases a <;> simp [Builtin.append_, run_underlying ht, sizeOf, typeInfo, hi, Builtin.lenOf, Builtin.firstCells, hn, loadCells, loadCellsFrom, storeCells]
def FlatV (own : Nat → Prop) (w : World) (s : Nat) (els : List (List PV)) (v : Value) : Prop :=
  ∃ (a : Option Addr) (cap : Nat) (u : Nat → Nat → Value), v = .slice a els.length cap ∧ (els ≠ [] → ∃ ad : Addr, a = some ad ∧ ∀ j y, ((List.range (els.length * s)).map fun q => u (q / s) (q % s))[j]? = some y → w.cell? (ad.add j) = some y) ∧
    (∀ y ∈ (List.range (els.length * s)).map fun q => u (q / s) (q % s), y.oneCell' = true) ∧ ∀ i el, els[i]? = some el → ∀ j x, el[j]? = some x → RepP own w x (u i j)
theorem ok_append_flat {t : TypeId} {x y : Operand} {k n by_ : Nat} {s : RT} {els news : List (List PV)} (ho : o.op = .call { callee := .builtin .append, args := #[x, y], argTypes := #[t, t] }) (hx : fr.ev x = some (.sl k n)) (hflat : ∀ ρ w a, All c ρ (look hp) w fr a → FlatV (owned c.F ρ) w s.n news (a.eval y))
    (hk : look hp k = some (.row s els)) (hn : els.length = n) (hR : ¬ c.R k) (ht : P.underlying t = some (.slice s.e)) (hi : (P.info? s.e).map (fun i => (i.size, i.bytes, (i.zero.map fun z => z.cells.size))) = some (s.n, by_, some s.n)) (hs : 0 < s.n)
    (hw : ∀ el ∈ news, el.length = s.n) (hmax : n + news.length ≤ maxLen) (hb : (n + news.length) * by_ ≤ 140737488355328) :
    Ok P c o fr (look hp) (.sl k (n + news.length)) (look ((k, some (.row s (els ++ news))) :: hp)) := by
  intro ρ w a K Q h hK
  cases hq : P.info? s.e with
  | none => simp [hq] at hi
  | some i =>
    have hsz : i.size = s.n := by simp [hq] at hi; exact hi.1
    have hby : i.bytes = by_ := by simp [hq] at hi; exact hi.2.1
    obtain ⟨z, hz, hzs⟩ : ∃ z, i.zero = some z ∧ z.cells.size = s.n := by simp [hq] at hi; exact hi.2.2
    have hlk' : look ((k, some (.row s (els ++ news))) :: hp) k = some (.row s (els ++ news)) := look_hd
    obtain ⟨ad, cap, u', hvy, had, hone', hr'⟩ := hflat ρ w a h
    have hlenN : ((List.range (news.length * s.n)).map fun q => u' (q / s.n) (q % s.n)).length = news.length * i.size := by simp [hsz]
    have hrun : ∀ (v : Value) (w' : World), (Builtin.append_ #[t, t] o.type #[a.eval x, a.eval y]).run P w = .ok v w' → (execOp a.eval o).run P w = .ok (.value v) w' := fun v w' hr => by
      simp only [execOp, ho, resolve, Sem.run_bind, Sem.run_pure, Result.andThen_ok, invoke, builtin, List.map_toArray, List.map_cons, List.map_nil, hr]
    unfold Oper.wp
    by_cases hm : news = []
    ·subst hm
     simp only [List.append_nil, List.length_nil, Nat.add_zero] at hK hlk' ⊢
     have hsame : look ((k, some (.row s els)) :: hp) = look hp := by
       funext j
       by_cases e : j = k
       ·subst e; rw [look_hd, hk]
       rw [look_ne (Ne.symm e)]
     rw [hsame] at hK
     have hv : (Builtin.append_ #[t, t] o.type #[a.eval x, a.eval y]).run P w = .ok (a.eval x) w := by
       rw [hvy]
       rcases h.row hx hk hn with ⟨b, cc, r, u, hv, _, _, _, hc, _⟩ | ⟨hv, _, _⟩
       ·rw [hv]; exact run_append_zero _ ht hq w _ _ _ hc _ _
       rw [hv]; exact run_append_zero _ ht hq w _ _ _ (Nat.le_refl _) _ _
     rw [hrun _ _ hv]
     exact hK ρ w _ h (h.ev hx)
    obtain ⟨ad, rfl, hcell⟩ := had hm
    have hpos : 0 < news.length := List.length_pos_iff.2 hm
    simp only [maxLen] at hmax
    -- the new cells, in their row
    have hvals : ∀ (r : Array Value) (u : Nat → Nat → Value) (pre : List Value) (rest : List Value), pre.length = n * s.n → (∀ el ∈ els, el.length = s.n) → (∀ i el, els[i]? = some el → ∀ j x, el[j]? = some x → pre[i * s.n + j]? = some (u i j)) →
        ∀ i el, (els ++ news)[i]? = some el → ∀ j x, el[j]? = some x →
          (pre ++ (List.range (news.length * s.n)).map (fun q => u' (q / s.n) (q % s.n)) ++ rest)[i * s.n + j]? = some (if i < n then u i j else u' (i - n) j) := by
      intro r u pre rest hpl hwe hpre i el hi j x hj
      by_cases hin : i < n
      ·rw [List.getElem?_append_left (by omega)] at hi
       have h1 := hpre i el hi j x hj
       have hlt := (List.getElem?_eq_some_iff.1 h1).1
       rw [if_pos hin, List.append_assoc, List.getElem?_append_left hlt, h1]
      rw [List.getElem?_append_right (by omega)] at hi
      have hlen := hw el (List.mem_of_getElem? hi)
      have hj' : j < s.n := by have := (List.getElem?_eq_some_iff.1 hj).1; omega
      have hi' : i - els.length < news.length := (List.getElem?_eq_some_iff.1 hi).1
      have heq : i * s.n + j - n * s.n = (i - n) * s.n + j := by rw [Nat.sub_mul]; have : n * s.n ≤ i * s.n := Nat.mul_le_mul_right _ (by omega); omega
      have hlt : (i - n) * s.n + j < news.length * s.n := by
        have : (i - n + 1) * s.n ≤ news.length * s.n := Nat.mul_le_mul_right _ (by omega)
        rw [Nat.add_mul] at this; omega
      obtain ⟨d1, d2⟩ := div_mod_flat hj' (rfl : (i - n) * s.n + j = (i - n) * s.n + j)
      have hge : n * s.n ≤ i * s.n + j := by have : n * s.n ≤ i * s.n := Nat.mul_le_mul_right _ (by omega); omega
      rw [if_neg hin, List.append_assoc, List.getElem?_append_right (by omega), hpl, heq, List.getElem?_append_left (by simpa using hlt)]
      simp [hlt, d1, d2]
    have hrow : ∀ (own' : Nat → Prop) (w' : World) (u : Nat → Nat → Value), (∀ x v, RepP (owned c.F ρ) w x v → RepP own' w' x v) → (∀ i el, els[i]? = some el → ∀ j x, el[j]? = some x → RepP (owned c.F ρ) w x (u i j)) →
        ∀ i el, (els ++ news)[i]? = some el → ∀ j x, el[j]? = some x → RepP own' w' x (if i < n then u i j else u' (i - n) j) := by
      intro own' w' u keep hu i el hi j x hj
      by_cases hin : i < n
      ·rw [List.getElem?_append_left (by omega)] at hi
       rw [if_pos hin]; exact keep _ _ (hu i el hi j x hj)
      rw [List.getElem?_append_right (by omega), hn] at hi
      rw [if_neg hin]; exact keep _ _ (hr' (i - n) el hi j x hj)
    have hwAll : ∀ (_ : ∀ el ∈ els, el.length = s.n), ∀ el ∈ els ++ news, el.length = s.n := fun he el hel => (List.mem_append.1 hel).elim (he el) (hw el)
    have hgrow : ∀ (old : Nat) (pre : List Value) (u : Nat → Nat → Value), old < n + news.length → pre.length = n * s.n → (∀ el ∈ els, el.length = s.n) → (∀ i el, els[i]? = some el → ∀ j x, el[j]? = some x → pre[i * s.n + j]? = some (u i j)) →
        (∀ i el, els[i]? = some el → ∀ j x, el[j]? = some x → RepP (owned c.F ρ) w x (u i j)) →
        (Builtin.append_ #[t, t] o.type #[a.eval x, a.eval y]).run P w = .ok (.slice (some ⟨w.heap.size, 0, none⟩) (n + news.length) (grownCap w (n + news.length) old s.e))
          (w.drew.alloc (.cells (pre.toArray ++ ((List.range (news.length * s.n)).map fun q => u' (q / s.n) (q % s.n)).toArray ++ Builtin.zeroCells z.cells (grownCap w (n + news.length) old s.e - (n + news.length))) s.e)) →
        o.upon P a K Q ((execOp a.eval o).run P w) := by
      intro old pre u hold hpl hwe hpre hu hr
      have hge := grownCap_ge w (n + news.length) old s.e
      have hcm : grownCap w (n + news.length) old s.e ≤ maxLen := grownCap_le_maxLen w (n + news.length) old s.e (by simp only [maxLen]; omega)
      rw [hrun _ _ hr]
      have hnewb : (w.drew.alloc (.cells (pre.toArray ++ ((List.range (news.length * s.n)).map fun q => u' (q / s.n) (q % s.n)).toArray ++ Builtin.zeroCells z.cells (grownCap w (n + news.length) old s.e - (n + news.length))) s.e)).heap[w.heap.size]? = some (.cells (pre.toArray ++ ((List.range (news.length * s.n)).map fun q => u' (q / s.n) (q % s.n)).toArray ++ Builtin.zeroCells z.cells (grownCap w (n + news.length) old s.e - (n + news.length))) s.e (0, 0)) := heap_new w.drew _
      refine hK (locUpd ρ k (some (w.heap.size, grownCap w (n + news.length) old s.e))) _ _ (h.move hk (by simp; omega) rfl rfl rfl (by simp) (fun j hj => Go.RowKit.Below.heap_alloc w.drew _ j hj) fun keep => ?_) (.sl _ _ _ fun s1 els1 h1 => ?_)
      ·refine .row s (els ++ news) _ (fun i j => if i < n then u i j else u' (i - n) j) hnewb ?_ (by simp; omega) hcm (hwAll hwe) (fun i el hi j x hj => ?_) (hrow _ _ u keep hu)
       ·simp only [Array.size_append, List.size_toArray, size_zeroCells, hzs, hpl, List.length_map, List.length_range, ← Nat.add_mul]
        congr 1
        omega
       have := hvals #[] u pre (Builtin.zeroCells z.cells (grownCap w (n + news.length) old s.e - (n + news.length))).toList hpl hwe hpre i el hi j x hj
       rw [← this, ← Array.getElem?_toList]
       simp
      rw [hlk'] at h1; cases h1
      exact ⟨by simp; omega, fun _ => .inl ⟨w.heap.size, _, locUpd_same, rfl⟩⟩
    rcases h.row hx hk hn with ⟨b, cc, r, u, hv, hρ, h3, h4, hc, hcm, hwe, hcells, hu⟩ | ⟨hv, hρ, hnil⟩
    ·have hpl : (r.toList.take (n * s.n)).length = n * s.n := by
       have : n * s.n ≤ cc * s.n := Nat.mul_le_mul_right _ hc
       simp; omega
     have hpre : ∀ i el, els[i]? = some el → ∀ j x, el[j]? = some x → (r.toList.take (n * s.n))[i * s.n + j]? = some (u i j) := fun i el hi j x hj => by
       have h5 := hcells i el hi j x hj
       have hi' : i < els.length := (List.getElem?_eq_some_iff.1 hi).1
       have hj' : j < s.n := by have := (List.getElem?_eq_some_iff.1 hj).1; have := hwe el (List.mem_of_getElem? hi); omega
       have : i * s.n + j < n * s.n := by
         have : (i + 1) * s.n ≤ n * s.n := Nat.mul_le_mul_right _ (by omega)
         rw [Nat.add_mul] at this; omega
       rw [List.getElem?_take, if_pos this, Array.getElem?_toList, h5]
     by_cases hroom : n + news.length ≤ cc
     ·have hfit : n * s.n + ((List.range (news.length * s.n)).map fun q => u' (q / s.n) (q % s.n)).length ≤ r.size := by
        have : (n + news.length) * s.n ≤ cc * s.n := Nat.mul_le_mul_right _ hroom
        simp [Nat.add_mul] at this ⊢; omega
      have hr := run_append_room (P := P) w t o.type s.e i ht hq b n cc r h3 ad news.length cap _ hlenN hcell hone' hroom (by rw [hsz]; exact hfit)
      rw [hsz] at hr
      rw [hrun _ _ (by rw [hv, hvy]; exact hr)]
      refine hK ρ _ _ (h.write hρ hk ⟨rfl, by simp⟩ hR rfl rfl rfl (by simp) (fun j hj => setRow_other w b j _ hj) fun _ keep => ?_) (.sl _ _ _ fun s1 els1 h1 => ?_)
      ·refine .row s (els ++ news) _ (fun i j => if i < n then u i j else u' (i - n) j) (setRow_heap w b r _ s.e _ h3) ?_ (by simp; omega) hcm (hwAll hwe) (fun i el hi j x hj => ?_) (hrow _ _ u keep hu)
       ·simp only [List.size_toArray, List.length_append, List.length_drop, Array.length_toList]
        rw [hpl]
        omega
       have := hvals #[] u (r.toList.take (n * s.n)) (r.toList.drop (n * s.n + ((List.range (news.length * s.n)).map fun q => u' (q / s.n) (q % s.n)).length)) hpl hwe hpre i el hi j x hj
       rw [← this]
       simp
      rw [hlk'] at h1; cases h1
      exact ⟨by simp; omega, fun _ => .inl ⟨b, cc, hρ, rfl⟩⟩
     refine hgrow cc (r.toList.take (n * s.n)) u (by omega) hpl hwe hpre hu ?_
     rw [hv, hvy]
     have holds : ∀ j y, (r.toList.take (n * s.n))[j]? = some y → w.cell? ((⟨b, 0, none⟩ : Addr).add j) = some y := fun j y hj => by
       rw [Addr.add_mid, Nat.zero_add, cell_at h3]
       rw [List.getElem?_take] at hj
       split at hj
       ·simpa using hj
       cases hj
     exact run_append_grow (P := P) w t o.type s.e i z ht hq hz ⟨b, 0, none⟩ n cc _ (by rw [hsz]; exact hpl) holds ad news.length cap _ hlenN hcell (by omega) (by omega) (growslice_fits (by omega) (by rw [hby]; exact hb))
    subst hnil
    simp only [List.length_nil] at hn
    subst hn
    refine hgrow 0 [] (fun _ _ => undef) (by omega) (by simp) (by simp) (by simp) (by simp) ?_
    rw [hv, hvy]
    have := run_append_nil (P := P) w t o.type s.e i z ht hq hz ad news.length cap _ hlenN hcell hpos (by omega) (by rw [hby]; simp at hb; omega)
    simpa using this
theorem ok_append {t : TypeId} {x y : Operand} {k n by_ : Nat} {s : RT} {els news : List (List PV)} (ho : o.op = .call { callee := .builtin .append, args := #[x, y], argTypes := #[t, t] }) (hx : fr.ev x = some (.sl k n)) (hy : fr.ev y = some (.pv (.seq news)))
    (hk : look hp k = some (.row s els)) (hn : els.length = n) (hR : ¬ c.R k) (ht : P.underlying t = some (.slice s.e)) (hi : (P.info? s.e).map (fun i => (i.size, i.bytes, (i.zero.map fun z => z.cells.size))) = some (s.n, by_, some s.n)) (hs : 0 < s.n)
    (hw : ∀ el ∈ news, el.length = s.n) (hone : ∀ el ∈ news, ∀ x ∈ el, x.one = true) (hmax : n + news.length ≤ maxLen) (hb : (n + news.length) * by_ ≤ 140737488355328) :
    Ok P c o fr (look hp) (.sl k (n + news.length)) (look ((k, some (.row s (els ++ news))) :: hp)) :=
  ok_append_flat ho hx (fun ρ w a h => (h.ev hy).inv_seq.flat hw hone) hk hn hR ht hi hs hw hmax hb
theorem All.freeze {ρ : Loc} {w : World} {a : Act} {k n t : Nat} {s : RT} {els : List (List PV)} (h : All c ρ (look hp) w fr a) (hk : look hp k = some (.row s els)) (hn : els.length = n) (ht : fr.get t = some (.sl k n)) :
    All c (locUpd ρ k none) (look ((k, none) :: hp)) w ((t, .pv (.seq els)) :: fr) a := by
  have h' := h.drop (k := k)
  have hx : fr.ev (.tmp t) = some (.sl k n) := ht
  obtain ⟨v, hv, hr⟩ := h.fr t _ ht
  have hev : a.eval (.tmp t) = v := by simp [Act.eval, hv]
  have hown : ∀ b, owned c.F (locUpd ρ k none) b → owned c.F ρ b := fun b hb => by
    rcases hb with hb | ⟨j, cc, hj⟩
    ·exact .inl hb
    by_cases e : j = k
    ·subst e; rw [locUpd_same] at hj; cases hj
    rw [locUpd_ne (Ne.symm e)] at hj; exact .inr ⟨j, cc, hj⟩
  have hnew : RepP (owned c.F (locUpd ρ k none)) w (.seq els) v := by
    rcases h.row hx hk hn with ⟨b, cc, r, u, hv', hρ, h3, h4, hc, hcm, hwe, hcells, hu⟩ | ⟨hv', hρ, hnil⟩
    ·rw [← hev, hv', ← hn]
     refine .seq els _ cc b 0 u (fun _ => rfl) (fun _ => ⟨fun ho => ?_, h.rel.lt hρ⟩) (by omega) hcm (fun i el hi j x hj => ?_) fun i el hi j x hj => (hu i el hi j x hj).own hown
     ·rcases ho with ho | ⟨j, cc', hj⟩
      ·exact h.rel.apart _ _ _ hρ ho
      by_cases e : j = k
      ·subst e; rw [locUpd_same] at hj; cases hj
      rw [locUpd_ne (Ne.symm e)] at hj; exact e (h.rel.inj _ _ _ _ _ hj hρ)
     rw [cell_at h3, Nat.zero_add, hwe el (List.mem_of_getElem? hi)]
     exact hcells i el hi j x hj
    subst hnil
    rw [← hev, hv']
    exact .seq [] none 0 0 0 (fun _ _ => undef) (by simp) (by simp) (by simp) (by simp [maxLen]) (by simp) (by simp)
  refine ⟨h'.rel, fun t' z hz => ?_, h'.tr, h'.df, h'.sz, h.kk⟩
  simp only [Fr.get] at hz
  cases hb : Nat.beq t t' with
  | true =>
    rw [hb] at hz; cases hz
    obtain rfl := Nat.eq_of_beq_eq_true hb
    exact ⟨v, hv, .pv _ _ hnew⟩
  | false => rw [hb] at hz; exact h'.fr t' z hz
theorem Tr.freeze {x : Code} {k n t : Nat} {s : RT} {els : List (List PV)} (ht : fr.get t = some (.sl k n)) (hk : look hp k = some (.row s els)) (hn : els.length = n) (h : Tr P c x ((t, .pv (.seq els)) :: fr) (look ((k, none) :: hp)) Q) : Tr P c x fr (look hp) Q :=
  fun _ w a ha => h _ w a (ha.freeze hk hn ht)
theorem Tr.drop {x : Code} {k : Nat} (h : Tr P c x fr (look ((k, none) :: hp)) Q) : Tr P c x fr (look hp) Q := fun _ w a ha => h _ w a ha.drop
theorem WL.sub {σ : Heap'} {l : List Oper} {fr' : Fr} (hs : Sub σ fr fr') (h : WL P c ops Q l fr' σ) : WL P c ops Q l fr σ := fun ρ w a ha => h ρ w a (ha.sub hs)
theorem Tr.heap {σ σ' : Heap'} {x : Code} (hs : ∀ k, σ k = σ' k) (h : Tr P c x fr σ' Q) : Tr P c x fr σ Q := by rw [show σ = σ' from funext hs]; exact h
end
section
variable {P : Program} {c : Cx} {R1 : Nat → Prop} {o : Oper} {fr : Fr} {hp : Hp} {ops : Array Oper} {Q : Exit → Fr → Heap' → Prop}
theorem All.push {ρ : Loc} {σ : Heap'} {w : World} {a : Act} (h : All c ρ σ w fr a) (ob : Obj) : All c ρ σ (w.alloc ob) fr a ∧ (∀ x v, RepP (owned c.F ρ) w x v → RepP (owned c.F ρ) (w.alloc ob) x v) := by
  have hheap : ∀ j, j < w.heap.size → (w.alloc ob).heap[j]? = w.heap[j]? := fun j hj => Go.RowKit.Below.heap_alloc w _ j hj
  have t : Trans c.F (fun _ => True) ρ σ w ρ σ (w.alloc ob) :=
    ⟨rfl, rfl, rfl, by simp, fun j hj _ => hheap j hj, fun _ _ _ h _ => h, fun _ _ _ _ _ => rfl, fun _ _ _ _ _ => rfl, fun _ _ _ _ _ _ _ _ => rfl,
      fun k s s' els els' h h' => by rw [h] at h'; cases h'; exact Nat.le_refl _, fun _ _ h => .inr ⟨_, h⟩, fun _ _ h => .inr ⟨_, h⟩, fun _ _ _ h => .inr ⟨_, h⟩⟩
  have hnn : ∀ x, ¬ Names (fun k => σ k = none ∧ σ k ≠ none) x := fun x hx => by obtain ⟨k, hk⟩ := hx.some; exact hk.2 hk.1
  refine ⟨h.step t (fun _ _ => trivial) ⟨h.rel.inj, h.rel.apart, fun b hb => Nat.lt_of_lt_of_le (h.rel.old b hb) (by simp), fun k b cc hk => ?_, h.rel.real⟩ (fun k h1 h2 => absurd h1 h2) fun _ x _ => hnn x, fun x v hx => hx.trans' t⟩
  obtain ⟨o1, h1, h2⟩ := h.rel.obj k b cc hk
  exact ⟨o1, h1, h2.keep t (hheap b h2.lt) fun x _ => hnn x⟩
theorem All.fresh {ρ : Loc} {σ : Heap'} {w : World} {a : Act} (h : All c ρ σ w fr a) : ¬ owned c.F ρ w.heap.size := fun ho => Nat.lt_irrefl _ (h.rel.own_lt ho)
def ivCells (x : IV) : List IV :=
  match x.parts with
  | some cs => cs
  | none => [x]
def CellsRep (F : Nat → Prop) (ρ : Loc) (σ : Heap') (w : World) (cs : List IV) (vs : Array Value) : Prop :=
  vs.size = cs.length ∧ ∀ (j : Nat) (x : IV), cs[j]? = some x → ∃ v, vs[j]? = some v ∧ RepI F ρ σ w x v
theorem cellsRep_of {F : Nat → Prop} {ρ : Loc} {σ : Heap'} {w : World} {x : IV} {v : Value} (h : RepI F ρ σ w x v) (hx : x.parts = none → x.firm σ) : CellsRep F ρ σ w (ivCells x) v.cells := by
  unfold ivCells
  cases hp : x.parts with
  | some cs =>
    obtain ⟨vs, u, rfl, hl, hv, hr⟩ := (h.parts hp).inv_agg
    exact ⟨hl, fun j x hj => ⟨u j, hv j x hj, hr j x hj⟩⟩
  | none =>
    have h1 := h.one (hx hp)
    have : v.cells = #[v] := by cases v <;> first | rfl | cases h1
    rw [this]
    refine ⟨rfl, fun j y hj => ?_⟩
    match j with
    | 0 => cases hj; exact ⟨v, rfl, h⟩
    | j + 1 => simp at hj
def fillIV (place : Nat → Option (Nat × Nat)) (cs : List IV) : List (Nat × IV) → Option (List IV)
  | [] => some cs
  | (i, x) :: r =>
    match place i with
    | none => none
    | some (off, size) => bif Nat.beq (ivCells x).length size && Nat.ble (off + size) cs.length then fillIV place (patch cs off (ivCells x)) r else none
theorem foldl_patch (off : Nat) : ∀ (l : List Value) (k : Nat) (cur : Array Value) (j : Nat), off + k + l.length ≤ cur.size →
    ((l.zipIdx k).foldl (fun cs (p : Value × Nat) => cs.setIfInBounds (off + p.2) p.1) cur)[j]? = if off + k ≤ j ∧ j < off + k + l.length then l[j - (off + k)]? else cur[j]?
  | [], k, cur, j, _ => by
    have : ¬ (off + k ≤ j ∧ j < off + k) := by omega
    simp [this]
  | v :: l, k, cur, j, h => by
    simp only [List.zipIdx_cons, List.foldl_cons, List.length_cons] at h ⊢
    rw [foldl_patch off l (k + 1) _ j (by simp; omega)]
    by_cases e : j = off + k
    ·subst e
     rw [if_neg (by omega), if_pos (by omega)]
     simp [show off + k < cur.size by omega]
    by_cases e2 : off + (k + 1) ≤ j ∧ j < off + (k + 1) + l.length
    ·rw [if_pos e2, if_pos (by omega), show j - (off + k) = (j - (off + (k + 1))) + 1 by omega]
     simp
    rw [if_neg e2, if_neg (by omega)]
    simp [Ne.symm e]
theorem foldl_patch_size (off : Nat) : ∀ (l : List (Value × Nat)) (cur : Array Value), (l.foldl (fun cs (p : Value × Nat) => cs.setIfInBounds (off + p.2) p.1) cur).size = cur.size
  | [], _ => rfl
  | p :: l, cur => by rw [List.foldl_cons, foldl_patch_size off l]; simp
theorem patch_get {cs zs : List IV} {off j : Nat} (h : off + zs.length ≤ cs.length) : (patch cs off zs)[j]? = if off ≤ j ∧ j < off + zs.length then zs[j - off]? else cs[j]? := by
  unfold patch
  by_cases e1 : j < off
  ·rw [if_neg (by omega), List.getElem?_append_left (by simp; omega), List.getElem?_append_left (by simp; omega), List.getElem?_take, if_pos e1]
  by_cases e2 : j < off + zs.length
  ·rw [if_pos ⟨by omega, e2⟩, List.getElem?_append_left (by simp; omega), List.getElem?_append_right (by simp; omega)]
   simp [Nat.min_eq_left (show off ≤ cs.length by omega)]
  rw [if_neg (by omega), List.getElem?_append_right (by simp; omega)]
  simp only [List.getElem?_drop, List.length_append, List.length_take, Nat.min_eq_left (show off ≤ cs.length by omega)]
  congr 1
  omega
theorem patch_length {cs zs : List IV} {off : Nat} (h : off + zs.length ≤ cs.length) : (patch cs off zs).length = cs.length := by
  simp [patch]; omega
theorem fill_rep {F : Nat → Prop} {ρ : Loc} {σ : Heap'} {w : World} {place : Nat → Option (Nat × Nat)} : ∀ {parts : List (Nat × IV)} {vals : List (Nat × Value)} {cs out : List IV} {cur : Array Value},
    CellsRep F ρ σ w cs cur → vals.length = parts.length → (∀ (j i : Nat) (x : IV), parts[j]? = some (i, x) → ∃ v, vals[j]? = some (i, v) ∧ RepI F ρ σ w x v ∧ (x.parts = none → x.firm σ)) → fillIV place cs parts = some out →
    ∃ vs, Instr.fill place cur vals = some vs ∧ CellsRep F ρ σ w out vs
  | [], [], cs, out, cur, h, _, _, hf => by cases hf; exact ⟨cur, rfl, h⟩
  | (i, x) :: r, [], cs, out, cur, _, hl, _, _ => by simp at hl
  | [], _ :: _, cs, out, cur, _, hl, _, _ => by simp at hl
  | (i, x) :: r, (i', v) :: vr, cs, out, cur, h, hl, hv, hf => by
    obtain ⟨v', e1, h1, h2⟩ := hv 0 i x rfl
    simp only [List.getElem?_cons_zero, Option.some.injEq, Prod.mk.injEq] at e1
    obtain ⟨rfl, rfl⟩ := e1
    simp only [fillIV] at hf
    cases hp : place i' with
    | none => rw [hp] at hf; cases hf
    | some q =>
      obtain ⟨off, size⟩ := q
      rw [hp] at hf
      simp only [] at hf
      cases hc : Nat.beq (ivCells x).length size && Nat.ble (off + size) cs.length with
      | false => rw [hc] at hf; cases hf
      | true =>
        rw [hc] at hf
        simp only [cond_true] at hf
        simp only [Bool.and_eq_true] at hc
        have hs : (ivCells x).length = size := Nat.eq_of_beq_eq_true hc.1
        have hle : off + size ≤ cs.length := Nat.le_of_ble_eq_true hc.2
        have hcells := cellsRep_of h1 h2
        have hcs : v.cells.size = size := hcells.1.trans hs
        have hnew : CellsRep F ρ σ w (patch cs off (ivCells x)) (v.cells.zipIdx.foldl (fun cs (c, j) => cs.setIfInBounds (off + j) c) cur) := by
          have hfold : (v.cells.zipIdx.foldl (fun cs (p : Value × Nat) => cs.setIfInBounds (off + p.2) p.1) cur) = ((v.cells.toList.zipIdx 0).foldl (fun cs (p : Value × Nat) => cs.setIfInBounds (off + p.2) p.1) cur) := by
            rw [← Array.foldl_toList]; simp
          have hb : off + 0 + v.cells.toList.length ≤ cur.size := by rw [h.1]; simp; omega
          show CellsRep F ρ σ w _ (v.cells.zipIdx.foldl (fun cs (p : Value × Nat) => cs.setIfInBounds (off + p.2) p.1) cur)
          rw [hfold]
          refine ⟨by rw [foldl_patch_size, patch_length (by omega)]; exact h.1, fun j y hj => ?_⟩
          rw [patch_get (by omega)] at hj
          rw [foldl_patch off v.cells.toList 0 cur j hb]
          simp only [Nat.add_zero, Array.length_toList]
          by_cases e : off ≤ j ∧ j < off + (ivCells x).length
          ·rw [if_pos e] at hj
           rw [if_pos (by omega)]
           obtain ⟨v1, h3, h4⟩ := hcells.2 _ y hj
           exact ⟨v1, by rw [Array.getElem?_toList]; exact h3, h4⟩
          rw [if_neg e] at hj
          rw [if_neg (by omega)]
          exact h.2 j y hj
        obtain ⟨vs, h3, h4⟩ := fill_rep hnew (by simpa using hl) (fun j k y hj => hv (j + 1) k y (by simpa using hj)) hf
        refine ⟨vs, ?_, h4⟩
        simp only [Instr.fill, hp]
        rw [if_neg (by rw [h.1]; simp; omega)]
        exact h3
def zerosIV (z : Value) : List IV := z.cells.toList.map fun v => .pv (.val v)
theorem zeros_rep (F : Nat → Prop) (ρ : Loc) (σ : Heap') (w : World) (z : Value) : CellsRep F ρ σ w (zerosIV z) z.cells := by
  refine ⟨by simp [zerosIV], fun j x hj => ?_⟩
  simp only [zerosIV, List.getElem?_map, Option.map_eq_some_iff] at hj
  obtain ⟨v, hv, rfl⟩ := hj
  exact ⟨v, by rw [← Array.getElem?_toList]; exact hv, mkVal v⟩
def PlacesOk (P : Program) (fs : Array Field) (pl : Array (Nat × Nat)) : Prop := ∀ w, ((fs.mapM fun f => do pure (f.offset, ← sizeOf f.type)) : Sem (Array (Nat × Nat))).run P w = .ok pl w
def evParts (fr : Fr) : List (Nat × Operand) → Option (List (Nat × IV))
  | [] => some []
  | (i, x) :: r => match fr.ev x, evParts fr r with
    | some y, some ys => some ((i, y) :: ys)
    | _, _ => none
theorem evParts_rep {σ : Heap'} {ρ : Loc} {w : World} {a : Act} (h : All c ρ σ w fr a) : ∀ {ps : List (Nat × Operand)} {xs : List (Nat × IV)}, evParts fr ps = some xs →
    (ps.map fun p => (p.1, a.eval p.2)).length = xs.length ∧ ∀ (j i : Nat) (x : IV), xs[j]? = some (i, x) → ∃ v, (ps.map fun p => (p.1, a.eval p.2))[j]? = some (i, v) ∧ RepI c.F ρ σ w x v
  | [], xs, hx => by cases hx; exact ⟨rfl, fun j i x hj => by simp at hj⟩
  | (i0, x) :: r, xs, hx => by
    simp only [evParts] at hx
    split at hx
    ·rename_i y ys hy hys
     cases hx
     have ih := evParts_rep h hys
     refine ⟨by simpa using ih.1, fun j i z hj => ?_⟩
     cases j with
     | zero => cases hj; exact ⟨_, rfl, h.ev hy⟩
     | succ j => exact ih.2 j i z (by simpa using hj)
    cases hx
def firmParts (σ : Heap') (xs : List (Nat × IV)) : Prop := ∀ p ∈ xs, p.2.parts = none → p.2.firm σ
theorem ok_build {t : TypeId} {parts : Array (Nat × Operand)} {xs : List (Nat × IV)} {pl : Array (Nat × Nat)} {z : Value} {out : List IV} {σ : Heap'} (ho : o.op = .build t parts) (hx : evParts fr parts.toList = some xs)
    (hz : ((P.info? t).bind (·.zero)) = some z) (hpl : ∃ fs, P.underlying t = some (.struct fs) ∧ PlacesOk P fs pl) (hf : fillIV (pl[·]?) (zerosIV z) xs = some out) (hfirm : firmParts σ xs) : OkV P c R1 o fr σ (.agg out) := by
  intro ρ w a h
  obtain ⟨fs, hu, hpl⟩ := hpl
  have hzv : ∀ w, (zeroValue t).run P w = .ok z w := fun w => by
    cases hq : P.info? t with
    | none => simp [hq] at hz
    | some i => simp [hq] at hz; simp [zeroValue, typeInfo, hq, hz]
  obtain ⟨hl, hv⟩ := evParts_rep h hx
  obtain ⟨vs, h1, h2⟩ := fill_rep (zeros_rep c.F ρ σ w z) hl (fun j i x hj => by
    obtain ⟨v, h3, h4⟩ := hv j i x hj
    exact ⟨v, h3, h4, hfirm _ (List.mem_of_getElem? hj)⟩) hf
  have hparts : (parts.map fun (i, x) => (i, a.eval x)).toList = parts.toList.map fun p => (p.1, a.eval p.2) := by simp
  refine ⟨.agg vs, fun w2 _ => ?_, .agg _ _ (fun j => vs.getD j undef) h2.1 (fun j x hj => ?_) fun j x hj => ?_⟩
  ·simp only [execOp, ho, Instr.build, Sem.run_bind, hzv, run_underlying hu, hpl w2, Result.andThen_ok, hparts, h1]
   rfl
  ·obtain ⟨v, h3, _⟩ := h2.2 j x hj
   simp [h3, Array.getD_eq_getD_getElem?]
  obtain ⟨v, h3, h4⟩ := h2.2 j x hj
  simp only [Array.getD_eq_getD_getElem?, h3, Option.getD_some]
  exact h4
theorem ok_build_pure {t : TypeId} {parts : Array (Nat × Operand)} {xs : List (Nat × IV)} {pl : Array (Nat × Nat)} {z : Value} {out : List IV} {ps : List PV} {σ : Heap'} (ho : o.op = .build t parts) (hx : evParts fr parts.toList = some xs)
    (hz : ((P.info? t).bind (·.zero)) = some z) (hpl : ∃ fs, P.underlying t = some (.struct fs) ∧ PlacesOk P fs pl) (hf : fillIV (pl[·]?) (zerosIV z) xs = some out) (hfirm : firmParts σ xs) (hp : purify out = some ps) : OkV P c R1 o fr σ (.pv (.agg ps)) :=
  (ok_build ho hx hz hpl hf hfirm).sub fun _ _ _ _ h => h.purify hp
def chunks (s : Nat) : Nat → List PV → List (List PV)
  | 0, _ => []
  | n + 1, l => l.take s :: chunks s n (l.drop s)
theorem chunks_length (s : Nat) : ∀ (n : Nat) (l : List PV), (chunks s n l).length = n
  | 0, _ => rfl
  | n + 1, l => by simp [chunks, chunks_length s n]
theorem chunks_get (s : Nat) : ∀ (n : Nat) (l : List PV) (i : Nat) (el : List PV), (chunks s n l)[i]? = some el → n * s ≤ l.length → el.length = s ∧ ∀ j x, el[j]? = some x → l[i * s + j]? = some x
  | 0, _, i, el, h, _ => by simp [chunks] at h
  | n + 1, l, i, el, h, hl => by
    rw [Nat.add_mul, Nat.one_mul] at hl
    cases i with
    | zero =>
      simp only [chunks, List.getElem?_cons_zero, Option.some.injEq] at h
      subst h
      refine ⟨by simp; omega, fun j x hj => ?_⟩
      rw [List.getElem?_take] at hj
      split at hj
      ·simpa using hj
      cases hj
    | succ i =>
      simp only [chunks, List.getElem?_cons_succ] at h
      obtain ⟨h1, h2⟩ := chunks_get s n (l.drop s) i el h (by simp; omega)
      refine ⟨h1, fun j x hj => ?_⟩
      have := h2 j x hj
      rw [List.getElem?_drop] at this
      rw [← this]
      congr 1
      rw [Nat.add_mul]; omega
def repIV (z : Value) : Nat → List IV
  | 0 => []
  | n + 1 => zerosIV z ++ repIV z n
theorem repIV_get {z : Value} (hs : 0 < z.cells.size) : ∀ (n : Nat), (repIV z n).length = n * z.cells.size ∧ ∀ (j : Nat) (x : IV), (repIV z n)[j]? = some x → x = IV.pv (.val (z.cells[j % z.cells.size]!))
  | 0 => ⟨by simp [repIV], fun j x hj => by simp [repIV] at hj⟩
  | n + 1 => by
    obtain ⟨h1, h2⟩ := repIV_get hs n
    have hl : (zerosIV z).length = z.cells.size := by simp [zerosIV]
    refine ⟨by simp [repIV, h1, hl, Nat.add_mul, Nat.add_comm], fun j x hj => ?_⟩
    simp only [repIV] at hj
    by_cases e : j < z.cells.size
    ·rw [List.getElem?_append_left (by omega)] at hj
     rw [Nat.mod_eq_of_lt e]
     simp only [zerosIV, List.getElem?_map, Option.map_eq_some_iff, Array.getElem?_toList] at hj
     obtain ⟨v, hv, rfl⟩ := hj
     simp [e] at hv ⊢
     exact hv.symm
    rw [List.getElem?_append_right (by omega), hl] at hj
    have := h2 _ x hj
    rw [this, show j % z.cells.size = (j - z.cells.size) % z.cells.size from by rw [← Nat.mod_eq_sub_mod (by omega)]]
theorem ok_buildSlice {t e : TypeId} {len s : Nat} {parts : Array (Nat × Operand)} {xs : List (Nat × IV)} {z : Value} {out : List IV} {ps : List PV} {σ : Heap'} (ho : o.op = .buildSlice t len parts) (hx : evParts fr parts.toList = some xs)
    (hu : P.underlying t = some (.slice e)) (hz : ((P.info? e).bind (·.zero)) = some z) (hs : (P.info? e).map (·.size) = some s) (hzs : z.cells.size = s) (hpos : Nat.ble 1 s = true) (hsmall : Nat.ble (len * s) (2 ^ 24) = true)
    (hf : fillIV (fun i => some (i * s, s)) (repIV z len) xs = some out) (hfirm : firmParts σ xs) (hp : purify out = some ps) : Ok P c o fr σ (.pv (.seq (chunks s len ps))) σ := by
  intro ρ w a K Q h hK
  have hpos' : 0 < s := Nat.le_of_ble_eq_true hpos
  have hsmall' := Nat.le_of_ble_eq_true hsmall
  have hzv : (zeroValue e).run P w = .ok z w := by
    cases hq : P.info? e with
    | none => simp [hq] at hz
    | some i => simp [hq] at hz; simp [zeroValue, typeInfo, hq, hz]
  obtain ⟨hl, hv⟩ := evParts_rep h hx
  obtain ⟨hrl, hrg⟩ := repIV_get (z := z) (by omega) len
  have hrep : CellsRep c.F ρ σ w (repIV z len) ((Array.range (len * s)).map (z.cells[· % z.cells.size]!)) := by
    refine ⟨by simp [hrl, hzs], fun j x hj => ?_⟩
    have hjl : j < len * s := by have := (List.getElem?_eq_some_iff.1 hj).1; rw [hrl, hzs] at this; exact this
    rw [hrg j x hj]
    exact ⟨_, by simp [hjl], mkVal _⟩
  have hlenfill : out.length = len * s := by
    have : ∀ (ps : List (Nat × IV)) (cs out : List IV), fillIV (fun i => some (i * s, s)) cs ps = some out → out.length = cs.length := by
      intro ps
      induction ps with
      | nil => intro cs out h; cases h; rfl
      | cons p r ih =>
        intro cs out h
        simp only [fillIV] at h
        cases hc : Nat.beq (ivCells p.2).length s && Nat.ble (p.1 * s + s) cs.length with
        | false => rw [hc] at h; cases h
        | true =>
          rw [hc] at h
          simp only [Bool.and_eq_true] at hc
          have h1 := Nat.eq_of_beq_eq_true hc.1
          have h2 := Nat.le_of_ble_eq_true hc.2
          rw [ih _ _ h, patch_length (by omega)]
    rw [this _ _ _ hf, hrl, hzs]
  obtain ⟨vs, h1, h2⟩ := fill_rep hrep hl (fun j i x hj => by
    obtain ⟨v, h3, h4⟩ := hv j i x hj
    exact ⟨v, h3, h4, hfirm _ (List.mem_of_getElem? hj)⟩) hf
  have hparts : (parts.map fun (i, x) => (i, a.eval x)).toList = parts.toList.map fun p => (p.1, a.eval p.2) := by simp
  have hrun : (execOp a.eval o).run P w = .ok (.value (.slice (some ⟨w.heap.size, 0, none⟩) len len)) (w.alloc (.cells vs e)) := by
    have hnr : (newRow e vs).run P w = .ok ⟨w.heap.size, 0, none⟩ (w.alloc (.cells vs e)) := rfl
    simp only [execOp, ho, Instr.buildSlice, Sem.run_bind, run_underlying hu, run_sizeOf hs, Result.andThen_ok]
    rw [if_neg (by omega)]
    by_cases h0 : len * s = 0
    ·have h1' : Instr.fill (fun i => some (i * s, s)) ((Array.range (len * s)).map ((#[] : Array Value)[· % (#[] : Array Value).size]!)) (List.map (fun p => (p.fst, a.eval p.snd)) parts.toList) = some vs := by
       have e1 : ∀ f : Nat → Value, (Array.range (len * s)).map f = #[] := fun f => by rw [h0]; simp
       rw [e1] at h1 ⊢
       exact h1
     simp only [if_pos h0, Sem.run_bind, Sem.run_pure, Result.andThen_ok, hparts]
     rw [h1']
     simp only [Sem.run_bind, hnr, Result.andThen_ok]
     rfl
    simp only [if_neg h0, Sem.run_bind, Sem.run_pure, Result.andThen_ok, hzv, hparts]
    rw [h1]
    simp only [Sem.run_bind, hnr, Result.andThen_ok]
    rfl
  unfold Oper.wp
  rw [hrun]
  obtain ⟨h3, keep⟩ := h.push (.cells vs e)
  refine hK ρ _ _ h3 (.pv _ _ ?_)
  obtain ⟨hpl, hpg⟩ := purify_get hp
  have hel : ∀ i el, (chunks s len ps)[i]? = some el → el.length = s ∧ ∀ j x, el[j]? = some x → ps[i * s + j]? = some x := fun i el hi => chunks_get s len ps i el hi (by omega)
  have hcl := chunks_length s len ps
  have : RepP (owned c.F ρ) (w.alloc (.cells vs e)) (.seq (chunks s len ps)) (.slice (some ⟨w.heap.size, 0, none⟩) (chunks s len ps).length len) := by
    refine .seq _ _ len w.heap.size 0 (fun i j => vs.getD (i * s + j) undef) (fun _ => rfl) (fun _ => ⟨h.fresh, by simp⟩) (by omega) (by simp only [maxLen]; have : len ≤ len * s := Nat.le_mul_of_pos_right _ hpos'; omega) (fun i el hi j x hj => ?_) fun i el hi j x hj => ?_
    ·obtain ⟨h5, h6⟩ := hel i el hi
     obtain ⟨v, h7, _⟩ := h2.2 _ _ (hpg _ _ (h6 j x hj))
     rw [cell_at (heap_new w _), h5, Nat.zero_add, h7]
     simp [Array.getD_eq_getD_getElem?, h7]
    obtain ⟨h5, h6⟩ := hel i el hi
    obtain ⟨v, h7, h8⟩ := h2.2 _ _ (hpg _ _ (h6 j x hj))
    simp only [Array.getD_eq_getD_getElem?, h7, Option.getD_some]
    cases h8 with
    | pv _ _ h8 => exact keep _ _ h8
  rwa [hcl] at this
theorem ok_slice_seq {t e : TypeId} {x : Operand} {lo hi : Option Operand} {els : List (List PV)} {i j s : Nat} {σ : Heap'} (ho : o.op = .slice t x lo hi none) (hx : fr.ev x = some (.pv (.seq els))) (hu : P.underlying t = some (.slice e)) (hs : (P.info? e).map (·.size) = some s)
    (hlo : (lo = none ∧ i = 0) ∨ ∃ y k, lo = some y ∧ fr.ev y = some (.pv (.val (.int k i)))) (hhi : (hi = none ∧ j = els.length) ∨ ∃ y k, hi = some y ∧ fr.ev y = some (.pv (.val (.int k j)))) (hij : i ≤ j) (hj : j ≤ els.length) (hw : ∀ el ∈ els, el.length = s) :
    OkV P c R1 o fr σ (.pv (.seq ((els.take j).drop i))) := by
  intro ρ w a h
  have hr := (h.ev hx).inv_seq
  generalize hv : a.eval x = v at hr
  have hlen : ((els.take j).drop i).length = j - i := by simp; omega
  have hget : ∀ q el, ((els.take j).drop i)[q]? = some el → els[i + q]? = some el := fun q el hq => by
    rw [List.getElem?_drop, List.getElem?_take] at hq
    split at hq
    ·exact hq
    cases hq
  have hund : ∀ w, (underlying t).run P w = .ok (.slice e) w := run_underlying hu
  cases hr with
  | seq _ ad cap b off u ha hb hl hm hc hr =>
    have hsl : ∀ w, (Instr.sliceAt t (.slice ad els.length cap) (lo.map a.eval) (hi.map a.eval) none).run P w = .ok (.slice (if cap = i then ad else ad.map (·.add (i * s))) (j - i) (cap - i)) w := by
      intro w
      have hb' : (Instr.sliceBounds true els.length cap (lo.map a.eval) (hi.map a.eval) none).run P w = .ok (i, j, cap) w := by
        rcases hlo with ⟨rfl, rfl⟩ | ⟨y, k, rfl, hy⟩ <;> rcases hhi with ⟨rfl, rfl⟩ | ⟨y', k', rfl, hy'⟩
        ·simp [Instr.sliceBounds]
        ·have e1 : j ≤ cap := by omega
         simp [Instr.sliceBounds, Instr.sliceBound, ev_val h hy', asIntOf, e1]
        ·have e1 : i ≤ els.length := by omega
         simp [Instr.sliceBounds, Instr.sliceBound, ev_val h hy, asIntOf, e1]
        have e1 : j ≤ cap := by omega
        simp [Instr.sliceBounds, Instr.sliceBound, ev_val h hy, ev_val h hy', asIntOf, e1, hij]
      simp only [Instr.sliceAt, Instr.slice, Sem.run_bind, hund, Result.andThen_ok, hb', run_sizeOf hs]
      rfl
    refine ⟨_, fun _ _ => by simp only [execOp, ho, hv, Option.map_none, Sem.run_bind, hsl, Result.andThen_ok]; rfl, .pv _ _ ?_⟩
    rw [← hlen]
    refine .seq _ _ (cap - i) b (off + i * s) (fun q r => u (i + q) r) (fun hne => ?_) (fun hne => ?_) (by omega) (by omega) (fun q el hq r z hz => ?_) fun q el hq r z hz => hr (i + q) el (hget q el hq) r z hz
    ·have hpos : 0 < ((els.take j).drop i).length := List.length_pos_iff.2 hne
     have hne' : els ≠ [] := by intro h0; subst h0; simp at hpos
     rw [if_neg (by omega), ha hne']
     simp [Addr.add_mid]
    ·have hpos : 0 < ((els.take j).drop i).length := List.length_pos_iff.2 hne
     have hne' : els ≠ [] := by intro h0; subst h0; simp at hpos
     exact hb hne'
    have := hc (i + q) el (hget q el hq) r z hz
    rw [← this]
    have hel := hw el (List.mem_of_getElem? (hget q el hq))
    congr 2
    rw [hel, Nat.add_mul]; omega
theorem ok_index_str {t : TypeId} {x y : Operand} {s : ByteArray} {k : IntKind} {m : Int} {i : Nat} {b : UInt8} {σ : Heap'} (ho : o.op = .index t x y) (hx : fr.ev x = some (.pv (.val (.string s)))) (hy : fr.ev y = some (.pv (.val (.int k m)))) (hu : P.underlying t = some .string)
    (hb : s[i]? = some b) (hm : m = i) : OkV P c R1 o fr σ (.pv (.val (.int .u8 b.toNat))) := by
  subst hm
  intro ρ w a h
  refine ⟨_, fun w2 _ => ?_, mkVal _⟩
  simp [execOp, ho, ev_val h hx, ev_val h hy, Instr.index, Sem.run_bind, asIntOf, run_underlying hu, hb]
theorem ok_slice_str {t : TypeId} {x : Operand} {lo hi : Option Operand} {s : ByteArray} {i j : Nat} {σ : Heap'} (ho : o.op = .slice t x lo hi none) (hx : fr.ev x = some (.pv (.val (.string s)))) (hu : P.underlying t = some .string)
    (hlo : (lo = none ∧ i = 0) ∨ ∃ y k, lo = some y ∧ fr.ev y = some (.pv (.val (.int k i)))) (hhi : (hi = none ∧ j = s.size) ∨ ∃ y k, hi = some y ∧ fr.ev y = some (.pv (.val (.int k j)))) (hij : i ≤ j) (hj : j ≤ s.size) :
    OkV P c R1 o fr σ (.pv (.val (.string (s.extract i j)))) := by
  intro ρ w a h
  have hund : ∀ w, (underlying t).run P w = .ok .string w := run_underlying hu
  have hb' : ∀ w, (Instr.sliceBounds false s.size s.size (lo.map a.eval) (hi.map a.eval) none).run P w = .ok (i, j, s.size) w := by
    intro w
    rcases hlo with ⟨rfl, rfl⟩ | ⟨y, k, rfl, hy⟩ <;> rcases hhi with ⟨rfl, rfl⟩ | ⟨y', k', rfl, hy'⟩
    ·simp [Instr.sliceBounds]
    ·simp [Instr.sliceBounds, Instr.sliceBound, ev_val h hy', asIntOf, hj]
    ·simp [Instr.sliceBounds, Instr.sliceBound, ev_val h hy, asIntOf, hij]
    simp [Instr.sliceBounds, Instr.sliceBound, ev_val h hy, ev_val h hy', asIntOf, hj, hij]
  refine ⟨_, fun w2 _ => ?_, mkVal _⟩
  simp only [execOp, ho, Option.map_none, Instr.sliceAt, Instr.slice, Sem.run_bind, ev_val h hx, hund, Result.andThen_ok, Option.isSome_none, Bool.false_eq_true, if_false, hb']
  rfl
end
section
variable {P : Program} {c : Cx} {R1 : Nat → Prop} {o : Oper} {fr : Fr} {σ : Heap'} {ops : Array Oper} {Q : Exit → Fr → Heap' → Prop} {fuel : Nat} {listed : Array Bool}
theorem wpAnyH_mono {md : Region.Mode} {Q : Exit → Act → World → Prop} {S S' : World → Prop} (hS : ∀ w, S' w → S w) : ∀ (fuel : Nat) (listed : Array Bool) (a : Act) (w : World), wpAnyH P md ops Q S' fuel listed a w → wpAnyH P md ops Q S fuel listed a w
  | 0, _, _, _, h => h
  | fuel + 1, _, _, _, h => ⟨h.1, fun i hi => wpOp_mono (fun a' w' h' => ⟨hS _ h'.1, wpAnyH_mono hS fuel _ a' w' h'.2⟩) (h.2 i hi)⟩
def WA (P : Program) (c : Cx) (R1 : Nat → Prop) (ops : Array Oper) (Q : Exit → Fr → Heap' → Prop) (fuel : Nat) (listed : Array Bool) (fr : Fr) (σ : Heap') : Prop :=
  ∀ ρ w a (S : World → Prop), All c ρ σ w fr a → (∀ w', SameFor c.F R1 ρ w w' → S w') → wpAnyH P .any ops (lift c Q) S fuel listed a w
theorem SameFor.trans {F : Nat → Prop} {ρ ρ' : Loc} {σ σ' : Heap'} {w w' w'' : World} (hi : RelH F ρ σ w) (t : Trans F R1 ρ σ w ρ' σ' w') (h : SameFor F R1 ρ' w' w'') : SameFor F R1 ρ w w'' := by
  intro b hb hor
  have h1 : w'.heap[b]? = w.heap[b]? := by
    refine t.blk b hb fun k cc hk => ?_
    rcases hor with hn | ⟨k', cc', hR, hk'⟩
    ·exact absurd (.inr ⟨k, cc, hk⟩) hn
    obtain rfl := hi.inj _ _ _ _ _ hk hk'
    exact hR
  rw [← h1]
  refine h b (Nat.lt_of_lt_of_le hb t.size) ?_
  rcases hor with hn | ⟨k', cc', hR, hk'⟩
  ·exact .inl (owned.keep t hb hn).2
  by_cases e : owned F ρ' b
  ·rcases e with e | ⟨k, cc, hk⟩
   ·exact absurd e (hi.apart _ _ _ hk')
   obtain rfl := hi.inj _ _ _ _ _ (t.own _ _ _ hk hb) hk'
   exact .inr ⟨k, cc, hR, hk⟩
  exact .inl e
theorem SameFor.of {F : Nat → Prop} {ρ ρ' : Loc} {σ σ' : Heap'} {w w' : World} (hi : RelH F ρ σ w) (t : Trans F R1 ρ σ w ρ' σ' w') : SameFor F R1 ρ w w' := SameFor.trans hi t (.refl _ _ _ _)
theorem WA.done (hr : Region.ready .any ops listed = []) (h : Q .normal fr σ) : WA P c R1 ops Q fuel listed fr σ :=
  fun ρ _ _ _ ha _ => wpAnyH_done hr ⟨ρ, σ, fr, ha, h⟩ fuel
theorem WA.take {i d : Nat} {x : IV} (hi : ops[i]? = some o) (hs : Region.noSelect ops = true) (hf : Region.free .any ops listed i = true) (hr : (Region.ready .any ops listed).contains i = true) (hQ : ∀ ch fr σ, ¬ Q (.panic ch) fr σ)
    (hg : o.guard = none) (hd : o.dst = some d) (hn : Nat.blt d c.n = true) (hok : OkV P c R1 o fr σ x) (h : WA P c R1 ops Q fuel (listed.setIfInBounds i true) ((d, x) :: fr) σ) : WA P c R1 ops Q (fuel + 1) listed fr σ := by
  intro ρ w a S ha hS
  obtain ⟨v, hrun, hv⟩ := hok ρ w a ha
  refine wpAnyH_mono (S' := SameFor c.F R1 ρ w) hS _ _ _ _ <| wpAnyH_take hi hs hf hr (fun ch a w ⟨_, σ, fr, _, hq⟩ => absurd hq (hQ ch fr σ)) (.inl ⟨by simp [Region.wanted, hg], fun w2 h2 => hrun w2 h2⟩) (.refl _ _ _ _) ?_
  refine h ρ w _ _ ?_ fun w' h' => h'
  have := ha.put (d := o.dst) hv (by rw [hd]; intro t ht; cases ht; simpa using hn)
  rwa [hd] at this ⊢
theorem WA.takeYes {i d j t : Nat} {x : IV} {b : Bool} {oj : Oper} (hi : ops[i]? = some o) (hs : Region.noSelect ops = true) (hf : Region.free .any ops listed i = true) (hr : (Region.ready .any ops listed).contains i = true) (hQ : ∀ ch fr σ, ¬ Q (.panic ch) fr σ)
    (hg : o.guard = some (j, b)) (hj : ops[j]? = some oj) (ht : oj.dst = some t) (hb : fr.get t = some (.pv (.val (.bool b)))) (hd : o.dst = some d) (hn : Nat.blt d c.n = true) (hok : OkV P c R1 o fr σ x)
    (h : WA P c R1 ops Q fuel (listed.setIfInBounds i true) ((d, x) :: fr) σ) : WA P c R1 ops Q (fuel + 1) listed fr σ := by
  intro ρ w a S ha hS
  obtain ⟨v, hrun, hv⟩ := hok ρ w a ha
  refine wpAnyH_mono (S' := SameFor c.F R1 ρ w) hS _ _ _ _ <| wpAnyH_take hi hs hf hr (fun ch a w ⟨_, σ, fr, _, hq⟩ => absurd hq (hQ ch fr σ)) (.inl ⟨by simp [Region.wanted, hg, yielded_val ha hj ht hb], fun w2 h2 => hrun w2 h2⟩) (.refl _ _ _ _) ?_
  refine h ρ w _ _ ?_ fun w' h' => h'
  have := ha.put (d := o.dst) hv (by rw [hd]; intro t ht; cases ht; simpa using hn)
  rwa [hd] at this ⊢
theorem WA.takeNo {i d j t : Nat} {b : Bool} {oj : Oper} (hi : ops[i]? = some o) (hs : Region.noSelect ops = true) (hf : Region.free .any ops listed i = true) (hr : (Region.ready .any ops listed).contains i = true) (hQ : ∀ ch fr σ, ¬ Q (.panic ch) fr σ)
    (hg : o.guard = some (j, !b)) (hj : ops[j]? = some oj) (ht : oj.dst = some t) (hb : fr.get t = some (.pv (.val (.bool b)))) (hd : o.dst = some d) (hn : Nat.blt d c.n = true)
    (h : WA P c R1 ops Q fuel (listed.setIfInBounds i true) ((d, .pv (.val undef)) :: fr) σ) : WA P c R1 ops Q (fuel + 1) listed fr σ := by
  intro ρ w a S ha hS
  refine wpAnyH_mono (S' := SameFor c.F R1 ρ w) hS _ _ _ _ <| wpAnyH_take (v := undef) hi hs hf hr (fun ch a w ⟨_, σ, fr, _, hq⟩ => absurd hq (hQ ch fr σ)) (.inr ⟨by simp [Region.wanted, hg, yielded_val ha hj ht hb], rfl⟩) (.refl _ _ _ _) ?_
  refine h ρ w _ _ ?_ fun w' h' => h'
  have := ha.put (d := o.dst) (mkVal undef) (by rw [hd]; intro t ht; cases ht; simpa using hn)
  rwa [hd] at this ⊢
def WI (P : Program) (c : Cx) (R1 : Nat → Prop) (ops : Array Oper) (Q : Exit → Fr → Heap' → Prop) (fuel : Nat) (listed : Array Bool) (fr : Fr) (σ : Heap') (i : Nat) : Prop :=
  ∀ ρ w a (S : World → Prop), All c ρ σ w fr a → (∀ w', SameFor c.F R1 ρ w w' → S w') → wpOp P ops (lift c Q) i (fun a' w' => S w' ∧ wpAnyH P .any ops (lift c Q) S fuel (listed.setIfInBounds i true) a' w') a w
theorem WA.all {rs : List Nat} (hr : Region.ready .any ops listed = rs) (hne : rs ≠ []) (h : ∀ i ∈ rs, WI P c R1 ops Q fuel listed fr σ i) : WA P c R1 ops Q (fuel + 1) listed fr σ :=
  fun ρ w a S ha hS => wpAnyH_all hr hne fun i hi => h i hi ρ w a S ha hS
theorem WA.one {i : Nat} (hr : Region.ready .any ops listed = [i]) (h : WI P c R1 ops Q fuel listed fr σ i) : WA P c R1 ops Q (fuel + 1) listed fr σ :=
  WA.all hr (by simp) (by simpa using h)
theorem WI.op {i : Nat} {x : IV} {σ' : Heap'} {fr' : Fr} (hi : ops[i]? = some o) (hg : o.guard = none) (hfr : fr' = fr.put o.dst x) (hn : ∀ t, o.dst = some t → Nat.blt t c.n = true) (hR : ∀ k, c.R k → R1 k) (hnew : ∀ k, σ k = none → σ' k ≠ none → c.σ k = none)
    (hok : ∀ ρ w, Ok P ⟨c.F, R1, ρ, σ, w, c.n⟩ o fr σ x σ') (h : WA P c R1 ops Q fuel (listed.setIfInBounds i true) fr' σ') : WI P c R1 ops Q fuel listed fr σ i := by
  intro ρ w a S ha hS
  unfold wpOp
  simp only [hi]
  rw [if_pos (by simp [Region.wanted, hg])]
  refine .inl (hok ρ w ρ w a _ _ ⟨ha.rel, ha.fr, .refl _ _ _ _ _, ha.df, ha.sz, ha.kept⟩ fun ρ' w' v ha' hv => ?_)
  have hall : All c ρ' σ' w' fr a := ⟨ha'.rel, ha'.fr, ha.tr.trans ha'.tr hR hnew, ha'.df, ha'.sz, ha.kk⟩
  refine ⟨hS w' (SameFor.of ha.rel ha'.tr), h ρ' w' _ S ?_ fun w'' h'' => hS w'' (SameFor.trans ha.rel ha'.tr h'')⟩
  rw [hfr]
  exact hall.put hv fun t ht => by simpa using hn t ht
theorem WI.opYes {i j t : Nat} {x : IV} {σ' : Heap'} {fr' : Fr} {b : Bool} {oj : Oper} (hi : ops[i]? = some o) (hg : o.guard = some (j, b)) (hj : ops[j]? = some oj) (ht : oj.dst = some t) (hb : fr.get t = some (.pv (.val (.bool b))))
    (hfr : fr' = fr.put o.dst x) (hn : ∀ t, o.dst = some t → Nat.blt t c.n = true) (hR : ∀ k, c.R k → R1 k) (hnew : ∀ k, σ k = none → σ' k ≠ none → c.σ k = none)
    (hok : ∀ ρ w, Ok P ⟨c.F, R1, ρ, σ, w, c.n⟩ o fr σ x σ') (h : WA P c R1 ops Q fuel (listed.setIfInBounds i true) fr' σ') : WI P c R1 ops Q fuel listed fr σ i := by
  intro ρ w a S ha hS
  unfold wpOp
  simp only [hi]
  rw [if_pos (by simp [Region.wanted, hg, yielded_val ha hj ht hb])]
  refine .inl (hok ρ w ρ w a _ _ ⟨ha.rel, ha.fr, .refl _ _ _ _ _, ha.df, ha.sz, ha.kept⟩ fun ρ' w' v ha' hv => ?_)
  have hall : All c ρ' σ' w' fr a := ⟨ha'.rel, ha'.fr, ha.tr.trans ha'.tr hR hnew, ha'.df, ha'.sz, ha.kk⟩
  refine ⟨hS w' (SameFor.of ha.rel ha'.tr), h ρ' w' _ S ?_ fun w'' h'' => hS w'' (SameFor.trans ha.rel ha'.tr h'')⟩
  rw [hfr]
  exact hall.put hv fun t ht => by simpa using hn t ht
theorem Tr.drawn {id : Nat} (hm : P.follows .mixedOrders = true) (R1 : Nat → Prop) (h : WA P c R1 ops Q ops.size (Array.replicate ops.size false) fr σ) : Tr P c (.region id ops true) fr σ Q :=
  fun ρ w a ha => wp_region_held (S := SameFor c.F R1 ρ { w with drawn := w.drawn + 1 }) hm (h ρ _ a _ ha.drew fun _ h => h)
theorem WA.split {t : Nat} {b : Bool} (hb : fr.get t = some (.pv (.val (.bool b)))) (ht : b = true → WA P c R1 ops Q fuel listed ((t, .pv (.val (.bool true))) :: fr) σ) (hf : b = false → WA P c R1 ops Q fuel listed ((t, .pv (.val (.bool false))) :: fr) σ) : WA P c R1 ops Q fuel listed fr σ := by
  intro ρ w a S ha hS
  cases b with
  | true => exact ht rfl ρ w a S (ha.putFr hb fun _ h => h) hS
  | false => exact hf rfl ρ w a S (ha.putFr hb fun _ h => h) hS
theorem WL.split {l : List Oper} {t : Nat} {b : Bool} (hb : fr.get t = some (.pv (.val (.bool b)))) (ht : b = true → WL P c ops Q l ((t, .pv (.val (.bool true))) :: fr) σ) (hf : b = false → WL P c ops Q l ((t, .pv (.val (.bool false))) :: fr) σ) : WL P c ops Q l fr σ := by
  intro ρ w a ha
  cases b with
  | true => exact ht rfl ρ w a (ha.putFr hb fun _ h => h)
  | false => exact hf rfl ρ w a (ha.putFr hb fun _ h => h)
theorem WS.split {l : List Oper} {t : Nat} {b : Bool} (hb : fr.get t = some (.pv (.val (.bool b)))) (ht : b = true → WS P c ops Q l ((t, .pv (.val (.bool true))) :: fr) σ) (hf : b = false → WS P c ops Q l ((t, .pv (.val (.bool false))) :: fr) σ) : WS P c ops Q l fr σ := by
  intro ρ w a ha
  cases b with
  | true => exact ht rfl ρ w a (ha.putFr hb fun _ h => h)
  | false => exact hf rfl ρ w a (ha.putFr hb fun _ h => h)
theorem ok_callp {f : FuncId} {os : Array Operand} {tys : Array TypeId} {xs args : List IV} {r : IV} {hp : Hp} {R : Nat → Prop} (hsc : SC P f args [] R r []) (hf : enters P f) (ho : o.op = .call { callee := .value (.func f), args := os, argTypes := tys })
    (hx : evs fr os.toList = some xs) (hs : Subs (look hp) xs args) (hR : ∀ k, c.R k → R k) (hr : only [] r = true) : Ok P c o fr (look hp) r (look hp) :=
  ok_call hsc hf ho hx hs (fun k o h => by cases h) rfl hR hr rfl
theorem pn {x : List PanicEntry} (h : Exit.panic x = Exit.normal) : False := by cases h
end
section
variable {P : Program} {c : Cx} {R1 : Nat → Prop} {o : Oper} {fr : Fr} {hp : Hp} {ops : Array Oper} {Q : Exit → Fr → Heap' → Prop}
theorem run_askRoom (b : Nat) (w : World) : (askRoom b).run P w = .ok () w := by
  unfold askRoom
  split <;> rfl
theorem ok_makeSlice {t : TypeId} {x y : Operand} {k n by_ : Nat} {s : RT} {z : Value} (ho : o.op = .makeSlice t x y) (hx : fr.ev x = some (.pv (.val (.int .i64 n)))) (hy : fr.ev y = some (.pv (.val (.int .i64 n))))
    (hu : P.underlying t = some (.slice s.e)) (hz : ((P.info? s.e).bind (·.zero)) = some z) (hi : (P.info? s.e).map (fun i => (i.size, i.bytes)) = some (s.n, by_)) (hzs : z.cells.size = s.n) (hpos : 0 < s.n) (hn : n < 2 ^ 63) (hb : by_ * n ≤ 281474976710656)
    (hσ : look hp k = none) (hc : c.σ k = none) (hfr : nmFr k fr = false) (hhp : nmHp k hp = false) :
    Ok P c o fr (look hp) (.sl k n) (look ((k, some (.row s (List.replicate n (z.cells.toList.map .val)))) :: hp)) := by
  intro ρ w a K Q h hK
  cases hq : P.info? s.e with
  | none => simp [hq] at hi
  | some i =>
    have hsz : i.size = s.n := by simp [hq] at hi; exact hi.1
    have hby : i.bytes = by_ := by simp [hq] at hi; exact hi.2
    have hiz : i.zero = some z := by simpa [hq] using hz
    have hwrap : IntKind.i64.wrap (n : Int) = n := IntWalk.i64_in _ (by omega)
    have hlen : ((Array.range (n * s.n)).map (z.cells[· % z.cells.size]!)).size = n * s.n := by simp
    have hrun : (execOp a.eval o).run P w = .ok (.value (.slice (some ⟨w.heap.size, 0, none⟩) n n)) (w.alloc (.cells ((Array.range (n * s.n)).map (z.cells[· % z.cells.size]!)) s.e)) := by
      have hnr : ∀ r, (newRow s.e r).run P w = .ok ⟨w.heap.size, 0, none⟩ (w.alloc (.cells r s.e)) := fun _ => rfl
      have hti : (typeInfo s.e).run P w = .ok i w := by simp [typeInfo, hq]
      have hso : (sizeOf s.e).run P w = .ok s.n w := run_sizeOf (by simp [hq, hsz]) w
      have hzv : (zeroValue s.e).run P w = .ok z w := by simp [zeroValue, typeInfo, hq, hiz]
      have h2 : (by_ : Int) * n ≤ 281474976710656 := by
        have : ((by_ * n : Nat) : Int) ≤ 281474976710656 := by omega
        rwa [Int.natCast_mul] at this
      simp only [execOp, ho, Instr.makeSlice, Sem.run_bind, run_underlying hu, Result.andThen_ok, ev_val h hx, ev_val h hy, asInt, asIntOf, Sem.run_pure, hti, hwrap, hby]
      rw [if_neg (by simpa using h2)]
      simp only [Sem.run_bind, run_askRoom, Result.andThen_ok, hso, Int.toNat_natCast]
      by_cases h0 : n * s.n = 0
      ·rw [if_pos h0]
       simp only [Sem.run_bind, Sem.run_pure, Result.andThen_ok, hnr]
       have e1 : ∀ f g : Nat → Value, (Array.range (n * s.n)).map f = (Array.range (n * s.n)).map g := fun f g => by rw [h0]; simp
       rw [e1 _ (z.cells[· % z.cells.size]!)]
      rw [if_neg h0]
      simp only [Sem.run_bind, Sem.run_pure, Result.andThen_ok, hzv, hnr]
    unfold Oper.wp
    rw [hrun]
    refine hK (locUpd ρ k (some (w.heap.size, n))) _ _ (h.alloc hσ hc hfr hhp n _ _ fun _ _ => ?_) (.sl _ _ _ fun s' els' h' => ?_)
    ·refine .row s _ _ (fun _ j => z.cells[j]!) (heap_new w _) hlen (by simp) (by simp only [maxLen]; omega) (fun el hel => ?_) (fun i el hi j x hj => ?_) fun i el hi j x hj => ?_
     ·rw [List.eq_of_mem_replicate hel]; simp [hzs]
     ·have hel := List.eq_of_mem_replicate (List.mem_of_getElem? hi)
      have hin : i < n := by have := (List.getElem?_eq_some_iff.1 hi).1; simpa using this
      subst hel
      have hjs : j < s.n := by have := (List.getElem?_eq_some_iff.1 hj).1; simp [hzs] at this; exact this
      have hlt : i * s.n + j < n * s.n := by
        have : (i + 1) * s.n ≤ n * s.n := Nat.mul_le_mul_right _ (by omega)
        rw [Nat.add_mul] at this; omega
      simp [hlt, hzs, Nat.mod_eq_of_lt hjs]
     have hel := List.eq_of_mem_replicate (List.mem_of_getElem? hi)
     subst hel
     simp only [List.getElem?_map, Option.map_eq_some_iff, Array.getElem?_toList] at hj
     obtain ⟨v, hv, rfl⟩ := hj
     have : z.cells[j]! = v := by
       have hlt := (Array.getElem?_eq_some_iff.1 hv).1
       simp [hlt] at hv ⊢
       exact hv
     rw [this]
     exact .val v
    rw [look_hd] at h'; cases h'
    exact ⟨by simp, fun _ => .inl ⟨w.heap.size, n, locUpd_same, rfl⟩⟩
theorem ok_index_row {t : TypeId} {x y : Operand} {k n i : Nat} {m : Int} {kk : IntKind} {s : RT} {els : List (List PV)} (ho : o.op = .indexAddr t x y) (hx : fr.ev x = some (.sl k n)) (hy : fr.ev y = some (.pv (.val (.int kk m)))) (hk : look hp k = some (.row s els)) (hn : els.length = n)
    (hu : P.underlying t = some (.slice s.e)) (he : (P.info? s.e).map (·.size) = some s.n) (hi : i < n) (hm : m = i) : OkV P c R1 o fr (look hp) (.rpt k n (i * s.n)) := by
  subst hm
  intro ρ w a h
  rcases h.row hx hk hn with ⟨b, cc, r, u, hv, hρ, h3, h4, hc, hcm, hwe, hcells, hu'⟩ | ⟨_, _, hnil⟩
  ·refine ⟨.pointer (some ⟨b, i * s.n, none⟩), fun w2 _ => ?_, .rpt _ _ _ _ fun s' els' h' => ?_⟩
   ·simp [execOp, ho, hv, ev_val h hy, Instr.indexAt, Sem.run_bind, asIntOf, run_underlying hu, hi, run_sizeOf he, Addr.add_mid]
   rw [hk] at h'; cases h'
   exact ⟨by omega, fun _ => ⟨b, cc, hρ, rfl⟩⟩
  subst hnil; simp at hn; omega
theorem All.rpt {ρ : Loc} {w : World} {a : Act} (h : All c ρ (look hp) w fr a) {x : Operand} {k n off : Nat} {s : RT} {els : List (List PV)} (hx : fr.ev x = some (.rpt k n off)) (hk : look hp k = some (.row s els)) (hn : els.length = n) :
    ∃ (b cc : Nat) (r : Array Value) (u : Nat → Nat → Value), a.eval x = .pointer (some ⟨b, off, none⟩) ∧ ρ k = some (b, cc) ∧ w.heap[b]? = some (.cells r s.e (0, 0)) ∧ r.size = cc * s.n ∧ n ≤ cc ∧ cc ≤ maxLen ∧ (∀ el ∈ els, el.length = s.n) ∧
      (∀ i el, els[i]? = some el → ∀ j x, el[j]? = some x → r[i * s.n + j]? = some (u i j)) ∧ ∀ i el, els[i]? = some el → ∀ j x, el[j]? = some x → RepP (owned c.F ρ) w x (u i j) := by
  have hr := h.ev hx
  generalize hv : a.eval x = v at hr
  cases hr with
  | rpt _ _ _ _ hh =>
    obtain ⟨b, cc, hρ, rfl⟩ := (hh s els hk).2 hn
    obtain ⟨o1, h1, h2⟩ := h.rel.obj k b cc hρ
    rw [hk] at h1; cases h1
    cases h2 with
    | row _ _ r u h3 h4 h5 h6 h7 h8 h9 => exact ⟨b, cc, r, u, rfl, hρ, h3, h4, hn ▸ h5, h6, h7, h8, h9⟩
theorem ok_load_row {t : TypeId} {x : Operand} {d : TypeDesc} {k n i j off : Nat} {s : RT} {els : List (List PV)} {el : List PV} {z : PV} (ho : o.op = .load t x) (hx : fr.ev x = some (.rpt k n off)) (hk : look hp k = some (.row s els)) (hn : els.length = n)
    (hoff : off = i * s.n + j) (hi : els[i]? = some el) (hj : el[j]? = some z) (hu : P.underlying t = some d) (hd : d.isRow = false) (hR1 : R1 k) : OkV P c R1 o fr (look hp) (.pv z) := by
  intro ρ w a h
  obtain ⟨b, cc, r, u, hv, hρ, h3, h4, hc, hcm, hwe, hcells, hu'⟩ := h.rpt hx hk hn
  refine ⟨u i j, fun w2 h2 => ?_, .pv _ _ (hu' i el hi j z hj)⟩
  have h3' : w2.heap[b]? = some (.cells r s.e (0, 0)) := (h2 b (h.rel.lt hρ) (.inr ⟨k, cc, hR1, hρ⟩)).trans h3
  subst hoff
  simp [execOp, ho, hv, Instr.loadAt, Instr.sureAddr, loadVar, Sem.run_bind, run_isAgg hu, hd, run_load, cell_at h3', hcells i el hi j z hj]
theorem ok_store_row {t : TypeId} {x y : Operand} {k n i j off : Nat} {s : RT} {els : List (List PV)} {el : List PV} {z : PV} (ho : o.op = .store t x y) (hx : fr.ev x = some (.rpt k n off)) (hy : fr.ev y = some (.pv z)) (hk : look hp k = some (.row s els)) (hn : els.length = n)
    (hoff : off = i * s.n + j) (hi : els[i]? = some el) (hj : j < el.length) (hs : (P.info? t).map (·.size) = some 1) (hz : z.one = true) (hR : ¬ c.R k) :
    Ok P c o fr (look hp) (.pv (.val undef)) (look ((k, some (.row s (els.set i (el.set j z)))) :: hp)) := by
  refine ok_skip fun ρ w a h => ?_
  obtain ⟨b, cc, r, u, hv, hρ, h3, h4, hc, hcm, hwe, hcells, hu'⟩ := h.rpt hx hk hn
  have hyv := h.ev hy
  have h1 := hyv.one (σ := look hp) hz
  generalize hvy : a.eval y = vy at hyv h1
  have hin : i < els.length := (List.getElem?_eq_some_iff.1 hi).1
  have hel : el.length = s.n := hwe el (List.mem_of_getElem? hi)
  have hlt : off < r.size := by
    have : (i + 1) * s.n ≤ cc * s.n := Nat.mul_le_mul_right _ (by omega)
    rw [Nat.add_mul] at this; omega
  have hst : (storeVar t ⟨b, off, none⟩ vy).run P w = .ok () (w.setRow b (r.setIfInBounds off vy)) := by
    have hcells : vy.cells = #[vy] := by cases vy <;> first | rfl | cases h1
    have := run_storeCells_at P b off s.e [vy] 0 r w h3 (by simp; omega) (by simpa using h1)
    simp [storeVar, hcells, Sem.run_bind, run_sizeOf hs, this]
    congr 1
    apply Array.ext'
    simp only [Array.toList_setIfInBounds]
    rw [List.set_eq_take_append_cons_drop, if_pos (by simp; omega)]
  refine ⟨ρ, w.setRow b (r.setIfInBounds off vy), by simp [execOp, ho, hv, hvy, Instr.storeAt, Instr.sureAddr, hst], ?_⟩
  refine h.write hρ hk ⟨rfl, by simp⟩ hR rfl rfl rfl (by simp) (fun j hj => setRow_other w b j _ hj) fun _ keep => ?_
  have hz' : RepP (owned c.F ρ) w z vy := by cases hyv; assumption
  refine .row s _ (r.setIfInBounds off vy) (fun i' j' => if i' = i ∧ j' = j then vy else u i' j') (setRow_heap w b r _ s.e _ h3) (by simp [h4]) (by simp; omega) hcm (fun el' hel' => ?_) (fun i' el' hi' j' x hj' => ?_) fun i' el' hi' j' x hj' => ?_
  ·rcases List.mem_or_eq_of_mem_set hel' with h5 | rfl
   ·exact hwe _ h5
   simpa using hel
  ·by_cases e1 : i' = i
   ·subst e1
    rw [List.getElem?_set_self hin] at hi'
    cases hi'
    by_cases e2 : j' = j
    ·subst e2
     simp only [and_self, if_true, ← hoff]
     simp [hlt]
    rw [List.getElem?_set_ne (Ne.symm e2)] at hj'
    have := hcells i' el hi j' x hj'
    rw [if_neg (by simp [e2]), Array.getElem?_setIfInBounds, if_neg (by omega), this]
   rw [List.getElem?_set_ne (Ne.symm e1)] at hi'
   have := hcells i' el' hi' j' x hj'
   have hl' := hwe _ (List.mem_of_getElem? hi')
   have hj'' : j' < el'.length := (List.getElem?_eq_some_iff.1 hj').1
   rw [if_neg (by simp [e1]), Array.getElem?_setIfInBounds, if_neg ?_, this]
   intro e3
   have hsn : 0 < s.n := by omega
   have h6 : (i * s.n + j) / s.n = i := by rw [Nat.add_comm, Nat.add_mul_div_right _ _ hsn, Nat.div_eq_of_lt (by omega), Nat.zero_add]
   have h7 : (i' * s.n + j') / s.n = i' := by rw [Nat.add_comm, Nat.add_mul_div_right _ _ hsn, Nat.div_eq_of_lt (by omega), Nat.zero_add]
   rw [← hoff, e3, h7] at h6
   exact e1 h6
  by_cases e1 : i' = i
  ·subst e1
   rw [List.getElem?_set_self hin] at hi'
   cases hi'
   by_cases e2 : j' = j
   ·subst e2
    rw [List.getElem?_set_self hj] at hj'
    cases hj'
    rw [if_pos ⟨rfl, rfl⟩]; exact keep _ _ hz'
   rw [List.getElem?_set_ne (Ne.symm e2)] at hj'
   rw [if_neg (by simp [e2])]; exact keep _ _ (hu' _ _ hi _ _ hj')
  rw [List.getElem?_set_ne (Ne.symm e1)] at hi'
  rw [if_neg (by simp [e1])]; exact keep _ _ (hu' _ _ hi' _ _ hj')
theorem ok_makeFunc {f : Fn} {xs ys : Array Operand} {us vs : List IV} {σ : Heap'} (ho : o.op = .makeFunc f xs ys) (hx : evs fr xs.toList = some us) (hy : evs fr ys.toList = some vs) : OkV P c R1 o fr σ (.fn f us vs) := by
  intro ρ w a h
  obtain ⟨l1, r1⟩ := evs_rep h hx
  obtain ⟨l2, r2⟩ := evs_rep h hy
  refine ⟨.func f (xs.map a.eval) (ys.map a.eval), fun w2 _ => by simp [execOp, ho, Instr.makeFunc], .fn _ _ _ _ _ (fun j => (xs.map a.eval).getD j undef) (fun j => (ys.map a.eval).getD j undef) (by simpa using l1.symm) (fun j x hj => ?_) (fun j x hj => ?_) (by simpa using l2.symm) (fun j x hj => ?_) fun j x hj => ?_⟩
  ·obtain ⟨v, hv, _⟩ := r1 j x hj
   have : (xs.map a.eval)[j]? = some v := by rw [← Array.getElem?_toList]; simpa using hv
   simp only [Array.getD_eq_getD_getElem?, this, Option.getD_some]
  ·obtain ⟨v, hv, hr⟩ := r1 j x hj
   have : (xs.map a.eval)[j]? = some v := by rw [← Array.getElem?_toList]; simpa using hv
   simp only [Array.getD_eq_getD_getElem?, this, Option.getD_some]
   exact hr
  ·obtain ⟨v, hv, _⟩ := r2 j x hj
   have : (ys.map a.eval)[j]? = some v := by rw [← Array.getElem?_toList]; simpa using hv
   simp only [Array.getD_eq_getD_getElem?, this, Option.getD_some]
  obtain ⟨v, hv, hr⟩ := r2 j x hj
  have : (ys.map a.eval)[j]? = some v := by rw [← Array.getElem?_toList]; simpa using hv
  simp only [Array.getD_eq_getD_getElem?, this, Option.getD_some]
  exact hr
theorem repL_append {F : Nat → Prop} {ρ : Loc} {σ : Heap'} {w : World} {xs ys : List IV} {vs ws : List Value} (h : RepL F ρ σ w xs vs) (h' : RepL F ρ σ w ys ws) : RepL F ρ σ w (xs ++ ys) (vs ++ ws) := by
  refine ⟨by simp [h.1, h'.1], fun j x hj => ?_⟩
  by_cases e : j < xs.length
  ·rw [List.getElem?_append_left e] at hj
   obtain ⟨v, hv, hr⟩ := h.2 j x hj
   exact ⟨v, by rw [List.getElem?_append_left (by have := h.1; omega)]; exact hv, hr⟩
  rw [List.getElem?_append_right (by omega)] at hj
  obtain ⟨v, hv, hr⟩ := h'.2 _ x hj
  exact ⟨v, by rw [List.getElem?_append_right (by have := h.1; omega), ← h.1]; exact hv, hr⟩
theorem ok_callv {f : FuncId} {q : Operand} {os : Array Operand} {tys : Array TypeId} {us ws xs args : List IV} {pre post : List (Nat × HO)} {R : Nat → Prop} {r : IV} (hsc : SC P f args pre R r post) (hf : enters P f)
    (ho : o.op = .call { callee := .value q, args := os, argTypes := tys }) (hq : fr.ev q = some (.fn (.func f) us ws)) (hx : evs fr os.toList = some xs) (hs : Subs (look hp) (us ++ xs ++ ws) args) (hpre : ∀ k o, look (up pre) k = some o → look hp k = some o) (hdom : pre.map (·.1) = post.map (·.1))
    (hR : ∀ k, c.R k → R k) (hr : only (post.map (·.1)) r = true) (hpost : onlyHp (post.map (·.1)) post = true) : Ok P c o fr (look hp) r (look (up post ++ hp)) := by
  intro ρ w a K Q h hK
  obtain ⟨fn, hfn, hname, hbody⟩ := hf
  have hqr := h.ev hq
  generalize hqv : a.eval q = v at hqr
  cases hqr with
  | fn _ _ _ va wa u t hl hv hr1 hl' hv' hr1' =>
    have h1 : RepL c.F ρ (look hp) w us va.toList := ⟨by simp [hl], fun j x hj => ⟨u j, by simpa using hv j x hj, hr1 j x hj⟩⟩
    have h2 : RepL c.F ρ (look hp) w ws wa.toList := ⟨by simp [hl'], fun j x hj => ⟨t j, by simpa using hv' j x hj, hr1' j x hj⟩⟩
    have hargs := hs _ _ _ _ (repL_append (repL_append h1 (evs_rep h hx)) h2)
    have hrun : (execOp a.eval o).run P w = .ok (.enter f (va.toList ++ os.toList.map a.eval ++ wa.toList).toArray) w := by
      have hcall : (callFunc f (va.toList ++ os.toList.map a.eval ++ wa.toList).toArray).run P w = .ok (.enter f (va.toList ++ os.toList.map a.eval ++ wa.toList).toArray) w := by
        unfold callFunc
        simp only [Sem.run_bind]
        show (Result.andThen (.ok P w) _) = _
        simp only [Result.andThen_ok, hfn, hname, hbody]
        rfl
      simp only [execOp, ho, resolve, hqv, Deferred.ofValue, Sem.run_bind, Sem.run_pure, Result.andThen_ok, invoke]
      rw [← hcall]
      congr 2
      apply Array.ext'
      simp
    unfold Oper.wp
    rw [hrun, Oper.upon_enter]
    refine (hsc.step h hargs hpre hdom (fun k h => .inr (hR k h)) hr hpost).mono ?_
    rintro e w' ⟨ρ', v, rfl, h1, h2⟩
    exact hK ρ' w' v h1 h2
theorem sub_func {F : Nat → Prop} {ρ : Loc} {σ : Heap'} {w : World} {f : Fn} {v : Value} (h : RepI F ρ σ w (.pv (.val (.func f #[] #[]))) v) : RepI F ρ σ w (.fn f [] []) v := by
  obtain rfl := h.val
  exact .fn f [] [] #[] #[] (fun _ => undef) (fun _ => undef) rfl (by simp) (by simp) rfl (by simp) (by simp)
theorem sub_nil {F : Nat → Prop} {ρ : Loc} {σ : Heap'} {w : World} {v : Value} (h : RepI F ρ σ w (.pv (.val (.slice none 0 0))) v) : RepI F ρ σ w (.pv (.seq [])) v := by
  obtain rfl := h.val
  exact .pv _ _ (.seq [] none 0 0 0 (fun _ _ => undef) (by simp) (by simp) (by simp) (by simp [maxLen]) (by simp) (by simp))
end
section
variable {P : Program} {c : Cx} {R1 : Nat → Prop} {o : Oper} {fr : Fr} {hp : Hp}
theorem i64_add {m n z : Int} (h : m + n = z) (h1 : -9223372036854775808 ≤ z ∧ z ≤ 9223372036854775807) : intBin .add .i64 m n = some (.int .i64 z) := by
  subst h; simp only [intBin]; rw [IntWalk.i64_in _ h1]
theorem i64_sub {m n z : Int} (h : m - n = z) (h1 : -9223372036854775808 ≤ z ∧ z ≤ 9223372036854775807) : intBin .sub .i64 m n = some (.int .i64 z) := by
  subst h; simp only [intBin]; rw [IntWalk.i64_in _ h1]
def firmB : List (Nat × IV) → Bool
  | [] => true
  | (_, x) :: r => (match x with
    | .pv (.agg _) => true
    | .pv p => p.one
    | .agg _ => true
    | .fn .. => true
    | _ => false) && firmB r
theorem firmB_ok {σ : Heap'} : ∀ {xs : List (Nat × IV)}, firmB xs = true → firmParts σ xs
  | (i, x) :: r, h, p, hp, hn => by
    simp only [firmB, Bool.and_eq_true] at h
    rcases List.mem_cons.1 hp with rfl | hp
    ·have h1 := h.1
     cases x with
     | pv q => cases q <;> first | exact h1 | (simp [IV.parts] at hn)
     | agg => simp [IV.parts] at hn
     | fn => trivial
     | _ => cases h1
    exact firmB_ok h.2 p hp hn
def firmL : List IV → Bool
  | [] => true
  | x :: r => (match x with
    | .pv p => p.one
    | .fn .. => true
    | _ => false) && firmL r
theorem firmL_ok {σ : Heap'} : ∀ {xs : List IV}, firmL xs = true → ∀ x ∈ xs, x.firm σ
  | y :: r, h, x, hx => by
    simp only [firmL, Bool.and_eq_true] at h
    rcases List.mem_cons.1 hx with rfl | hx
    ·have h1 := h.1
     cases x with
     | pv q => exact h1
     | fn => trivial
     | _ => cases h1
    exact firmL_ok h.2 x hx
def postOk : List (Nat × HO) → Hp → Prop
  | [], _ => True
  | (k, o) :: r, hp => look hp k = some o ∧ postOk r hp
theorem post_ok : ∀ {post : List (Nat × HO)} {hp : Hp}, postOk post hp → ∀ k o, look (up post) k = some o → look hp k = some o
  | [], _, _, _, _, hk => by simp [up, look] at hk
  | (j, q) :: r, hp, h, k, o, hk => by
    simp only [up, List.map_cons, look] at hk
    cases hb : Nat.beq j k with
    | true => rw [hb] at hk; obtain rfl := Nat.eq_of_beq_eq_true hb; cases hk; exact h.1
    | false => rw [hb] at hk; exact post_ok (post := r) h.2 k o hk
theorem new_app {A : Heap'} {hp : Hp} {l : List (Nat × HO)} (h : l.all (fun p => (look hp p.1).isSome) = true) : ∀ k, look hp k = none → look (up l ++ hp) k ≠ none → A k = none := by
  intro k h1 h2
  rw [look_append, h1] at h2
  cases hq : look (up l) k with
  | none => rw [hq] at h2; exact absurd rfl h2
  | some o =>
    have := List.all_eq_true.1 h _ (look_up_mem hq)
    rw [h1] at this
    cases this
theorem look_shadow {k : Nat} {o o2 : Option HO} {hp : Hp} : look ((k, o) :: (k, o2) :: hp) = look ((k, o) :: hp) := by
  funext j
  simp only [look]
  cases Nat.beq k j <;> rfl
theorem ret_ok {fn : Func} {x r : IV} {post : List (Nat × HO)} {σ : Heap'} (hx : resOf fn fr = some x) (hr : x = r) (hσ : ∀ k o, look (up post) k = some o → σ k = some o) : retQ fn r post .ret fr σ :=
  ⟨⟨x, hx, fun _ _ _ _ h => hr ▸ h⟩, hσ⟩
theorem end_ok {fn : Func} {x r : IV} {post : List (Nat × HO)} {σ : Heap'} (hx : resOf fn fr = some x) (hr : x = r) (hσ : ∀ k o, look (up post) k = some o → σ k = some o) : retQ fn r post .normal fr σ :=
  ⟨⟨x, hx, fun _ _ _ _ h => hr ▸ h⟩, hσ⟩
theorem no_post {σ : Heap'} : ∀ (k : Nat) (o : HO), look (up []) k = some o → σ k = some o := fun _ _ h => by cases h
theorem SC.anyR {f : FuncId} {args : List IV} {R R' : Nat → Prop} {r : IV} (h : SC P f args [] R r []) : SC P f args [] R' r [] := by
  intro F ρ w vs hkept hrel hargs
  refine (h F ρ w vs hkept hrel hargs).mono ?_
  rintro e w' ⟨ρ', v, he, hr, hrel', t⟩
  refine ⟨ρ', v, he, hr, hrel', ⟨t.os, t.tape, t.output, t.size, fun b hb _ => t.blk b hb fun k cc hk => ?_, t.own, t.box, t.map, t.row, t.grow, t.kindB, t.kindM, t.kindR⟩⟩
  obtain ⟨o, ho, _⟩ := hrel.obj k b cc hk
  cases ho
theorem ok_callq {f : FuncId} {os : Array Operand} {tys : Array TypeId} {xs args : List IV} {r : IV} {R : Nat → Prop} (hsc : SC P f args [] R r []) (hf : enters P f) (ho : o.op = .call { callee := .value (.func f), args := os, argTypes := tys })
    (hx : evs fr os.toList = some xs) (hs : Subs (look hp) xs args) (hr : only [] r = true) : Ok P c o fr (look hp) r (look hp) :=
  ok_callp (R := c.R) hsc.anyR hf ho hx hs (fun _ h => h) hr
theorem Subs.cons {σ : Heap'} {x y : IV} {xs ys : List IV} (h : ∀ F ρ w v, RepI F ρ σ w x v → RepI F ρ σ w y v) (hs : Subs σ xs ys) : Subs σ (x :: xs) (y :: ys) := by
  intro F ρ w vs hv
  match vs with
  | [] => have := hv.1; simp at this
  | v :: vs =>
    have ht := hs F ρ w vs ⟨by have := hv.1; simpa using this, fun j z hj => hv.2 (j + 1) z (by simpa using hj)⟩
    refine ⟨by have := hv.1; have := ht.1; simp; omega, fun j z hj => ?_⟩
    cases j with
    | zero => cases hj; obtain ⟨u, hu, hr⟩ := hv.2 0 x rfl; exact ⟨u, hu, h _ _ _ _ hr⟩
    | succ j => exact ht.2 j z (by simpa using hj)
theorem Subs.same {σ : Heap'} {x y : IV} {xs ys : List IV} (h : x = y) (hs : Subs σ xs ys) : Subs σ (x :: xs) (y :: ys) := Subs.cons (fun _ _ _ _ hr => h ▸ hr) hs
theorem Subs.nil {σ : Heap'} : Subs σ [] [] := Subs.refl σ []
theorem ok_box {t : TypeId} {x : Operand} {ps : List PV} {σ : Heap'} (ho : o.op = .box t x) (hx : fr.ev x = some (.pv (.agg ps))) : Ok P c o fr σ (.pv (.ept ps 0)) σ := by
  intro ρ w a K Q h hK
  have hr := h.ev hx
  generalize hv : a.eval x = v at hr
  cases hr with
  | pv _ _ hr =>
    cases hr with
    | agg _ vs u hl hv' hr =>
      have hrun : (execOp a.eval o).run P w = .ok (.value (.pointer (some ⟨w.heap.size, 0, none⟩))) (w.alloc (.cells vs t)) := by
        have hn : (newVar t (.agg vs)).run P w = .ok ⟨w.heap.size, 0, none⟩ (w.alloc (.cells vs t)) := rfl
        simp only [execOp, ho, hv, Instr.box, Sem.run_bind, hn, Result.andThen_ok]
        rfl
      unfold Oper.wp
      rw [hrun]
      obtain ⟨h3, keep⟩ := h.push (.cells vs t)
      refine hK ρ _ _ h3 (.pv _ _ (.ept ps 0 w.heap.size 0 u ⟨h.fresh, by simp⟩ (fun j z hj => ?_) fun j z hj => keep _ _ (hr j z hj)))
      rw [cell_at (heap_new w _), Nat.zero_add]
      exact hv' j z hj
theorem All.freezeBox {ρ : Loc} {w : World} {a : Act} {k t : Nat} {cs : List IV} {ps : List PV} (h : All c ρ (look hp) w fr a) (ht : fr.get t = some (.ptr k 0)) (hk : look hp k = some (.box cs)) (hps : purify cs = some ps) :
    All c (locUpd ρ k none) (look ((k, none) :: hp)) w ((t, .pv (.ept ps 0)) :: fr) a := by
  have h' := h.drop (k := k)
  obtain ⟨b, cc, e, r, u, hv, hρ, h3, h4, h5, h6⟩ := h.box (x := .tmp t) ht hk
  obtain ⟨hl, hg⟩ := purify_get hps
  have hown : ∀ b, owned c.F (locUpd ρ k none) b → owned c.F ρ b := fun b hb => by
    rcases hb with hb | ⟨j, cc, hj⟩
    ·exact .inl hb
    by_cases e : j = k
    ·subst e; rw [locUpd_same] at hj; cases hj
    rw [locUpd_ne (Ne.symm e)] at hj; exact .inr ⟨j, cc, hj⟩
  refine ⟨h'.rel, fun t' z hz => ?_, h'.tr, h'.df, h'.sz, h.kk⟩
  simp only [Fr.get] at hz
  cases hb : Nat.beq t t' with
  | true =>
    rw [hb] at hz; cases hz
    obtain rfl := Nat.eq_of_beq_eq_true hb
    obtain ⟨v, hv', _⟩ := h.fr t _ ht
    have : v = .pointer (some ⟨b, 0, none⟩) := by rw [← hv]; simp [Act.eval, hv']
    subst this
    refine ⟨_, hv', .pv _ _ (.ept ps 0 b 0 u ⟨fun ho => ?_, h.rel.lt hρ⟩ (fun j z hj => ?_) fun j z hj => ?_)⟩
    ·rcases ho with ho | ⟨j, cc', hj⟩
     ·exact h.rel.apart _ _ _ hρ ho
     by_cases e : j = k
     ·subst e; rw [locUpd_same] at hj; cases hj
     rw [locUpd_ne (Ne.symm e)] at hj; exact e (h.rel.inj _ _ _ _ _ hj hρ)
    ·rw [cell_at h3, Nat.zero_add]; exact h5 j _ (hg j z hj)
    have := h6 j _ (hg j z hj)
    cases this with
    | pv _ _ hr => exact hr.own hown
  | false => rw [hb] at hz; exact h'.fr t' z hz
theorem Tr.freezeBox {x : Code} {Q : Exit → Fr → Heap' → Prop} {k t : Nat} {cs : List IV} {ps : List PV} (ht : fr.get t = some (.ptr k 0)) (hk : look hp k = some (.box cs)) (hps : purify cs = some ps)
    (h : Tr P c x ((t, .pv (.ept ps 0)) :: fr) (look ((k, none) :: hp)) Q) : Tr P c x fr (look hp) Q := fun _ w a ha => h _ w a (ha.freezeBox ht hk hps)
theorem new_one {hp : Hp} {k0 : Nat} {o : Option HO} {σ0 : Heap'} (h : σ0 k0 = none) (k : Nat) (h1 : look hp k = none) (h2 : look ((k0, o) :: hp) k ≠ none) : σ0 k = none := by
  by_cases e : k = k0
  ·subst e; exact h
  rw [look_ne (Ne.symm e)] at h2; exact absurd h1 h2
theorem new_old {hp : Hp} {k0 : Nat} {o : Option HO} {σ0 : Heap'} {o' : HO} (h : look hp k0 = some o') (k : Nat) (h1 : look hp k = none) (h2 : look ((k0, o) :: hp) k ≠ none) : σ0 k = none := by
  by_cases e : k = k0
  ·subst e; rw [h] at h1; cases h1
  rw [look_ne (Ne.symm e)] at h2; exact absurd h1 h2
theorem Tr.condT {x : Operand} {y z : Code} {σ : Heap'} {Q : Exit → Fr → Heap' → Prop} (hx : fr.ev x = some (.pv (.val (.bool true)))) (hy : Tr P c y fr σ Q) : Tr P c (.cond x y z) fr σ Q := Tr.cond hx (fun _ => hy) (fun h => by cases h)
theorem Tr.condF {x : Operand} {y z : Code} {σ : Heap'} {Q : Exit → Fr → Heap' → Prop} (hx : fr.ev x = some (.pv (.val (.bool false)))) (hz : Tr P c z fr σ Q) : Tr P c (.cond x y z) fr σ Q := Tr.cond hx (fun h => by cases h) (fun _ => hz)
theorem All.lenOf {ρ : Loc} {σ : Heap'} {w : World} {a : Act} {t : Nat} {els : List (List PV)} (h : All c ρ σ w fr a) (ht : fr.get t = some (.pv (.seq els))) : els.length ≤ 9223372036854775807 := by
  obtain ⟨v, _, hr⟩ := h.fr t _ ht
  cases hr with
  | pv _ _ hr =>
    cases hr with
    | seq _ _ cap _ _ _ _ _ hl hm => simp only [maxLen] at hm; omega
theorem Tr.lenOf {x : Code} {σ : Heap'} {Q : Exit → Fr → Heap' → Prop} {t : Nat} {els : List (List PV)} (ht : fr.get t = some (.pv (.seq els))) (h : els.length ≤ 9223372036854775807 → Tr P c x fr σ Q) : Tr P c x fr σ Q := fun ρ w a ha => h (ha.lenOf ht) ρ w a ha
theorem WL.lenOf {ops : Array Oper} {l : List Oper} {σ : Heap'} {Q : Exit → Fr → Heap' → Prop} {t : Nat} {els : List (List PV)} (ht : fr.get t = some (.pv (.seq els))) (h : els.length ≤ 9223372036854775807 → WL P c ops Q l fr σ) : WL P c ops Q l fr σ := fun ρ w a ha => h (ha.lenOf ht) ρ w a ha
theorem All.rowLen {ρ : Loc} {w : World} {a : Act} {t k n : Nat} {s : RT} {els : List (List PV)} (h : All c ρ (look hp) w fr a) (ht : fr.get t = some (.sl k n)) (hk : look hp k = some (.row s els)) (hn : els.length = n) : n ≤ 9223372036854775807 := by
  rcases h.row (x := .tmp t) ht hk hn with ⟨b, cc, r, u, _, _, _, _, hc, hcm, _⟩ | ⟨_, _, hnil⟩
  ·simp only [maxLen] at hcm; omega
  subst hnil; simp at hn; omega
theorem Tr.rowLen {x : Code} {Q : Exit → Fr → Heap' → Prop} {t k n : Nat} {s : RT} {els : List (List PV)} (ht : fr.get t = some (.sl k n)) (hk : look hp k = some (.row s els)) (hn : els.length = n) (h : n ≤ 9223372036854775807 → Tr P c x fr (look hp) Q) : Tr P c x fr (look hp) Q := fun ρ w a ha => h (ha.rowLen ht hk hn) ρ w a ha
theorem Tr.cut {x : Code} {σ σ' : Heap'} {fr' : Fr} {Q : Exit → Fr → Heap' → Prop} (h : Tr P c x fr σ (fun e fr1 σ1 => e = .normal ∧ Sub σ1 fr1 fr' ∧ σ1 = σ')) (h2 : Q .normal fr' σ') : Tr P c x fr σ Q :=
  fun ρ w a ha => wp_mono (h ρ w a ha) fun e a w ⟨ρ1, σ1, fr1, ha1, he, hs, hσ⟩ => by
    subst he; subst hσ
    exact ⟨ρ1, σ1, fr', ha1.sub hs, h2⟩
def runOk (ops : Array Oper) : Array Bool → List Nat → Bool
  | _, [] => true
  | listed, i :: is => Region.free .any ops listed i && (Region.ready .any ops listed).contains i && runOk ops (listed.setIfInBounds i true) is
def WR (P : Program) (c : Cx) (R1 : Nat → Prop) (ops : Array Oper) (Q : Exit → Fr → Heap' → Prop) (is : List Nat) (fuel : Nat) (listed : Array Bool) (fr : Fr) (σ : Heap') : Prop :=
  Region.noSelect ops = true → (∀ ch fr σ, ¬ Q (.panic ch) fr σ) → runOk ops listed is = true → WA P c R1 ops Q (fuel + is.length) listed fr σ
theorem WA.run {ops : Array Oper} {Q : Exit → Fr → Heap' → Prop} {fuel : Nat} {listed : Array Bool} {σ : Heap'} (is : List Nat) (hs : Region.noSelect ops = true) (hQ : ∀ ch fr σ, ¬ Q (.panic ch) fr σ) (hr : runOk ops listed is = true) (h : WR P c R1 ops Q is fuel listed fr σ) : WA P c R1 ops Q (fuel + is.length) listed fr σ := h hs hQ hr
theorem WR.nil {ops : Array Oper} {Q : Exit → Fr → Heap' → Prop} {fuel : Nat} {listed : Array Bool} {σ : Heap'} (h : WA P c R1 ops Q fuel listed fr σ) : WR P c R1 ops Q [] fuel listed fr σ := fun _ _ _ => h
theorem WR.cons {ops : Array Oper} {Q : Exit → Fr → Heap' → Prop} {is : List Nat} {fuel i d : Nat} {listed : Array Bool} {σ : Heap'} {x : IV} (hi : ops[i]? = some o) (hg : o.guard = none) (hd : o.dst = some d) (hn : Nat.blt d c.n = true) (hok : OkV P c R1 o fr σ x)
    (h : WR P c R1 ops Q is fuel (listed.setIfInBounds i true) ((d, x) :: fr) σ) : WR P c R1 ops Q (i :: is) fuel listed fr σ := by
  intro hs hQ hr
  simp only [runOk, Bool.and_eq_true] at hr
  exact WA.take hi hs hr.1.1 hr.1.2 hQ hg hd hn hok (h hs hQ hr.2)
theorem WR.yes {ops : Array Oper} {Q : Exit → Fr → Heap' → Prop} {is : List Nat} {fuel i d j t : Nat} {listed : Array Bool} {σ : Heap'} {x : IV} {b : Bool} {oj : Oper} (hi : ops[i]? = some o) (hg : o.guard = some (j, b)) (hj : ops[j]? = some oj) (ht : oj.dst = some t) (hb : fr.get t = some (.pv (.val (.bool b))))
    (hd : o.dst = some d) (hn : Nat.blt d c.n = true) (hok : OkV P c R1 o fr σ x) (h : WR P c R1 ops Q is fuel (listed.setIfInBounds i true) ((d, x) :: fr) σ) : WR P c R1 ops Q (i :: is) fuel listed fr σ := by
  intro hs hQ hr
  simp only [runOk, Bool.and_eq_true] at hr
  exact WA.takeYes hi hs hr.1.1 hr.1.2 hQ hg hj ht hb hd hn hok (h hs hQ hr.2)
theorem WR.no {ops : Array Oper} {Q : Exit → Fr → Heap' → Prop} {is : List Nat} {fuel i d j t : Nat} {listed : Array Bool} {σ : Heap'} {b : Bool} {oj : Oper} (hi : ops[i]? = some o) (hg : o.guard = some (j, !b)) (hj : ops[j]? = some oj) (ht : oj.dst = some t) (hb : fr.get t = some (.pv (.val (.bool b))))
    (hd : o.dst = some d) (hn : Nat.blt d c.n = true) (h : WR P c R1 ops Q is fuel (listed.setIfInBounds i true) ((d, .pv (.val undef)) :: fr) σ) : WR P c R1 ops Q (i :: is) fuel listed fr σ := by
  intro hs hQ hr
  simp only [runOk, Bool.and_eq_true] at hr
  exact WA.takeNo hi hs hr.1.1 hr.1.2 hQ hg hj ht hb hd hn (h hs hQ hr.2)
theorem WR.split {ops : Array Oper} {Q : Exit → Fr → Heap' → Prop} {is : List Nat} {fuel t : Nat} {listed : Array Bool} {σ : Heap'} {b : Bool} (hb : fr.get t = some (.pv (.val (.bool b)))) (ht : b = true → WR P c R1 ops Q is fuel listed ((t, .pv (.val (.bool true))) :: fr) σ)
    (hf : b = false → WR P c R1 ops Q is fuel listed ((t, .pv (.val (.bool false))) :: fr) σ) : WR P c R1 ops Q is fuel listed fr σ :=
  fun hs hQ hr => WA.split hb (fun h => ht h hs hQ hr) (fun h => hf h hs hQ hr)
theorem ok_nilCheck {x : Operand} {k off : Nat} {cs : List IV} (ho : o.op = .nilCheck x) (hx : fr.ev x = some (.ptr k off)) (hk : look hp k = some (.box cs)) : OkV P c R1 o fr (look hp) (.ptr k off) := by
  intro ρ w a h
  obtain ⟨b, cc, e, r, u, hv, hρ, h3, h4, h5, h6⟩ := h.box hx hk
  exact ⟨.pointer (some ⟨b, off, none⟩), fun w2 _ => by simp [execOp, ho, hv], .ptr _ _ _ fun cs' _ => ⟨b, cc, hρ, rfl⟩⟩
theorem ok_nilCheck_ept {x : Operand} {cs : List PV} {off : Nat} {σ : Heap'} (ho : o.op = .nilCheck x) (hx : fr.ev x = some (.pv (.ept cs off))) : OkV P c R1 o fr σ (.pv (.ept cs off)) := by
  intro ρ w a h
  have hr := h.ev hx
  have hr' := hr.inv_ept
  generalize hv : a.eval x = v at hr hr'
  cases hr' with
  | ept _ _ b o' u hb hc hr1 => exact ⟨_, fun w2 _ => by simp [execOp, ho, hv], hr⟩
abbrev vInt (n : Int) : PV := .val (.int .i64 n)
abbrev vBool (b : Bool) : PV := .val (.bool b)
abbrev vStr (s : ByteArray) : PV := .val (.string s)
abbrev iInt (n : Int) : IV := .pv (vInt n)
abbrev iBool (b : Bool) : IV := .pv (vBool b)
abbrev iStr (s : ByteArray) : IV := .pv (vStr s)
def eInt (n : Int) : List PV := [vInt n]
def ints (l : List Int) : PV := .seq (l.map eInt)
theorem map_get {α : Type} {f : α → List PV} {l : List α} {i : Nat} {a : α} (h : l[i]? = some a) : (l.map f)[i]? = some (f a) := by simp [h]
inductive Nd where
  | mk (kind op n : Int) (name : ByteArray) (args outs params : List Int) (kids : List (List Nd))
mutual
def Nd.enc : Nd → List PV
  | .mk kind op n name args outs params kids => [vInt kind, vInt op, vInt n, vStr name, ints args, ints outs, ints params, .seq (Nd.encK kids)]
def Nd.encL : List Nd → List (List PV)
  | [] => []
  | x :: r => x.enc :: Nd.encL r
def Nd.encK : List (List Nd) → List (List PV)
  | [] => []
  | l :: r => [.seq (Nd.encL l)] :: Nd.encK r
end
theorem Nd.encL_eq : ∀ l, Nd.encL l = l.map Nd.enc
  | [] => rfl
  | x :: r => by simp [Nd.encL, Nd.encL_eq r]
def nodes (l : List Nd) : PV := .seq (l.map Nd.enc)
def eKid (l : List Nd) : List PV := [nodes l]
def kids (ks : List (List Nd)) : PV := .seq (ks.map eKid)
theorem Nd.encK_eq : ∀ ks, Nd.encK ks = ks.map eKid
  | [] => rfl
  | l :: r => by simp [Nd.encK, Nd.encK_eq r, eKid, nodes, Nd.encL_eq]
def Nd.cells : Nd → List PV
  | .mk kind op n name args outs params ks => [vInt kind, vInt op, vInt n, vStr name, ints args, ints outs, ints params, kids ks]
theorem Nd.enc_eq (x : Nd) : x.enc = x.cells := by
  cases x
  simp [Nd.enc, Nd.cells, kids, Nd.encK_eq]
def Nd.kind : Nd → Int | .mk k _ _ _ _ _ _ _ => k
def Nd.op : Nd → Int | .mk _ o _ _ _ _ _ _ => o
def Nd.n : Nd → Int | .mk _ _ n _ _ _ _ _ => n
def Nd.name : Nd → ByteArray | .mk _ _ _ s _ _ _ _ => s
def Nd.args : Nd → List Int | .mk _ _ _ _ a _ _ _ => a
def Nd.outs : Nd → List Int | .mk _ _ _ _ _ a _ _ => a
def Nd.params : Nd → List Int | .mk _ _ _ _ _ _ a _ => a
def Nd.kids : Nd → List (List Nd) | .mk _ _ _ _ _ _ _ ks => ks
theorem Nd.cells_eta (x : Nd) : x.cells = [vInt x.kind, vInt x.op, vInt x.n, vStr x.name, ints x.args, ints x.outs, ints x.params, Go.Proofs.YtahpinmlgnfklaaGreatDoor.kids x.kids] := by cases x; rfl
theorem nodes_get {l : List Nd} {i : Nat} {x : Nd} (h : l[i]? = some x) : (l.map Nd.enc)[i]? = some [vInt x.kind, vInt x.op, vInt x.n, vStr x.name, ints x.args, ints x.outs, ints x.params, kids x.kids] := by
  simp [h, Nd.enc_eq, Nd.cells_eta]
structure Fl where
  name : ByteArray
  ty : Int
  params : Int
  types : List Int
  body : List Nd
structure Ar where
  name : ByteArray
  size : Int
structure Un where
  arrays : List Ar
  flows : List Fl
def Fl.enc (f : Fl) : List PV := [vStr f.name, vInt f.ty, vInt f.params, ints f.types, nodes f.body]
def Ar.enc (a : Ar) : List PV := [vStr a.name, vInt a.size]
def arrs (l : List Ar) : PV := .seq (l.map Ar.enc)
def flws (l : List Fl) : PV := .seq (l.map Fl.enc)
def Un.enc (u : Un) : PV := .agg [arrs u.arrays, flws u.flows]
theorem hw_int {l : List Int} : ∀ el ∈ l.map eInt, el.length = 1 := by simp [eInt]
theorem hone_int {l : List Int} : ∀ el ∈ l.map eInt, ∀ x ∈ el, x.one = true := by
  intro el hel x hx
  obtain ⟨n, _, rfl⟩ := List.mem_map.1 hel
  obtain rfl := List.mem_singleton.1 hx
  rfl
def PSub (p q : PV) : Prop := ∀ own w v, RepP own w p v → RepP own w q v
theorem PSub.refl (p : PV) : PSub p p := fun _ _ _ h => h
theorem PSub.nil : PSub (.val (.slice none 0 0)) (.seq []) := by
  intro own w v h
  cases h
  exact .seq [] none 0 0 0 (fun _ _ => undef) (by simp) (by simp) (by simp) (by simp [maxLen]) (by simp) (by simp)
def PSubs : List PV → List PV → Prop
  | [], [] => True
  | p :: ps, q :: qs => PSub p q ∧ PSubs ps qs
  | _, _ => False
theorem PSubs.length : ∀ {ps qs : List PV}, PSubs ps qs → ps.length = qs.length
  | [], [], _ => rfl
  | p :: ps, q :: qs, h => congrArg (· + 1) (PSubs.length h.2)
theorem PSubs.at : ∀ {ps qs : List PV}, PSubs ps qs → ∀ {j : Nat} {q : PV}, qs[j]? = some q → ∃ p, ps[j]? = some p ∧ PSub p q
  | [], [], _, j, q, hj => by simp at hj
  | p :: ps, q :: qs, h, 0, q', hj => by cases hj; exact ⟨p, rfl, h.1⟩
  | p :: ps, q :: qs, h, j + 1, q', hj => by simpa using PSubs.at h.2 (by simpa using hj)
theorem PSub.agg {ps qs : List PV} (h : PSubs ps qs) : PSub (.agg ps) (.agg qs) := by
  intro own w v hv
  cases hv with
  | agg _ vs u hl hu hr =>
    refine .agg _ vs u (hl.trans h.length) (fun j q hj => ?_) (fun j q hj => ?_)
    ·obtain ⟨p, hp, _⟩ := h.at hj; exact hu j p hp
    obtain ⟨p, hp, hpq⟩ := h.at hj; exact hpq _ _ _ (hr j p hp)
def PSubss : List (List PV) → List (List PV) → Prop
  | [], [] => True
  | p :: ps, q :: qs => PSubs p q ∧ PSubss ps qs
  | _, _ => False
theorem PSubss.length : ∀ {ps qs : List (List PV)}, PSubss ps qs → ps.length = qs.length
  | [], [], _ => rfl
  | p :: ps, q :: qs, h => congrArg (· + 1) (PSubss.length h.2)
theorem PSubss.at : ∀ {ps qs : List (List PV)}, PSubss ps qs → ∀ {j : Nat} {q : List PV}, qs[j]? = some q → ∃ p, ps[j]? = some p ∧ PSubs p q
  | [], [], _, j, q, hj => by simp at hj
  | p :: ps, q :: qs, h, 0, q', hj => by cases hj; exact ⟨p, rfl, h.1⟩
  | p :: ps, q :: qs, h, j + 1, q', hj => by simpa using PSubss.at h.2 (by simpa using hj)
theorem PSub.seq {ps qs : List (List PV)} (h : PSubss ps qs) : PSub (.seq ps) (.seq qs) := by
  intro own w v hv
  have hne : qs ≠ [] → ps ≠ [] := fun hq hp => hq (List.eq_nil_of_length_eq_zero (by rw [← h.length, hp]; rfl))
  cases hv with
  | seq _ a cap b off u ha hb hl hm hc hr =>
    rw [h.length] at hl ⊢
    refine .seq _ a cap b off u (fun hq => ha (hne hq)) (fun hq => hb (hne hq)) hl hm (fun i el hi j x hj => ?_) (fun i el hi j x hj => ?_)
    ·obtain ⟨el', hp, hs⟩ := h.at hi
     obtain ⟨y, hy, _⟩ := hs.at hj
     have := hc i el' hp j y hy
     rwa [hs.length] at this
    obtain ⟨el', hp, hs⟩ := h.at hi
    obtain ⟨y, hy, hyx⟩ := hs.at hj
    exact hyx _ _ _ (hr i el' hp j y hy)
theorem sub_pv {F : Nat → Prop} {ρ : Loc} {σ : Heap'} {w : World} {v : Value} {p q : PV} (h : PSub p q) (hv : RepI F ρ σ w (.pv p) v) : RepI F ρ σ w (.pv q) v := by
  cases hv with
  | pv _ _ hp => exact .pv _ _ (h _ _ _ hp)
end
section
variable {P : Program} {c : Cx} {R1 : Nat → Prop} {fr : Fr} {hp : Hp} {σ σ' : Heap'} {Q : Exit → Fr → Heap' → Prop} {ops : Array Oper} {l : List Oper} {d e j i t : Nat} {b b' : Bool} {x z : IV} {op : Op} {ty : TypeId} {ps : String} {af : Array Edge} {g : Option (Nat × Bool)} {ds : Option Nat}
def gd (ops : Array Oper) (fr : Fr) (j : Nat) : Option Bool :=
  match ops[j]? with
  | some o => match o.dst with
    | some t => match fr.get t with
      | some (.pv (.val (.bool b))) => some b
      | _ => none
    | none => none
  | none => none
theorem gd_some (h : gd ops fr j = some b) : ∃ oj t, ops[j]? = some oj ∧ oj.dst = some t ∧ fr.get t = some (.pv (.val (.bool b))) := by
  unfold gd at h
  split at h
  · rename_i o ho
    split at h
    · rename_i t ht
      split at h
      · rename_i b' hb
        cases h
        exact ⟨o, t, ho, ht, hb⟩
      · cases h
    · cases h
  · cases h
theorem cV (hn : Nat.blt d c.n = true) (hok : OkV P c (fun _ => True) ⟨some d, op, ty, ps, af, none⟩ fr σ x) (h : WL P c ops Q l ((d, x) :: fr) σ) : WL P c ops Q (⟨some d, op, ty, ps, af, none⟩ :: l) fr σ := WL.consV rfl rfl hn hok h
theorem yV (hg : gd ops fr j = some b) (hn : Nat.blt d c.n = true) (hok : OkV P c (fun _ => True) ⟨some d, op, ty, ps, af, some (j, b)⟩ fr σ x) (h : WL P c ops Q l ((d, x) :: fr) σ) : WL P c ops Q (⟨some d, op, ty, ps, af, some (j, b)⟩ :: l) fr σ := by
  obtain ⟨oj, t, h1, h2, h3⟩ := gd_some hg
  exact WL.yesV rfl h1 h2 h3 rfl hn hok h
theorem nV (hg : gd ops fr j = some (!b)) (hn : Nat.blt d c.n = true) (h : WL P c ops Q l ((d, .pv (.val undef)) :: fr) σ) : WL P c ops Q (⟨some d, op, ty, ps, af, some (j, b)⟩ :: l) fr σ := by
  obtain ⟨oj, t, h1, h2, h3⟩ := gd_some hg
  exact WL.no (b := !b) (by simp) h1 h2 h3 rfl hn h
theorem sV (hn : Nat.blt d c.n = true) (hok : OkV P c (fun _ => True) ⟨some d, op, ty, ps, af, none⟩ fr σ x) (h : WS P c ops Q l ((d, x) :: fr) σ) : WS P c ops Q (⟨some d, op, ty, ps, af, none⟩ :: l) fr σ := WS.consV rfl rfl hn hok h
theorem syV (hg : gd ops fr j = some b) (hn : Nat.blt d c.n = true) (hok : OkV P c (fun _ => True) ⟨some d, op, ty, ps, af, some (j, b)⟩ fr σ x) (h : WS P c ops Q l ((d, x) :: fr) σ) : WS P c ops Q (⟨some d, op, ty, ps, af, some (j, b)⟩ :: l) fr σ := by
  obtain ⟨oj, t, h1, h2, h3⟩ := gd_some hg
  exact WS.yes rfl h1 h2 h3 rfl hn hok h
theorem snV (hg : gd ops fr j = some (!b)) (hn : Nat.blt d c.n = true) (h : WS P c ops Q l ((d, .pv (.val undef)) :: fr) σ) : WS P c ops Q (⟨some d, op, ty, ps, af, some (j, b)⟩ :: l) fr σ := by
  obtain ⟨oj, t, h1, h2, h3⟩ := gd_some hg
  exact WS.no (b := !b) (by simp) h1 h2 h3 rfl hn h
section
variable {is : List Nat} {fuel : Nat} {li : Array Bool}
theorem rV (hi : ops[i]? = some ⟨some d, op, ty, ps, af, none⟩) (hn : Nat.blt d c.n = true) (hok : OkV P c R1 ⟨some d, op, ty, ps, af, none⟩ fr σ x) (h : WR P c R1 ops Q is fuel (li.setIfInBounds i true) ((d, x) :: fr) σ) : WR P c R1 ops Q (i :: is) fuel li fr σ := WR.cons hi rfl rfl hn hok h
theorem ryV (hi : ops[i]? = some ⟨some d, op, ty, ps, af, some (j, b)⟩) (hg : gd ops fr j = some b) (hn : Nat.blt d c.n = true) (hok : OkV P c R1 ⟨some d, op, ty, ps, af, some (j, b)⟩ fr σ x) (h : WR P c R1 ops Q is fuel (li.setIfInBounds i true) ((d, x) :: fr) σ) : WR P c R1 ops Q (i :: is) fuel li fr σ := by
  obtain ⟨oj, t, h1, h2, h3⟩ := gd_some hg
  exact WR.yes hi rfl h1 h2 h3 rfl hn hok h
theorem rnV (hi : ops[i]? = some ⟨some d, op, ty, ps, af, some (j, b)⟩) (hg : gd ops fr j = some (!b)) (hn : Nat.blt d c.n = true) (h : WR P c R1 ops Q is fuel (li.setIfInBounds i true) ((d, .pv (.val undef)) :: fr) σ) : WR P c R1 ops Q (i :: is) fuel li fr σ := by
  obtain ⟨oj, t, h1, h2, h3⟩ := gd_some hg
  exact WR.no (b := !b) hi (by simp) h1 h2 h3 rfl hn h
end
theorem oM {y : Operand} (hy : fr.ev y = some x) : OkV P c R1 ⟨ds, .move y, ty, ps, af, g⟩ fr σ x := ok_move rfl hy
theorem oA {y : Operand} (hy : fr.ev y = some x) : OkV P c R1 ⟨ds, .assign y, ty, ps, af, g⟩ fr σ x := ok_assign rfl hy
theorem oT {q y w : Operand} (hq : fr.ev q = some (.pv (.val (.bool true)))) (hy : fr.ev y = some z) : OkV P c R1 ⟨ds, .pick q y w, ty, ps, af, g⟩ fr σ z := ok_pick_true rfl hq hy
theorem oF {q y w : Operand} (hq : fr.ev q = some (.pv (.val (.bool false)))) (hy : fr.ev w = some z) : OkV P c R1 ⟨ds, .pick q y w, ty, ps, af, g⟩ fr σ z := ok_pick_false rfl hq hy
theorem oB {p : BinOp} {t u : TypeId} {y w : Operand} {k : IntKind} {m n : Int} {v : Value} (hx : fr.ev y = some (.pv (.val (.int k m)))) (hy : fr.ev w = some (.pv (.val (.int k n)))) (hv : intBin p k m n = some v) : OkV P c R1 ⟨ds, .binOp p t y w u, ty, ps, af, g⟩ fr σ (.pv (.val v)) := ok_bin_int rfl hx hy hv
theorem oN {t : TypeId} {y : Operand} {b : Bool} (hx : fr.ev y = some (.pv (.val (.bool b)))) : OkV P c R1 ⟨ds, .unOp .not t y, ty, ps, af, g⟩ fr σ (.pv (.val (.bool (!b)))) := ok_not rfl hx
theorem oFe {t : TypeId} {y : Operand} {f fo off : Nat} {cs : List PV} (hx : fr.ev y = some (.pv (.ept cs off))) (hfo : FieldOk P t f fo) : OkV P c R1 ⟨ds, .fieldAddr t y f, ty, ps, af, g⟩ fr σ (.pv (.ept cs (off + fo))) := ok_field_ept rfl hx hfo
theorem oFp {t : TypeId} {y : Operand} {f fo k off : Nat} {cs : List IV} (hx : fr.ev y = some (.ptr k off)) (hk : look hp k = some (.box cs)) (hfo : FieldOk P t f fo) : OkV P c R1 ⟨ds, .fieldAddr t y f, ty, ps, af, g⟩ fr (look hp) (.ptr k (off + fo)) := ok_field_ptr rfl hx hk hfo
theorem oLe {t : TypeId} {y : Operand} {dd : TypeDesc} {cs : List PV} {off : Nat} {z : PV} (hu : P.underlying t = some dd) (hx : fr.ev y = some (.pv (.ept cs off))) (hz : (if dd.isRow then none else cs[off]?) = some z) : OkV P c R1 ⟨ds, .load t y, ty, ps, af, g⟩ fr σ (.pv z) := by
  cases hd : dd.isRow with
  | true => rw [hd] at hz; cases hz
  | false => rw [hd] at hz; exact ok_load_ept rfl hx hu hd hz
theorem oLb {t : TypeId} {y : Operand} {dd : TypeDesc} {cs : List IV} {k off : Nat} {z : IV} (hu : P.underlying t = some dd) (hx : fr.ev y = some (.ptr k off)) (hk : look hp k = some (.box cs)) (hz : (if dd.isRow then none else cs[off]?) = some z) (hR1 : R1 k) : OkV P c R1 ⟨ds, .load t y, ty, ps, af, g⟩ fr (look hp) z := by
  cases hd : dd.isRow with
  | true => rw [hd] at hz; cases hz
  | false => rw [hd] at hz; exact ok_load_box rfl hx hk hu hd hz hR1
theorem oS {t : TypeId} {y : Operand} {e : TypeId} {els : List (List PV)} {n : Nat} (hu : P.underlying t = some (.slice e)) (hx : fr.ev y = some (.pv (.seq els))) (hn : els.length = n) : OkV P c R1 ⟨ds, .call { callee := .builtin .len, args := #[y], argTypes := #[t] }, ty, ps, af, g⟩ fr σ (.pv (.val (.int .i64 n))) := ok_len_seq rfl hx hu hn
theorem oSm {α : Type} {t : TypeId} {y : Operand} {e : TypeId} {f : α → List PV} {a : List α} (hu : P.underlying t = some (.slice e)) (hx : fr.ev y = some (.pv (.seq (a.map f)))) : OkV P c R1 ⟨ds, .call { callee := .builtin .len, args := #[y], argTypes := #[t] }, ty, ps, af, g⟩ fr σ (.pv (.val (.int .i64 a.length))) := ok_len_seq rfl hx hu (List.length_map _)
theorem lb {m n : Nat} (h : Nat.ble m n = true) : m ≤ n := Nat.le_of_ble_eq_true h
theorem po1 {k : Nat} {o : HO} (h : look hp k = some o) : ∀ k1 o1, look (up [(k, o)]) k1 = some o1 → look hp k1 = some o1 := post_ok ⟨h, trivial⟩
theorem po2 {k k2 : Nat} {o o2 : HO} (h : look hp k = some o) (h2 : look hp k2 = some o2) : ∀ k1 o1, look (up [(k, o), (k2, o2)]) k1 = some o1 → look hp k1 = some o1 := post_ok ⟨h, h2, trivial⟩
theorem po3 {k k2 k3 : Nat} {o o2 o3 : HO} (h : look hp k = some o) (h2 : look hp k2 = some o2) (h3 : look hp k3 = some o3) : ∀ k1 o1, look (up [(k, o), (k2, o2), (k3, o3)]) k1 = some o1 → look hp k1 = some o1 := post_ok ⟨h, h2, h3, trivial⟩
def okDst : Option Nat → Nat → Bool
  | some d, n => Nat.blt d n
  | none, _ => true
theorem okDst_lt {n : Nat} (h : okDst ds n = true) : ∀ t, ds = some t → Nat.blt t n = true := fun t ht => by subst ht; exact h
theorem nf {F : Nat → Prop} : ∀ k : Nat, (fun _ => False) k → F k := fun _ h => h.elim
theorem nl {F : Nat → Prop} : ∀ k : Nat, (fun k => k ∈ ([] : List Nat)) k → F k := fun _ h => absurd h List.not_mem_nil
theorem nw {σ0 : Heap'} : ∀ k, σ k = none → σ k ≠ none → σ0 k = none := fun _ h1 h2 => absurd h1 h2
section
variable {fuel : Nat} {li : Array Bool}
theorem wI (hi : ops[i]? = some ⟨ds, op, ty, ps, af, none⟩) (hn : okDst ds c.n = true) (hR : ∀ k, c.R k → R1 k) (hnew : ∀ k, σ k = none → σ' k ≠ none → c.σ k = none)
    (hok : ∀ ρ w, Ok P ⟨c.F, R1, ρ, σ, w, c.n⟩ ⟨ds, op, ty, ps, af, none⟩ fr σ x σ') (h : WA P c R1 ops Q fuel (li.setIfInBounds i true) (fr.put ds x) σ') : WI P c R1 ops Q fuel li fr σ i := WI.op hi rfl rfl (okDst_lt hn) hR hnew hok h
theorem wY (hi : ops[i]? = some ⟨ds, op, ty, ps, af, some (j, b)⟩) (hg : gd ops fr j = some b) (hn : okDst ds c.n = true) (hR : ∀ k, c.R k → R1 k) (hnew : ∀ k, σ k = none → σ' k ≠ none → c.σ k = none)
    (hok : ∀ ρ w, Ok P ⟨c.F, R1, ρ, σ, w, c.n⟩ ⟨ds, op, ty, ps, af, some (j, b)⟩ fr σ x σ') (h : WA P c R1 ops Q fuel (li.setIfInBounds i true) (fr.put ds x) σ') : WI P c R1 ops Q fuel li fr σ i := by
  obtain ⟨oj, t, h1, h2, h3⟩ := gd_some hg
  exact WI.opYes hi rfl h1 h2 h3 rfl (okDst_lt hn) hR hnew hok h
theorem wO (i : Nat) (hr : Region.ready .any ops li = [i]) (h : WI P c R1 ops Q fuel li fr σ i) : WA P c R1 ops Q (fuel + 1) li fr σ := WA.one hr h
theorem wR (fuel : Nat) (is : List Nat) (hr : (Region.noSelect ops && runOk ops li is) = true) (hQ : ∀ ch fr σ, ¬ Q (.panic ch) fr σ) (h : WR P c R1 ops Q is fuel li fr σ) : WA P c R1 ops Q (fuel + is.length) li fr σ := by
  rw [Bool.and_eq_true] at hr
  exact WA.run is hr.1 hQ hr.2 h
theorem wN (i : Nat) (hk : (Region.noSelect ops && Region.free .any ops li i && (Region.ready .any ops li).contains i) = true) (hQ : ∀ ch fr σ, ¬ Q (.panic ch) fr σ) (hi : ops[i]? = some ⟨some d, op, ty, ps, af, some (j, b)⟩) (hg : gd ops fr j = some (!b)) (hn : Nat.blt d c.n = true)
    (h : WA P c R1 ops Q fuel (li.setIfInBounds i true) ((d, .pv (.val undef)) :: fr) σ) : WA P c R1 ops Q (fuel + 1) li fr σ := by
  simp only [Bool.and_eq_true] at hk
  obtain ⟨oj, t, h1, h2, h3⟩ := gd_some hg
  exact WA.takeNo (b := !b) hi hk.1.1 hk.1.2 hk.2 hQ (by simp) h1 h2 h3 rfl hn h
end
theorem ocr {f : FuncId} {os : Array Operand} {tys : Array TypeId} {args : List IV} {pre post : List (Nat × HO)} {R : Nat → Prop} {r : IV} {k1 : String} (hsc : SC P f args pre R r post) (hf : enters P f) (hx : evs fr os.toList = some args) (hpre : ∀ k o, look (up pre) k = some o → look hp k = some o) (hdom : pre.map (·.1) = post.map (·.1))
    (hR : ∀ k, c.R k → look (up pre) k = none ∨ R k) (hr : only (post.map (·.1)) r = true) (hpost : onlyHp (post.map (·.1)) post = true) : Ok P c ⟨ds, .call { callee := .value (.func f), args := os, argTypes := tys }, ty, k1, af, g⟩ fr (look hp) r (look (up post ++ hp)) :=
  ok_callr hsc hf rfl hx (Subs.refl _ _) hpre hdom hR hr hpost
theorem ocq {f : FuncId} {os : Array Operand} {tys : Array TypeId} {args : List IV} {r : IV} {R : Nat → Prop} (hsc : SC P f args [] R r []) (hf : enters P f) (hx : evs fr os.toList = some args) (hr : only [] r = true) : Ok P c ⟨ds, .call { callee := .value (.func f), args := os, argTypes := tys }, ty, ps, af, g⟩ fr (look hp) r (look hp) :=
  ok_callq hsc hf rfl hx (Subs.refl _ _) hr
theorem cE (hn : Nat.blt d c.n = true) (hok : Ok P c ⟨some d, op, ty, ps, af, none⟩ fr σ x σ') (h : WL P c ops Q l ((d, x) :: fr) σ') : WL P c ops Q (⟨some d, op, ty, ps, af, none⟩ :: l) fr σ := WL.cons rfl rfl hn hok h
def keysIn : Hp → List Nat → Bool
  | [], _ => true
  | (k, _) :: r, ids => ids.any (fun i => Nat.beq k i) && keysIn r ids
def allAt (A B : Hp) : List Nat → Prop
  | [] => True
  | i :: r => look A i = look B i ∧ allAt A B r
theorem lookOut : ∀ {A : Hp} {ids : List Nat} {j : Nat}, keysIn A ids = true → j ∉ ids → look A j = none
  | [], _, _, _, _ => rfl
  | (k, o) :: r, ids, j, h, hj => by
    simp only [keysIn, Bool.and_eq_true] at h
    obtain ⟨i, hi, hk⟩ := List.any_eq_true.1 h.1
    obtain rfl := Nat.eq_of_beq_eq_true hk
    have hne : k ≠ j := fun e => hj (e ▸ hi)
    rw [look_ne hne]
    exact lookOut h.2 hj
theorem allAt_mem {A B : Hp} : ∀ {ids : List Nat} {j : Nat}, allAt A B ids → j ∈ ids → look A j = look B j
  | i :: r, j, h, hj => by
    rcases List.mem_cons.1 hj with rfl | hj
    · exact h.1
    · exact allAt_mem h.2 hj
theorem lkq {A B : Hp} (ids : List Nat) (hA : keysIn A ids = true) (hB : keysIn B ids = true) (h : allAt A B ids) (j : Nat) : look A j = look B j := by
  by_cases hj : j ∈ ids
  · exact allAt_mem h hj
  · rw [lookOut hA hj, lookOut hB hj]
theorem tG {id : Nat} (h : WL P c ops Q ops.toList fr σ) : Tr P c (.region id ops false) fr σ Q := Tr.region rfl h
theorem tQ {y z : Code} (h : Tr P c y fr σ (thenQ P c z Q)) : Tr P c (.seq y z) fr σ Q := Tr.seq h
theorem nL (h : Q .normal fr σ) : WL P c ops Q [] fr σ := WL.nil h
theorem nR {fuel : Nat} {li : Array Bool} (h : WA P c R1 ops Q fuel li fr σ) : WR P c R1 ops Q [] fuel li fr σ := WR.nil h
theorem c0 (hok : Ok P c ⟨none, op, ty, ps, af, none⟩ fr σ x σ') (h : WL P c ops Q l fr σ') : WL P c ops Q (⟨none, op, ty, ps, af, none⟩ :: l) fr σ := WL.cons0 rfl rfl hok h
theorem wS (t : Nat) (hb : fr.get t = some (.pv (.val (.bool b)))) (ht : b = true → WL P c ops Q l ((t, .pv (.val (.bool true))) :: fr) σ) (hf : b = false → WL P c ops Q l ((t, .pv (.val (.bool false))) :: fr) σ) : WL P c ops Q l fr σ := WL.split hb ht hf
theorem tC {x : Operand} {y z : Code} {t : Bool} (hx : fr.ev x = some (.pv (.val (.bool t)))) (hy : t = true → Tr P c y fr σ Q) (hz : t = false → Tr P c z fr σ Q) : Tr P c (.cond x y z) fr σ Q := Tr.cond hx hy hz
end
section
variable {P : Program} {c : Cx} {R1 : Nat → Prop} {fr fr' : Fr} {hp : Hp} {Q : Exit → Fr → Heap' → Prop} {ops : Array Oper} {l l' : List Oper} {o : Oper} {x : IV}
structure Tab (P : Program) where
  off : TypeId → Nat → Option Nat
  offOk : ∀ t f fo, off t f = some fo → FieldOk P t f fo
  ld : TypeId → Bool
  ldOk : ∀ t, ld t = true → ∃ d, P.underlying t = some d ∧ d.isRow = false
def simOp (T : Tab P) (own : Bool) (hp : Hp) (fr : Fr) : Op → Option IV
  | .move y => fr.ev y
  | .assign y => fr.ev y
  | .pick q y w => match fr.ev q with
    | some (.pv (.val (.bool true))) => fr.ev y
    | some (.pv (.val (.bool false))) => fr.ev w
    | _ => none
  | .fieldAddr t y f => match T.off t f with
    | some fo => match fr.ev y with
      | some (.pv (.ept cs off)) => some (.pv (.ept cs (off + fo)))
      | some (.ptr k off) => match look hp k with
        | some (.box _) => some (.ptr k (off + fo))
        | _ => none
      | _ => none
    | none => none
  | .load t y => match T.ld t with
    | true => match fr.ev y with
      | some (.pv (.ept cs off)) => match cs[off]? with
        | some z => some (.pv z)
        | none => none
      | some (.ptr k off) => match own with
        | true => match look hp k with
          | some (.box cs) => cs[off]?
          | _ => none
        | false => none
      | _ => none
    | false => none
  | .binOp p _ y w _ => match fr.ev y with
    | some (.pv (.val (.int k m))) => match fr.ev w with
      | some (.pv (.val (.int k' n))) => if k' = k then
          match intBin p k m n with
          | some v => some (.pv (.val v))
          | none => none
        else none
      | _ => none
    | _ => none
  | .unOp .not _ y => match fr.ev y with
    | some (.pv (.val (.bool b))) => some (.pv (.val (.bool (!b))))
    | _ => none
  | _ => none
theorem simOp_ok {T : Tab P} {own : Bool} (hR : own = true → ∀ k, R1 k) (h : simOp T own hp fr o.op = some x) : OkV P c R1 o fr (look hp) x := by
  cases hop : o.op with
  | move y => rw [hop] at h; exact ok_move hop h
  | assign y => rw [hop] at h; exact ok_assign hop h
  | pick q y w =>
    rw [hop] at h
    simp only [simOp] at h
    split at h
    · rename_i e; exact ok_pick_true hop e h
    · rename_i e; exact ok_pick_false hop e h
    · cases h
  | fieldAddr t y f =>
    rw [hop] at h
    simp only [simOp] at h
    split at h
    · rename_i fo e
      split at h
      · rename_i cs off e2; cases h; exact ok_field_ept hop e2 (T.offOk _ _ _ e)
      · rename_i k off e2
        split at h
        · rename_i cs e3; cases h; exact ok_field_ptr hop e2 e3 (T.offOk _ _ _ e)
        · cases h
      · cases h
    · cases h
  | load t y =>
    rw [hop] at h
    simp only [simOp] at h
    split at h
    · rename_i e
      obtain ⟨d, hd, hr⟩ := T.ldOk _ e
      split at h
      · rename_i cs off e2
        split at h
        · rename_i z e3; cases h; exact ok_load_ept hop e2 hd hr e3
        · cases h
      · rename_i k off e2
        split at h
        · split at h
          · rename_i cs e3; exact ok_load_box hop e2 e3 hd hr h (hR rfl k)
          · cases h
        · cases h
      · cases h
    · cases h
  | binOp p t y w u =>
    rw [hop] at h
    simp only [simOp] at h
    split at h
    · rename_i k m e
      split at h
      · rename_i k' n e2
        split at h
        · rename_i hk
          subst hk
          split at h
          · rename_i v e3; cases h; exact ok_bin_int hop e e2 e3
          · cases h
        · cases h
      · cases h
    · cases h
  | unOp p t y =>
    cases p with
    | not =>
      rw [hop] at h
      simp only [simOp] at h
      split at h
      · rename_i b e; cases h; exact ok_not hop e
      · cases h
    | _ => rw [hop] at h; simp [simOp] at h
  | _ => rw [hop] at h; simp [simOp] at h
def simL (T : Tab P) (ops : Array Oper) (hp : Hp) (m : Nat) : Nat → List Oper → Fr → Option (List Oper × Fr)
  | 0, l, fr => some (l, fr)
  | _ + 1, [], _ => none
  | n + 1, o :: l, fr => match o.dst with
    | some d => match Nat.blt d m with
      | true => match o.guard with
        | none => match simOp T true hp fr o.op with
          | some x => simL T ops hp m n l ((d, x) :: fr)
          | none => none
        | some (j, b) => match gd ops fr j with
          | some b' => match b == b' with
            | true => match simOp T true hp fr o.op with
              | some x => simL T ops hp m n l ((d, x) :: fr)
              | none => none
            | false => simL T ops hp m n l ((d, .pv (.val undef)) :: fr)
          | none => none
      | false => none
    | none => none
theorem bne_not {b b' : Bool} (h : (b == b') = false) : b = !b' := by cases b <;> cases b' <;> simp_all
theorem sim (T : Tab P) : ∀ (n : Nat) {l : List Oper} {fr : Fr}, simL T ops hp c.n n l fr = some (l', fr') → WL P c ops Q l' fr' (look hp) → WL P c ops Q l fr (look hp)
  | 0, l, fr, h, h2 => by simp only [simL, Option.some.injEq, Prod.mk.injEq] at h; obtain ⟨rfl, rfl⟩ := h; exact h2
  | n + 1, [], fr, h, h2 => by simp [simL] at h
  | n + 1, o :: l, fr, h, h2 => by
    simp only [simL] at h
    split at h
    · rename_i d hd
      split at h
      · rename_i hn
        split at h
        · rename_i hg
          split at h
          · rename_i x hx
            exact WL.consV hg hd hn (simOp_ok (fun _ _ => trivial) hx) (sim T n h h2)
          · cases h
        · rename_i j b hg
          split at h
          · rename_i b' hb
            obtain ⟨oj, t, h3, h4, h5⟩ := gd_some hb
            split at h
            · rename_i hbb
              obtain rfl := eq_of_beq hbb
              split at h
              · rename_i x hx
                exact WL.yesV hg h3 h4 h5 hd hn (simOp_ok (fun _ _ => trivial) hx) (sim T n h h2)
              · cases h
            · rename_i hbb
              have := bne_not hbb
              subst this
              exact WL.no hg h3 h4 h5 hd hn (sim T n h h2)
          · cases h
      · cases h
    · cases h
theorem simS (T : Tab P) : ∀ (n : Nat) {l : List Oper} {fr : Fr}, simL T ops hp c.n n l fr = some (l', fr') → WS P c ops Q l' fr' (look hp) → WS P c ops Q l fr (look hp)
  | 0, l, fr, h, h2 => by simp only [simL, Option.some.injEq, Prod.mk.injEq] at h; obtain ⟨rfl, rfl⟩ := h; exact h2
  | n + 1, [], fr, h, h2 => by simp [simL] at h
  | n + 1, o :: l, fr, h, h2 => by
    simp only [simL] at h
    split at h
    · rename_i d hd
      split at h
      · rename_i hn
        split at h
        · rename_i hg
          split at h
          · rename_i x hx
            exact WS.consV hg hd hn (simOp_ok (fun _ _ => trivial) hx) (simS T n h h2)
          · cases h
        · rename_i j b hg
          split at h
          · rename_i b' hb
            obtain ⟨oj, t, h3, h4, h5⟩ := gd_some hb
            split at h
            · rename_i hbb
              obtain rfl := eq_of_beq hbb
              split at h
              · rename_i x hx
                exact WS.yes hg h3 h4 h5 hd hn (simOp_ok (fun _ _ => trivial) hx) (simS T n h h2)
              · cases h
            · rename_i hbb
              have := bne_not hbb
              subst this
              exact WS.no hg h3 h4 h5 hd hn (simS T n h h2)
          · cases h
      · cases h
    · cases h
def simR (T : Tab P) (ops : Array Oper) (hp : Hp) (m : Nat) : Nat → List Nat → Array Bool → Fr → Option (List Nat × Array Bool × Fr)
  | 0, is, li, fr => some (is, li, fr)
  | _ + 1, [], _, _ => none
  | n + 1, i :: is, li, fr => match ops[i]? with
    | some o => match o.dst with
      | some d => match Nat.blt d m with
        | true => match o.guard with
          | none => match simOp T false hp fr o.op with
            | some x => simR T ops hp m n is (li.setIfInBounds i true) ((d, x) :: fr)
            | none => none
          | some (j, b) => match gd ops fr j with
            | some b' => match b == b' with
              | true => match simOp T false hp fr o.op with
                | some x => simR T ops hp m n is (li.setIfInBounds i true) ((d, x) :: fr)
                | none => none
              | false => simR T ops hp m n is (li.setIfInBounds i true) ((d, .pv (.val undef)) :: fr)
            | none => none
        | false => none
      | none => none
    | none => none
theorem simR' (T : Tab P) {fuel : Nat} {is' : List Nat} {li' : Array Bool} : ∀ (n : Nat) {is : List Nat} {li : Array Bool} {fr : Fr}, simR T ops hp c.n n is li fr = some (is', li', fr') → WR P c R1 ops Q is' fuel li' fr' (look hp) → WR P c R1 ops Q is fuel li fr (look hp)
  | 0, is, li, fr, h, h2 => by simp only [simR, Option.some.injEq, Prod.mk.injEq] at h; obtain ⟨rfl, rfl, rfl⟩ := h; exact h2
  | n + 1, [], li, fr, h, h2 => by simp [simR] at h
  | n + 1, i :: is, li, fr, h, h2 => by
    simp only [simR] at h
    split at h
    · rename_i o ho
      split at h
      · rename_i d hd
        split at h
        · rename_i hn
          split at h
          · rename_i hg
            split at h
            · rename_i x hx
              exact WR.cons ho hg hd hn (simOp_ok (fun e => by cases e) hx) (simR' T n h h2)
            · cases h
          · rename_i j b hg
            split at h
            · rename_i b' hb
              obtain ⟨oj, t, h3, h4, h5⟩ := gd_some hb
              split at h
              · rename_i hbb
                obtain rfl := eq_of_beq hbb
                split at h
                · rename_i x hx
                  exact WR.yes ho hg h3 h4 h5 hd hn (simOp_ok (fun e => by cases e) hx) (simR' T n h h2)
                · cases h
              · rename_i hbb
                have := bne_not hbb
                subst this
                exact WR.no ho hg h3 h4 h5 hd hn (simR' T n h h2)
            · cases h
        · cases h
      · cases h
    · cases h
def fieldB (P : Program) (t f fo : Nat) : Bool :=
  match P.underlying t with
  | some (.struct fs) => match fs[f]? with
    | some fd => Nat.beq fd.offset fo && (match (P.info? fd.type).map (·.size) with
      | some n => Nat.blt 0 n
      | none => false)
    | none => false
  | _ => false
theorem fieldB_ok {t f fo : Nat} (h : fieldB P t f fo = true) : FieldOk P t f fo := by
  unfold fieldB at h
  split at h
  · rename_i fs hu
    split at h
    · rename_i fd hf
      simp only [Bool.and_eq_true] at h
      obtain ⟨h1, h2⟩ := h
      split at h2
      · rename_i n hn
        have h3 : 1 ≤ n := by simpa [Nat.blt] using h2
        obtain ⟨s, rfl⟩ : ∃ s, n = s + 1 := ⟨n - 1, by omega⟩
        exact ⟨fs, fd, s, hu, hf, Nat.eq_of_beq_eq_true h1, hn⟩
      · cases h2
    · cases h
  · cases h
def ldB (P : Program) (t : Nat) : Bool :=
  match P.underlying t with
  | some d => !d.isRow
  | none => false
def nthO : List (Option Nat) → Nat → Option Nat
  | [], _ => none
  | x :: _, 0 => x
  | _ :: r, n + 1 => nthO r n
def aFind : List (Nat × List (Option Nat)) → Nat → Nat → Option Nat
  | [], _, _ => none
  | (k, r) :: q, t, f => match Nat.beq k t with
    | true => nthO r f
    | false => aFind q t f
def okRow (P : Program) (t : Nat) : List (Option Nat) → Nat → Bool
  | [], _ => true
  | none :: r, f => okRow P t r (f + 1)
  | some o :: r, f => fieldB P t f o && okRow P t r (f + 1)
def okTab (P : Program) : List (Nat × List (Option Nat)) → Bool
  | [] => true
  | (k, r) :: q => okRow P k r 0 && okTab P q
def lFind : List Nat → Nat → Bool
  | [], _ => false
  | k :: q, t => match Nat.beq k t with
    | true => true
    | false => lFind q t
def okLd (P : Program) : List Nat → Bool
  | [] => true
  | k :: q => ldB P k && okLd P q
theorem okRow_nth {t : Nat} : ∀ (r : List (Option Nat)) (f g o : Nat), okRow P t r g = true → nthO r f = some o → fieldB P t (g + f) o = true
  | [], _, _, _, _, h => by cases h
  | none :: r, 0, _, _, _, h => by cases h
  | none :: r, f + 1, g, o, h1, h => by
    have := okRow_nth r f (g + 1) o h1 h
    rwa [Nat.add_right_comm] at this
  | some z :: r, 0, g, o, h1, h => by
    cases h
    simp only [okRow, Bool.and_eq_true] at h1
    exact h1.1
  | some z :: r, f + 1, g, o, h1, h => by
    simp only [okRow, Bool.and_eq_true] at h1
    have := okRow_nth r f (g + 1) o h1.2 h
    rwa [Nat.add_right_comm] at this
theorem okTab_find : ∀ (l : List (Nat × List (Option Nat))) (t f o : Nat), okTab P l = true → aFind l t f = some o → fieldB P t f o = true
  | [], _, _, _, _, h => by cases h
  | (k, r) :: q, t, f, o, h1, h => by
    simp only [okTab, Bool.and_eq_true] at h1
    simp only [aFind] at h
    split at h
    · rename_i e
      obtain rfl := Nat.eq_of_beq_eq_true e
      have := okRow_nth r f 0 o h1.1 h
      rwa [Nat.zero_add] at this
    · exact okTab_find q t f o h1.2 h
theorem okLd_find : ∀ (l : List Nat) (t : Nat), okLd P l = true → lFind l t = true → ldB P t = true
  | [], _, _, h => by cases h
  | k :: q, t, h1, h => by
    simp only [okLd, Bool.and_eq_true] at h1
    simp only [lFind] at h
    split at h
    · rename_i e
      obtain rfl := Nat.eq_of_beq_eq_true e
      exact h1.1
    · exact okLd_find q t h1.2 h
def mkTab (P : Program) (l : List (Nat × List (Option Nat))) (q : List Nat) (h : okTab P l = true) (h2 : okLd P q = true) : Tab P where
  off t f := aFind l t f
  offOk t f fo hf := fieldB_ok (okTab_find l t f fo h hf)
  ld t := lFind q t
  ldOk t ht := by
    have := okLd_find q t h2 ht
    unfold ldB at this
    split at this
    · rename_i d hd; exact ⟨d, hd, by simpa using this⟩
    · cases this
end
section
variable {P : Program} {c : Cx} {o : Oper} {fr : Fr}
inductive LendOf (σ : Heap') (Ls : Nat → Prop) : IV → IV → Prop
  | same {x : IV} : LendOf σ Ls x x
  | row {L n : Nat} {s : RT} {els els' : List (List PV)} (hL : Ls L) (hσ : σ L = some (.row s els)) (hn : els.length = n) (he : els = els') : LendOf σ Ls (.sl L n) (.pv (.seq els'))
def lends (σ : Heap') (Ls : Nat → Prop) : List IV → List IV → Prop
  | [], [] => True
  | x :: xs, y :: ys => LendOf σ Ls x y ∧ lends σ Ls xs ys
  | _, _ => False
theorem lends_rep {σ σ' : Heap'} {Ls : Nat → Prop} {F F' : Nat → Prop} {ρ ρ' : Loc} {w : World} : ∀ {xs ys : List IV} {vs : List Value}, lends σ Ls xs ys → RepL F ρ σ w xs vs →
    (∀ x y v, LendOf σ Ls x y → RepI F ρ σ w x v → RepI F' ρ' σ' w y v) → RepL F' ρ' σ' w ys vs
  | [], [], vs, _, h, _ => ⟨h.1, fun j x hj => by simp at hj⟩
  | x :: xs, y :: ys, [], _, h, _ => by have := h.1; simp at this
  | x :: xs, y :: ys, v :: vs, hl, h, hf => by
    have ih := lends_rep (vs := vs) hl.2 ⟨by simpa using h.1, fun j z hj => h.2 (j + 1) z (by simpa using hj)⟩ hf
    refine ⟨by have := ih.1; simp [this], fun j z hj => ?_⟩
    cases j with
    | zero =>
      cases hj
      obtain ⟨u, hu, hr⟩ := h.2 0 x rfl
      exact ⟨u, hu, hf _ _ _ hl.1 hr⟩
    | succ j => exact ih.2 j z (by simpa using hj)
def plainP : PV → Bool
  | .val _ => true
  | _ => false
def plainO : HO → Bool
  | .row _ els => els.all fun el => el.all plainP
  | _ => false
theorem plainP_val {x : PV} (h : plainP x = true) : ∃ v, x = .val v := by cases x <;> first | exact ⟨_, rfl⟩ | cases h
theorem RepO.plain {F F' : Nat → Prop} {ρ ρ' : Loc} {σ σ' : Heap'} {w : World} {b c : Nat} {ob : HO} (h : RepO F ρ σ w b c ob) (hp : plainO ob = true) : RepO F' ρ' σ' w b c ob := by
  cases h with
  | box => cases hp
  | map => cases hp
  | row s els a u h hs hl hm hw hv hr =>
    refine .row s els a u h hs hl hm hw hv fun i el hi j x hj => ?_
    obtain ⟨v, rfl⟩ := plainP_val (List.all_eq_true.1 (List.all_eq_true.1 hp el (List.mem_of_getElem? hi)) x (List.mem_of_getElem? hj))
    have := hr i el hi j _ hj
    generalize u i j = z at this
    cases this
    exact .val v
open Classical in
theorem SC.lend {Ls : Nat → Prop} {xs : List IV} {f : FuncId} {args : List IV} {pre post : List (Nat × HO)} {R : Nat → Prop} {r : IV} {hp : Hp} {ρ : Loc} {w : World} {a : Act} {vs : List Value} (hsc : SC P f args pre R r post)
    (h : All c ρ (look hp) w fr a) (hlend : lends (look hp) Ls xs args) (hLs : ∀ k, Ls k → look (up pre) k = none) (hargs : RepL c.F ρ (look hp) w xs vs) (hpre : ∀ k o, look (up pre) k = some o → look hp k = some o) (hdom : pre.map (·.1) = post.map (·.1))
    (hR : ∀ k, c.R k → look (up pre) k = none ∨ R k) (hr : ∃ z, r = .pv (.val z)) (hpost : ∀ k ob, look (up post) k = some ob → plainO ob = true ∨ (R k ∧ look (up pre) k = some ob)) :
    Calls P f vs.toArray w fun e w' => ∃ ρ' v, e = .returned v ∧ All c ρ' (look (up post ++ hp)) w' fr a ∧ RepI c.F ρ' (look (up post ++ hp)) w' r v := by
  have hd : ∀ k, look (up pre) k = none ↔ look (up post) k = none := fun k => by rw [look_up_none, look_up_none, hdom]
  let ρ1 : Loc := fun k => if look (up pre) k = none then none else ρ k
  let F1 : Nat → Prop := fun b => c.F b ∨ ∃ k cc, ρ k = some (b, cc) ∧ look (up pre) k = none ∧ ¬ Ls k
  have h1in : ∀ k, look (up pre) k ≠ none → ρ1 k = ρ k := fun k hk => if_neg hk
  have h1out : ∀ k, look (up pre) k = none → ρ1 k = none := fun k hk => if_pos hk
  have h1 : ∀ k l, ρ1 k = some l → look (up pre) k ≠ none ∧ ρ k = some l := fun k l hk => by
    by_cases e : look (up pre) k = none
    ·rw [h1out k e] at hk; cases hk
    exact ⟨e, (h1in k e) ▸ hk⟩
  have hown1 : ∀ b, owned F1 ρ1 b → owned c.F ρ b := fun b hb => by
    rcases hb with (hb | ⟨k, cc, hk, _, _⟩) | ⟨k, cc, hk⟩
    ·exact .inl hb
    ·exact .inr ⟨k, cc, hk⟩
    exact .inr ⟨k, cc, (h1 k _ hk).2⟩
  have hconv : ∀ x : IV, ¬ Names (fun k => ¬ ∀ o, look (up pre) k = some o → look hp k = some o ∧ ρ1 k = ρ k) x := fun x hx => by
    obtain ⟨k, hk⟩ := hx.some
    exact hk fun o ho => ⟨hpre k o ho, h1in k (by simp [ho])⟩
  have hrel1 : RelH F1 ρ1 (look (up pre)) w := by
    refine ⟨fun k k' b cc cc' hk hk' => h.rel.inj k k' b cc cc' (h1 _ _ hk).2 (h1 _ _ hk').2, fun k b cc hk hb => ?_, fun b hb => ?_, fun k b cc hk => ?_, fun k o hk hρ => ?_⟩
    ·rcases hb with hb | ⟨k', cc', hk', hn, _⟩
     ·exact h.rel.apart k b cc (h1 _ _ hk).2 hb
     obtain rfl := h.rel.inj _ _ _ _ _ (h1 _ _ hk).2 hk'
     exact (h1 _ _ hk).1 hn
    ·rcases hb with hb | ⟨k', cc', hk', _, _⟩
     ·exact h.rel.old b hb
     exact h.rel.lt hk'
    ·obtain ⟨hne, hk2⟩ := h1 _ _ hk
     obtain ⟨o1, ho1, ho2⟩ := h.rel.obj k b cc hk2
     cases hl : look (up pre) k with
     | none => exact absurd hl hne
     | some o2 =>
       rw [hpre k o2 hl] at ho1; cases ho1
       exact ⟨_, rfl, ho2.conv hown1 fun x _ => hconv x⟩
    rw [h1in k (by simp [hk])] at hρ
    exact h.rel.real k o (hpre k o hk) hρ
  have hLown : ∀ L b cc, Ls L → ρ L = some (b, cc) → ¬ owned F1 ρ1 b := fun L b cc hL hb ho => by
    rcases ho with (ho | ⟨k', cc', hk', hn, hnl⟩) | ⟨k', cc', hk'⟩
    ·exact h.rel.apart L b cc hb ho
    ·obtain rfl := h.rel.inj _ _ _ _ _ hb hk'; exact hnl hL
    obtain ⟨hne, hk2⟩ := h1 _ _ hk'
    obtain rfl := h.rel.inj _ _ _ _ _ hb hk2
    exact hne (hLs _ hL)
  refine (hsc F1 ρ1 w vs (h.kept.mono hown1) hrel1 (lends_rep hlend hargs (fun x y v hxy hx => ?_))).mono ?_
  ·cases hxy with
   | same => exact hx.conv hown1 (hconv x)
   | row hL hσ hn he =>
     subst he
     cases hx with
     | sl _ _ _ hh =>
       rcases (hh _ _ hσ).2 hn with ⟨b, cc, hρ, rfl⟩ | ⟨hρ, hz, rfl⟩
       ·obtain ⟨o1, ho1, ho2⟩ := h.rel.obj _ b cc hρ
        rw [hσ] at ho1; cases ho1
        cases ho2 with
        | row _ els r u h3 h4 h5 h6 h7 h8 h9 =>
          subst hn
          refine .pv _ _ (.seq _ (some ⟨b, 0, none⟩) cc b 0 u (fun _ => rfl) (fun _ => ⟨hLown _ _ _ hL hρ, h.rel.lt hρ⟩) h5 h6 (fun i el hi j x hj => ?_) (fun i el hi j x hj => (h9 i el hi j x hj).own hown1))
          rw [cell_at h3, h7 el (List.mem_of_getElem? hi)]
          simpa using h8 i el hi j x hj
       have : _ = [] := List.eq_nil_of_length_eq_zero (hn.trans hz)
       subst this
       subst hz
       exact .pv _ _ (.seq [] none 0 0 0 (fun _ _ => undef) (by simp) (by simp) (by simp) (by simp [maxLen]) (by simp) (by simp))
  rintro e w' ⟨ρ2, v, rfl, hv, hrel2, t⟩
  let ρ' : Loc := fun k => if look (up pre) k = none then ρ k else ρ2 k
  have h2in : ∀ k, look (up pre) k ≠ none → ρ' k = ρ2 k := fun k hk => if_neg hk
  have h2out : ∀ k, look (up pre) k = none → ρ' k = ρ k := fun k hk => if_pos hk
  have h2none : ∀ k, look (up pre) k = none → ρ2 k = none := fun k hk => by
    cases h3 : ρ2 k with
    | none => rfl
    | some l =>
      obtain ⟨o1, ho1, _⟩ := hrel2.obj k l.1 l.2 h3
      rw [(hd k).1 hk] at ho1; cases ho1
  have h2 : ∀ k l, ρ2 k = some l → look (up pre) k ≠ none := fun k l hk e => by rw [h2none k e] at hk; cases hk
  have hσin : ∀ k, look (up pre) k ≠ none → look (up post ++ hp) k = look (up post) k := fun k hk => by
    rw [look_append]
    cases h3 : look (up post) k with
    | none => exact absurd ((hd k).2 h3) hk
    | some o => rfl
  have hσout : ∀ k, look (up pre) k = none → look (up post ++ hp) k = look hp k := fun k hk => by
    rw [look_append, (hd k).1 hk]; rfl
  have T : Trans c.F (fun k => look (up pre) k = none ∨ R k) ρ (look hp) w ρ' (look (up post ++ hp)) w' := by
    refine ⟨t.os, t.tape, t.output, t.size, fun b hb hall => t.blk b hb fun k cc hk => ?_, fun k b cc hk hb => ?_, fun k cs cs' e1 e2 => ?_, fun k cs cs' e1 e2 => ?_, fun k s s' els els' e1 e2 hl => ?_, fun k s s' els els' e1 e2 => ?_, fun k cs' e2 => ?_, fun k cs' e2 => ?_, fun k s els' e2 => ?_⟩
    ·obtain ⟨hne, hk2⟩ := h1 _ _ hk
     exact (hall k cc hk2).resolve_left hne
    ·by_cases e : look (up pre) k = none
     ·rwa [h2out k e] at hk
     rw [h2in k e] at hk; exact (h1 _ _ (t.own k b cc hk hb)).2
    all_goals by_cases e : look (up pre) k = none
    ·exact h2out k e
    ·cases h3 : look (up pre) k with
     | none => exact absurd h3 e
     | some o =>
       rw [hpre k o h3] at e1; cases e1
       rw [hσin k e] at e2
       rw [h2in k e, t.box k _ _ h3 e2, h1in k e]
    ·exact h2out k e
    ·cases h3 : look (up pre) k with
     | none => exact absurd h3 e
     | some o =>
       rw [hpre k o h3] at e1; cases e1
       rw [hσin k e] at e2
       rw [h2in k e, t.map k _ _ h3 e2, h1in k e]
    ·exact h2out k e
    ·cases h3 : look (up pre) k with
     | none => exact absurd h3 e
     | some o =>
       rw [hpre k o h3] at e1; cases e1
       rw [hσin k e] at e2
       rw [h2in k e, t.row k _ _ _ _ h3 e2 hl, h1in k e]
    ·rw [hσout k e, e1] at e2; cases e2; exact Nat.le_refl _
    ·cases h3 : look (up pre) k with
     | none => exact absurd h3 e
     | some o =>
       rw [hpre k o h3] at e1; cases e1
       rw [hσin k e] at e2
       exact t.grow k _ _ _ _ h3 e2
    ·rw [hσout k e] at e2; exact .inr ⟨_, e2⟩
    ·rw [hσin k e] at e2
     rcases t.kindB k _ e2 with h3 | ⟨cs, h3⟩
     ·exact absurd h3 e
     exact .inr ⟨cs, hpre k _ h3⟩
    ·rw [hσout k e] at e2; exact .inr ⟨_, e2⟩
    ·rw [hσin k e] at e2
     rcases t.kindM k _ e2 with h3 | ⟨cs, h3⟩
     ·exact absurd h3 e
     exact .inr ⟨cs, hpre k _ h3⟩
    ·rw [hσout k e] at e2; exact .inr ⟨_, e2⟩
    rw [hσin k e] at e2
    rcases t.kindR k _ _ e2 with h3 | ⟨cs, h3⟩
    ·exact absurd h3 e
    exact .inr ⟨cs, hpre k _ h3⟩
  have hnone : ∀ k, ¬ (look hp k = none ∧ look (up post ++ hp) k ≠ none) := fun k hk => by
    by_cases e : look (up pre) k = none
    ·rw [hσout k e] at hk; exact hk.2 hk.1
    cases h3 : look (up pre) k with
    | none => exact e h3
    | some o => rw [hpre k o h3] at hk; cases hk.1
  have hnn : ∀ x : IV, ¬ Names (fun k => look hp k = none ∧ look (up post ++ hp) k ≠ none) x := fun x hx => by
    obtain ⟨k, hk⟩ := hx.some
    exact hnone k hk
  have hmix : ∀ k k' b cc cc', look (up pre) k = none → ρ k = some (b, cc) → ρ2 k' = some (b, cc') → k = k' := fun k k' b cc cc' e hk hk' => by
    by_cases hL : Ls k
    ·have := h1 _ _ (t.own k' b cc' hk' (h.rel.lt hk))
     exact h.rel.inj _ _ _ _ _ hk this.2
    exact absurd (.inr ⟨k, cc, hk, e, hL⟩) (hrel2.apart _ _ _ hk')
  refine ⟨ρ', v, rfl, h.step T hR ⟨fun k k' b cc cc' hk hk' => ?_, fun k b cc hk hb => ?_, fun b hb => Nat.lt_of_lt_of_le (h.rel.old b hb) t.size, fun k b cc hk => ?_, fun k o hk hρ => ?_⟩ (fun k e1 e2 => absurd ⟨e1, e2⟩ (hnone k)) fun _ x _ => hnn x, by obtain ⟨z, rfl⟩ := hr; obtain rfl := hv.val; exact mkVal _⟩
  ·by_cases e : look (up pre) k = none <;> by_cases e' : look (up pre) k' = none
   ·rw [h2out k e] at hk; rw [h2out k' e'] at hk'; exact h.rel.inj _ _ _ _ _ hk hk'
   ·rw [h2out k e] at hk; rw [h2in k' e'] at hk'
    exact hmix k k' b cc cc' e hk hk'
   ·rw [h2in k e] at hk; rw [h2out k' e'] at hk'
    exact (hmix k' k b cc' cc e' hk' hk).symm
   rw [h2in k e] at hk; rw [h2in k' e'] at hk'; exact hrel2.inj _ _ _ _ _ hk hk'
  ·by_cases e : look (up pre) k = none
   ·rw [h2out k e] at hk; exact h.rel.apart _ _ _ hk hb
   rw [h2in k e] at hk; exact hrel2.apart _ _ _ hk (.inl hb)
  ·by_cases e : look (up pre) k = none
   ·rw [h2out k e] at hk
    obtain ⟨o1, ho1, ho2⟩ := h.rel.obj k b cc hk
    refine ⟨o1, (hσout k e).trans ho1, ho2.keep T (t.blk b (h.rel.lt hk) fun k' cc' hk' => ?_) fun x _ => hnn x⟩
    obtain ⟨hne, hk2⟩ := h1 _ _ hk'
    obtain rfl := h.rel.inj _ _ _ _ _ hk hk2
    exact absurd e hne
   rw [h2in k e] at hk
   obtain ⟨o1, ho1, ho2⟩ := hrel2.obj k b cc hk
   refine ⟨o1, (hσin k e).trans ho1, ?_⟩
   rcases hpost k o1 ho1 with hpl | ⟨hRk, hpr⟩
   ·exact ho2.plain hpl
   have hsame : ρ2 k = ρ k := by
     rw [← h1in k e]
     cases o1 with
     | box cs => exact t.box k _ _ hpr ho1
     | row s els => exact t.row k _ _ _ _ hpr ho1 rfl
     | map es => exact t.map k _ _ hpr ho1
   rw [hsame] at hk
   obtain ⟨o3, ho3, ho4⟩ := h.rel.obj k b cc hk
   rw [hpre k _ hpr] at ho3; cases ho3
   refine ho4.keep T (t.blk b (h.rel.lt hk) fun k' cc' hk' => ?_) fun x _ => hnn x
   obtain ⟨hne, hk2⟩ := h1 _ _ hk'
   obtain rfl := h.rel.inj _ _ _ _ _ hk hk2
   exact hRk
  by_cases e : look (up pre) k = none
  ·rw [hσout k e] at hk; rw [h2out k e] at hρ; exact h.rel.real k o hk hρ
  rw [hσin k e] at hk; rw [h2in k e] at hρ; exact hrel2.real k o hk hρ
theorem ok_lend (Ls : Nat → Prop) {ys : List IV} {f : FuncId} {os : Array Operand} {tys : Array TypeId} {xs args : List IV} {pre post : List (Nat × HO)} {R : Nat → Prop} {r : IV} {hp : Hp} (hsc : SC P f args pre R r post) (hf : enters P f)
    (ho : o.op = .call { callee := .value (.func f), args := os, argTypes := tys }) (hx : evs fr os.toList = some xs) (hs : Subs (look hp) xs ys) (hlend : lends (look hp) Ls ys args) (hLs : ∀ k, Ls k → look (up pre) k = none) (hpre : ∀ k o, look (up pre) k = some o → look hp k = some o) (hdom : pre.map (·.1) = post.map (·.1))
    (hR : ∀ k, c.R k → look (up pre) k = none ∨ R k) (hr : ∃ z, r = .pv (.val z)) (hpost : ∀ k ob, look (up post) k = some ob → plainO ob = true ∨ (R k ∧ look (up pre) k = some ob)) : Ok P c o fr (look hp) r (look (up post ++ hp)) := by
  intro ρ w a K Q h hK
  obtain ⟨fn, hfn, hname, hbody⟩ := hf
  have hargs := hs _ _ _ _ (evs_rep h hx)
  have hrun : (execOp a.eval o).run P w = .ok (.enter f (os.toList.map a.eval).toArray) w := by
    have hcall : (callFunc f (os.toList.map a.eval).toArray).run P w = .ok (.enter f (os.toList.map a.eval).toArray) w := by
      unfold callFunc
      simp only [Sem.run_bind]
      show (Result.andThen (.ok P w) _) = _
      simp only [Result.andThen_ok, hfn, hname, hbody]
      rfl
    simp only [execOp, ho, resolve, Act.eval, Deferred.ofValue, Sem.run_bind, Sem.run_pure, Result.andThen_ok, invoke]
    rw [← hcall]
    congr 2
    apply Array.ext'
    simp
  unfold Oper.wp
  rw [hrun, Oper.upon_enter]
  refine (hsc.lend h hlend hLs hargs hpre hdom hR hr hpost).mono ?_
  rintro e w' ⟨ρ', v, rfl, h1, h2⟩
  exact hK ρ' w' v h1 h2
end
end Go.Proofs.YtahpinmlgnfklaaGreatDoor
