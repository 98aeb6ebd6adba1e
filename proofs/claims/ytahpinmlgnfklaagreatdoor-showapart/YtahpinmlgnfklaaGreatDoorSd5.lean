/- PART 5 of 6 of a proof: see the last part. -/
import Derived.Test.YtahpinmlgnfklaaGreatDoorSd4
set_option maxRecDepth 8000
set_option maxHeartbeats 2000000
set_option linter.unusedSimpArgs false
set_option linter.unusedVariables false
set_option linter.unusedSectionVars false
namespace Go.Proofs.YtahpinmlgnfklaaGreatDoor
open Go
section
structure Bd (a b : Nat) (g g' : Gn) : Prop where
  lf : g'.left ≤ g.left
  ps : g'.pos + 60 * g'.left ≤ g.pos + 60 * g.left + a
  t1 : g.types.length ≤ g'.types.length
  t2 : g'.types.length + 10 * g'.left ≤ g.types.length + 10 * g.left + b
theorem Bd.trans {a b a' b' : Nat} {g g' g'' : Gn} (h : Bd a b g g') (h' : Bd a' b' g' g'') : Bd (a + a') (b + b') g g'' :=
  ⟨by have := h.lf; have := h'.lf; omega, by have := h.ps; have := h'.ps; omega, by have := h.t1; have := h'.t1; omega, by have := h.t2; have := h'.t2; omega⟩
theorem Bd.mono {a b a' b' : Nat} {g g' : Gn} (h : Bd a b g g') (ha : a ≤ a') (hb : b ≤ b') : Bd a' b' g g' :=
  ⟨h.lf, by have := h.ps; omega, h.t1, by have := h.t2; omega⟩
section
variable (l : List UInt8)
theorem bd_pick (n : Nat) (g : Gn) : Bd 1 0 g (gPick l n g).2 := ⟨Nat.le_refl _, by simp only [gPick]; omega, Nat.le_refl _, Nat.le_refl _⟩
theorem bd_each (seen ts : List Int) (g : Gn) : Bd ts.length 0 g (gEach l seen ts g).2 := by
  rw [(gEach_st l seen ts g).1]
  exact ⟨Nat.le_refl _, by simp only []; omega, Nat.le_refl _, Nat.le_refl _⟩
theorem bd_outs (ts : List Int) (g : Gn) : Bd 0 ts.length g (gOuts ts g).2 := by
  rw [(gOuts_st ts g).1]
  exact ⟨Nat.le_refl _, Nat.le_refl _, by simp, by simp only [List.length_append]; omega⟩
theorem bd_types (g : Gn) : Bd 3 0 g (gTypes l g).2 ∧ (gTypes l g).1.length ≤ 2 := by
  have h3 : (gPick l 3 g).1 < 3 := gPick_lt (by omega)
  obtain ⟨h1, h2⟩ := gTypes_st l g
  refine ⟨?_, by omega⟩
  rw [h1]
  exact ⟨Nat.le_refl _, by simp only []; omega, Nat.le_refl _, Nat.le_refl _⟩
theorem bd_node (kind op n : Int) (name : ByteArray) (seen ins outs : List Int) (g : Gn) : Bd ins.length outs.length g (gNode l kind op n name seen ins outs g).2 := by
  have := (bd_each l seen ins g).trans (bd_outs outs (gEach l seen ins g).2)
  simpa [gNode] using this
theorem bd_simple (seen : List Int) (g : Gn) : Bd 4 1 g (gSimple l seen g).2 := by
  unfold gSimple
  have h0 := bd_pick l 12 g
  have P := fun n => bd_pick l n (gPick l 12 g).2
  have N := fun kind op n name ins outs g' => bd_node l kind op n name seen ins outs g'
  simp only
  split
  ·exact ((h0.trans (P 6)).trans (N _ _ _ _ [] [1] _)).mono (by simp) (by simp)
  split
  ·exact ((h0.trans (P 2)).trans (N _ _ _ _ [] [2] _)).mono (by simp) (by simp)
  split
  ·exact ((h0.trans (P 4)).trans (N _ _ _ _ [1] [1] _)).mono (by simp) (by simp)
  split
  ·exact (h0.trans (N _ _ _ _ [2] [2] _)).mono (by simp) (by simp)
  split
  ·exact ((h0.trans (P 11)).trans (N _ _ _ _ [1, 1] [1] _)).mono (by simp) (by simp)
  split
  ·exact ((h0.trans (P 6)).trans (N _ _ _ _ [1, 1] [2] _)).mono (by simp) (by simp)
  split
  ·exact (h0.trans (N _ _ _ _ [1] [1] _)).mono (by simp) (by simp)
  split
  ·exact (h0.trans (N _ _ _ _ [1, 1] [] _)).mono (by simp) (by simp)
  split
  ·exact ((h0.trans (P 4)).trans (N _ _ _ _ [1, 2] [1] _)).mono (by simp) (by simp)
  split
  ·exact ((h0.trans (P 4)).trans (N _ _ _ _ [] [1] _)).mono (by simp) (by simp)
  exact ((h0.trans (P 4)).trans (N _ _ _ _ [1] [] _)).mono (by simp) (by simp)
def Plc.small (p : Plc) : Prop := p.Yield.length ≤ 2 ∧ p.Next.length ≤ 2 ∧ p.Left.length ≤ 2
theorem bd_end (seen : List Int) (p : Plc) (hp : p.small) (g : Gn) : Bd 3 0 g (gEnd l seen p g).2 := by
  obtain ⟨h1, h2, h3⟩ := hp
  unfold gEnd
  have h0 := bd_pick l 6 g
  have N := fun kind op n name ins outs g' => bd_node l kind op n name seen ins outs g'
  simp only
  split
  ·exact (h0.trans (N _ _ _ _ p.Yield [] _)).mono (by omega) (by simp)
  split
  ·exact (h0.trans (N _ _ _ _ p.Next [] _)).mono (by omega) (by simp)
  split
  ·exact (h0.trans (N _ _ _ _ p.Left [] _)).mono (by omega) (by simp)
  exact (h0.trans (N _ _ _ _ [1] [] _)).mono (by simp) (by simp)
def RecBd (rec : GRec) : Prop := ∀ seen p g, p.small → Bd 4 0 g (rec seen p g).2
theorem bd_shut (x : List Int → Nd) (t : List Int) (ht : t.length ≤ 2) (g : Gn) : Bd 0 2 g (gShut x t g).2 := by
  unfold gShut
  split
  ·exact ⟨Nat.le_refl _, Nat.le_refl _, Nat.le_refl _, by show g.types.length + 10 * g.left ≤ g.types.length + 10 * g.left + 2; omega⟩
  exact (bd_outs t g).mono (Nat.le_refl _) ht
theorem bd_if {rec : GRec} (hr : RecBd rec) (all : List Int) (p : Plc) (hp : p.small) (g : Gn) : Bd 12 2 g (gIf l rec all p g).2 := by
  unfold gIf
  simp only
  obtain ⟨h1, h2⟩ := bd_types l g
  have h3 := h1.trans (bd_each l all [2] (gTypes l g).2)
  have hsm : Plc.small ⟨true, p.Loop, (gTypes l g).1, p.Next, p.Left⟩ := ⟨h2, hp.2.1, hp.2.2⟩
  have h4 := h3.trans (hr all ⟨true, p.Loop, (gTypes l g).1, p.Next, p.Left⟩ _ hsm)
  have h5 := h4.trans (hr all ⟨true, p.Loop, (gTypes l g).1, p.Next, p.Left⟩ _ hsm)
  exact (h5.trans (bd_shut _ _ h2 _)).mono (by simp) (by simp)
theorem bd_loop {rec : GRec} (hr : RecBd rec) (all : List Int) (g : Gn) : Bd 12 4 g (gLoop l rec all g).2 := by
  unfold gLoop
  simp only
  obtain ⟨h1, h2⟩ := bd_types l g
  obtain ⟨h3, h4⟩ := bd_types l (gTypes l g).2
  have h5 := (h1.trans h3).trans ((bd_each l all (gTypes l g).1 (gTypes l (gTypes l g).2).2).mono h2 (Nat.le_refl 0))
  have h6 := h5.trans ((bd_outs (gTypes l g).1 (gEach l all (gTypes l g).1 (gTypes l (gTypes l g).2).2).2).mono (Nat.le_refl 0) h2)
  have h7 := h6.trans (hr (all ++ (gOuts (gTypes l g).1 (gEach l all (gTypes l g).1 (gTypes l (gTypes l g).2).2).2).1) ⟨false, true, [], (gTypes l g).1, (gTypes l (gTypes l g).2).1⟩ _ ⟨by simp, h2, h4⟩)
  exact (h7.trans (bd_shut _ _ h4 _)).mono (by omega) (by omega)
theorem bd_any {rec : Option GRec} (hr : ∀ r, rec = some r → RecBd r) (all : List Int) (p : Plc) (hp : p.small) (g : Gn) (hg : 0 < g.left) : Bd 0 0 g (gAny l rec all p g).2 := by
  have h0 : ({ g with left := g.left - 1 } : Gn).left + 1 = g.left := by show g.left - 1 + 1 = g.left; omega
  have key : ∀ g', Bd 17 5 { g with left := g.left - 1 } g' → Bd 0 0 g g' := fun g' h =>
    ⟨by have := h.lf; omega, by have := h.ps; have e : ({ g with left := g.left - 1 } : Gn).pos = g.pos := rfl; omega, h.t1, by have := h.t2; have e : ({ g with left := g.left - 1 } : Gn).types = g.types := rfl; rw [e] at this; omega⟩
  have hs := (bd_simple l all { g with left := g.left - 1 }).trans (bd_pick l 6 _)
  unfold gAny
  simp only
  cases rec with
  | none => exact key _ (hs.mono (by omega) (by omega))
  | some r =>
    simp only
    split
    ·exact key _ ((hs.trans (bd_if l (hr r rfl) all p hp _)).mono (by omega) (by omega))
    split
    ·exact key _ ((hs.trans (bd_loop l (hr r rfl) all _)).mono (by omega) (by omega))
    exact key _ (hs.mono (by omega) (by omega))
theorem bd_nodes {rec : Option GRec} (hr : ∀ r, rec = some r → RecBd r) (p : Plc) (hp : p.small) : ∀ (i : Nat) (out : List Nd) (all : List Int) (g : Gn), Bd 3 0 g (gNodes l rec p i out all g).2
  | 0, out, all, g => bd_end l all p hp g
  | i + 1, out, all, g => by
    unfold gNodes
    split
    ·exact bd_end l all p hp g
    rename_i hl
    have h1 := bd_any l hr all p hp g (by omega)
    simp only
    split
    ·exact h1.mono (by omega) (by omega)
    exact (h1.trans (bd_nodes hr p hp i _ _ _)).mono (by omega) (by omega)
theorem bd_list : ∀ d : Nat, RecBd (gList l d)
  | 0 => fun seen p g hp => ((bd_pick l 6 g).trans (bd_nodes l (rec := none) (fun r h => by cases h) p hp _ _ _ _)).mono (by omega) (by omega)
  | d + 1 => fun seen p g hp => ((bd_pick l 6 g).trans (bd_nodes l (rec := some (gList l d)) (fun r h => by cases h; exact bd_list d) p hp _ _ _ _)).mono (by omega) (by omega)
def gRec : Nat → Option GRec
  | 0 => none
  | d + 1 => some (gList l d)
theorem gRec_bd (d : Nat) : ∀ r, gRec l d = some r → RecBd r := by
  intro r h
  cases d with
  | zero => cases h
  | succ d => cases h; exact bd_list l d
theorem gList_eq (d : Nat) (seen : List Int) (p : Plc) (g : Gn) : gList l d seen p g = gNodes l (gRec l d) p (gPick l 6 g).1 [] seen (gPick l 6 g).2 := by cases d <;> rfl
end
theorem InR.mono {tys tys' seen : List Int} (h : InR tys seen) (hl : tys.length ≤ tys'.length) : InR tys' seen := fun s hs => ⟨(h s hs).1, Nat.lt_of_lt_of_le (h s hs).2 hl⟩
theorem InR.app {tys a b : List Int} (h : InR tys a) (h' : InR tys b) : InR tys (a ++ b) := fun s hs => (List.mem_append.1 hs).elim (h s) (h' s)
theorem InR.outs (ts : List Int) (g : Gn) : InR (gOuts ts g).2.types (gOuts ts g).1 := by
  intro s hs
  have := gOuts_in ts g s hs
  rw [(gOuts_st ts g).1]
  simp only [List.length_append]
  omega
section
variable (l : List UInt8)
theorem node_outs (kind op n : Int) (name : ByteArray) (seen ins outs : List Int) (g : Gn) : InR (gNode l kind op n name seen ins outs g).2.types (gNode l kind op n name seen ins outs g).1.outs ∧ (gNode l kind op n name seen ins outs g).1.outs.length = outs.length :=
  ⟨InR.outs outs _, (gOuts_st outs _).2⟩
theorem simple_outs (seen : List Int) (g : Gn) : InR (gSimple l seen g).2.types (gSimple l seen g).1.outs ∧ (gSimple l seen g).1.outs.length ≤ 1 := by
  have N := fun kind op n name ins outs g' => node_outs l kind op n name seen ins outs g'
  have fin : ∀ {x : Nd × Gn} {k : Nat}, InR x.2.types x.1.outs ∧ x.1.outs.length = k → k ≤ 1 → InR x.2.types x.1.outs ∧ x.1.outs.length ≤ 1 := fun h hk => ⟨h.1, by omega⟩
  unfold gSimple
  simp only
  split
  ·exact fin (N _ _ _ _ _ [1] _) (by simp)
  split
  ·exact fin (N _ _ _ _ _ [2] _) (by simp)
  split
  ·exact fin (N _ _ _ _ _ [1] _) (by simp)
  split
  ·exact fin (N _ _ _ _ _ [2] _) (by simp)
  split
  ·exact fin (N _ _ _ _ _ [1] _) (by simp)
  split
  ·exact fin (N _ _ _ _ _ [2] _) (by simp)
  split
  ·exact fin (N _ _ _ _ _ [1] _) (by simp)
  split
  ·exact fin (N _ _ _ _ _ [] _) (by simp)
  split
  ·exact fin (N _ _ _ _ _ [1] _) (by simp)
  split
  ·exact fin (N _ _ _ _ _ [1] _) (by simp)
  exact fin (N _ _ _ _ _ [] _) (by simp)
theorem shut_outs (x : List Int → Nd) (hx : ∀ o, (x o).outs = o) (t : List Int) (ht : t.length ≤ 2) (g : Gn) : InR (gShut x t g).2.types (gShut x t g).1.outs ∧ (gShut x t g).1.outs.length ≤ 2 := by
  unfold gShut
  split
  ·rw [hx]; exact ⟨fun s hs => by simp at hs, by simp⟩
  rw [hx]; exact ⟨InR.outs t g, by rw [(gOuts_st t g).2]; exact ht⟩
theorem any_outs {rec : Option GRec} (all : List Int) (p : Plc) (g : Gn) : InR (gAny l rec all p g).2.types (gAny l rec all p g).1.outs ∧ (gAny l rec all p g).1.outs.length ≤ 2 := by
  have hs := simple_outs l all { g with left := g.left - 1 }
  unfold gAny
  simp only
  cases rec with
  | none => exact ⟨hs.1, Nat.le_trans hs.2 (by decide)⟩
  | some r =>
    simp only
    split
    ·unfold gIf; exact shut_outs _ (fun _ => rfl) _ (bd_types l _).2 _
    split
    ·unfold gLoop; exact shut_outs _ (fun _ => rfl) _ (bd_types l _).2 _
    exact ⟨hs.1, Nat.le_trans hs.2 (by decide)⟩
end
theorem any_left (l : List UInt8) {rec : Option GRec} (hr : ∀ r, rec = some r → RecBd r) (all : List Int) (p : Plc) (hp : p.small) (g : Gn) (hg : 0 < g.left) : (gAny l rec all p g).2.left + 1 ≤ g.left := by
  have h0 : ({ g with left := g.left - 1 } : Gn).left + 1 = g.left := by show g.left - 1 + 1 = g.left; omega
  have hs := (bd_simple l all { g with left := g.left - 1 }).trans (bd_pick l 6 _)
  have fin : ∀ {a b : Nat} {g' : Gn}, Bd a b { g with left := g.left - 1 } g' → g'.left + 1 ≤ g.left := fun h => by have := h.lf; omega
  unfold gAny
  simp only
  cases rec with
  | none => exact fin hs
  | some r =>
    simp only
    split
    ·exact fin (hs.trans (bd_if l (hr r rfl) all p hp _))
    split
    ·exact fin (hs.trans (bd_loop l (hr r rfl) all _))
    exact fin hs
theorem gNodes_len (l : List UInt8) (rec : Option GRec) (p : Plc) : ∀ (i : Nat) (out : List Nd) (all : List Int) (g : Gn), (gNodes l rec p i out all g).1.length ≤ out.length + i + 1
  | 0, out, all, g => by simp [gNodes]
  | i + 1, out, all, g => by
    unfold gNodes
    split
    ·simp
    simp only
    split
    ·simp
    have := gNodes_len l rec p i (out ++ [(gAny l rec all p g).1]) (all ++ (gAny l rec all p g).1.outs) (gAny l rec all p g).2
    simp only [List.length_append, List.length_cons, List.length_nil] at this
    omega
theorem gList_len (l : List UInt8) (d : Nat) (seen : List Int) (p : Plc) (g : Gn) : (gList l d seen p g).1.length ≤ 6 := by
  rw [gList_eq]
  have h6 : (gPick l 6 g).1 < 6 := gPick_lt (by omega)
  have := gNodes_len l (gRec l d) p (gPick l 6 g).1 [] seen (gPick l 6 g).2
  simp only [List.length_nil] at this
  omega
theorem gFlow_pos (l : List UInt8) (name : ByteArray) (params : List Int) (g : Gn) (hp : params.length ≤ 10) (hg : g.pos ≤ 100) : (gFlow l name params g).2.pos ≤ 2000 := by
  have hS := (gOuts_st params { g with types := [], left := 30 }).1
  have hb := (bd_list l 3 ((gOuts params { g with types := [], left := 30 }).1 ++ [(gFresh 1 (gOuts params { g with types := [], left := 30 }).2).1, (gFresh 2 (gFresh 1 (gOuts params { g with types := [], left := 30 }).2).2).1]) plc0 (gFresh 2 (gFresh 1 (gOuts params { g with types := [], left := 30 }).2).2).2 ⟨by simp [plc0], by simp [plc0], by simp [plc0]⟩).ps
  have h1 : (gFresh 2 (gFresh 1 (gOuts params { g with types := [], left := 30 }).2).2).2.pos = g.pos := by rw [hS]; rfl
  have h2 : (gFresh 2 (gFresh 1 (gOuts params { g with types := [], left := 30 }).2).2).2.left = 30 := by rw [hS]; rfl
  rw [h1, h2] at hb
  show (gList l 3 _ plc0 _).2.pos ≤ 2000
  omega
end
section
def Px (g g' : Gn) : Prop := ∃ q, g'.types = g.types ++ q
theorem Px.refl (g : Gn) : Px g g := ⟨[], by simp⟩
theorem Px.trans {a b c : Gn} (h : Px a b) (h' : Px b c) : Px a c := by
  obtain ⟨q, e⟩ := h
  obtain ⟨r, e'⟩ := h'
  exact ⟨q ++ r, by rw [e', e, List.append_assoc]⟩
theorem Px.len {a b : Gn} (h : Px a b) : a.types.length ≤ b.types.length := by obtain ⟨q, e⟩ := h; rw [e]; simp
section
variable (l : List UInt8)
theorem px_pick (n : Nat) (g : Gn) : Px g (gPick l n g).2 := ⟨[], by simp [gPick]⟩
theorem px_each (seen ts : List Int) (g : Gn) : Px g (gEach l seen ts g).2 := ⟨[], by rw [(gEach_st l seen ts g).1]; simp⟩
theorem px_outs (ts : List Int) (g : Gn) : Px g (gOuts ts g).2 := ⟨ts, by rw [(gOuts_st ts g).1]⟩
theorem px_types (g : Gn) : Px g (gTypes l g).2 := ⟨[], by rw [(gTypes_st l g).1]; simp⟩
theorem px_node (kind op n : Int) (name : ByteArray) (seen ins outs : List Int) (g : Gn) : Px g (gNode l kind op n name seen ins outs g).2 := (px_each l seen ins g).trans (px_outs outs _)
theorem px_simple (seen : List Int) (g : Gn) : Px g (gSimple l seen g).2 := by
  unfold gSimple
  have h0 := px_pick l 12 g
  simp only
  repeat' split
  all_goals first
  | exact h0.trans ((px_pick l _ _).trans (px_node l _ _ _ _ _ _ _ _))
  | exact h0.trans (px_node l _ _ _ _ _ _ _ _)
theorem px_end (seen : List Int) (p : Plc) (g : Gn) : Px g (gEnd l seen p g).2 := by
  unfold gEnd
  have h0 := px_pick l 6 g
  simp only
  repeat' split
  all_goals exact h0.trans (px_node l _ _ _ _ _ _ _ _)
def RecPx (rec : GRec) : Prop := ∀ seen p g, Px g (rec seen p g).2
theorem px_shut (x : List Int → Nd) (t : List Int) (g : Gn) : Px g (gShut x t g).2 := by
  unfold gShut
  split
  ·exact .refl _
  exact px_outs t g
theorem px_if {rec : GRec} (hr : RecPx rec) (all : List Int) (p : Plc) (g : Gn) : Px g (gIf l rec all p g).2 := by
  unfold gIf
  exact (px_types l g).trans ((px_each l _ _ _).trans ((hr _ _ _).trans ((hr _ _ _).trans (px_shut _ _ _))))
theorem px_loop {rec : GRec} (hr : RecPx rec) (all : List Int) (g : Gn) : Px g (gLoop l rec all g).2 := by
  unfold gLoop
  exact (px_types l g).trans ((px_types l _).trans ((px_each l _ _ _).trans ((px_outs _ _).trans ((hr _ _ _).trans (px_shut _ _ _)))))
theorem px_any {rec : Option GRec} (hr : ∀ r, rec = some r → RecPx r) (all : List Int) (p : Plc) (g : Gn) : Px g (gAny l rec all p g).2 := by
  have h0 : Px g { g with left := g.left - 1 } := ⟨[], by simp⟩
  have hs := h0.trans ((px_simple l all { g with left := g.left - 1 }).trans (px_pick l 6 _))
  unfold gAny
  simp only
  cases rec with
  | none => exact hs
  | some r =>
    simp only
    split
    ·exact hs.trans (px_if l (hr r rfl) all p _)
    split
    ·exact hs.trans (px_loop l (hr r rfl) all _)
    exact hs
def gTail (rec : Option GRec) (p : Plc) : Nat → List Int → Gn → List Nd × Gn
  | 0, all, g => ([(gEnd l all p g).1], (gEnd l all p g).2)
  | i + 1, all, g =>
    if g.left = 0 then ([(gEnd l all p g).1], (gEnd l all p g).2)
    else if r8Closed (gAny l rec all p g).1 then ([(gAny l rec all p g).1], (gAny l rec all p g).2)
      else ((gAny l rec all p g).1 :: (gTail rec p i (all ++ (gAny l rec all p g).1.outs) (gAny l rec all p g).2).1, (gTail rec p i (all ++ (gAny l rec all p g).1.outs) (gAny l rec all p g).2).2)
theorem gNodes_tail (rec : Option GRec) (p : Plc) : ∀ (i : Nat) (out : List Nd) (all : List Int) (g : Gn), gNodes l rec p i out all g = (out ++ (gTail l rec p i all g).1, (gTail l rec p i all g).2)
  | 0, out, all, g => rfl
  | i + 1, out, all, g => by
    unfold gNodes gTail
    split
    ·rfl
    simp only
    split
    ·rfl
    rw [gNodes_tail rec p i]; simp
theorem gTail_ne (rec : Option GRec) (p : Plc) : ∀ (i : Nat) (all : List Int) (g : Gn), (gTail l rec p i all g).1 ≠ []
  | 0, all, g => by simp [gTail]
  | i + 1, all, g => by
    unfold gTail
    repeat' split
    all_goals simp
theorem px_tail {rec : Option GRec} (hr : ∀ r, rec = some r → RecPx r) (p : Plc) : ∀ (i : Nat) (all : List Int) (g : Gn), Px g (gTail l rec p i all g).2
  | 0, all, g => px_end l all p g
  | i + 1, all, g => by
    unfold gTail
    split
    ·exact px_end l all p g
    split
    ·exact px_any l hr all p g
    exact (px_any l hr all p g).trans (px_tail hr p i _ _)
theorem px_list (d : Nat) : RecPx (gList l d) := by
  induction d with
  | zero =>
    intro seen p g
    rw [gList_eq, gNodes_tail]
    exact (px_pick l 6 g).trans (px_tail l (fun r h => by cases h) p _ _ _)
  | succ d ih =>
    intro seen p g
    rw [gList_eq, gNodes_tail]
    exact (px_pick l 6 g).trans (px_tail l (fun r h => by cases h; exact ih) p _ _ _)
theorem gList_tail (d : Nat) (seen : List Int) (p : Plc) (g : Gn) : gList l d seen p g = gTail l (gRec l d) p (gPick l 6 g).1 seen (gPick l 6 g).2 := by
  rw [gList_eq, gNodes_tail]; simp
def Fresh (a b : Nat) (ds : List Int) : Prop := ds.Nodup ∧ ∀ v ∈ ds, (a : Int) ≤ v ∧ v < (b : Int)
theorem Fresh.nil (a b : Nat) : Fresh a b [] := ⟨List.nodup_nil, fun _ h => by simp at h⟩
theorem Fresh.app {a b b' c : Nat} {x y : List Int} (h : Fresh a b x) (h' : Fresh b' c y) (hb : b ≤ b') (ha : a ≤ b') (hc : b ≤ c) : Fresh a c (x ++ y) := by
  refine ⟨List.nodup_append.2 ⟨h.1, h'.1, fun u hu v hv e => ?_⟩, fun v hv => ?_⟩
  ·have h1 := h.2 u hu
   have h2 := h'.2 v hv
   omega
  rcases List.mem_append.1 hv with hv | hv
  ·have := h.2 v hv; omega
  have := h'.2 v hv; omega
theorem Fresh.mono {a b a' b' : Nat} {x : List Int} (h : Fresh a b x) (ha : a' ≤ a) (hb : b ≤ b') : Fresh a' b' x := ⟨h.1, fun v hv => by have := h.2 v hv; omega⟩
theorem fresh_outs : ∀ (ts : List Int) (g : Gn), Fresh g.types.length (gOuts ts g).2.types.length (gOuts ts g).1
  | [], g => .nil _ _
  | t :: r, g => by
    have ih := fresh_outs r (gFresh t g).2
    have h1 : Fresh g.types.length (g.types.length + 1) [(gFresh t g).1] := ⟨by simp, fun v hv => by
      rw [List.mem_singleton.1 hv]; simp only [gFresh]; omega⟩
    have e : (gFresh t g).2.types.length = g.types.length + 1 := by simp [gFresh]
    have hl := (px_outs r (gFresh t g).2).len
    rw [e] at ih hl
    exact h1.app ih (Nat.le_refl _) (by omega) hl
theorem fresh_node (kind op n : Int) (name : ByteArray) (seen ins outs : List Int) (g : Gn) : Fresh g.types.length (gNode l kind op n name seen ins outs g).2.types.length (dN (gNode l kind op n name seen ins outs g).1) := by
  have h := fresh_outs outs (gEach l seen ins g).2
  have e : (gEach l seen ins g).2.types = g.types := by rw [(gEach_st l seen ins g).1]
  rw [e] at h
  simpa [gNode, dN_eq, Nd.params, Nd.kids, Nd.outs, dK] using h
theorem fresh_simple (seen : List Int) (g : Gn) : Fresh g.types.length (gSimple l seen g).2.types.length (dN (gSimple l seen g).1) := by
  have N := fun kind op n name ins outs g' => fresh_node l kind op n name seen ins outs g'
  unfold gSimple
  simp only
  repeat' split
  all_goals exact N _ _ _ _ _ _ _
theorem fresh_end (seen : List Int) (p : Plc) (g : Gn) : Fresh g.types.length (gEnd l seen p g).2.types.length (dN (gEnd l seen p g).1) := by
  have N := fun kind op n name ins outs g' => fresh_node l kind op n name seen ins outs g'
  unfold gEnd
  simp only
  repeat' split
  all_goals exact N _ _ _ _ _ _ _
def RecFr (rec : GRec) : Prop := ∀ seen p g, Fresh g.types.length (rec seen p g).2.types.length (dL (rec seen p g).1)
theorem fresh_shut (x : List Int → Nd) (D : List Int) (a : Nat) (hx : ∀ o, dN (x o) = D ++ o) (t : List Int) (g : Gn) (hD : Fresh a g.types.length D) (ha : a ≤ g.types.length) : Fresh a (gShut x t g).2.types.length (dN (gShut x t g).1) := by
  unfold gShut
  split
  ·rw [hx, List.append_nil]; exact hD
  rw [hx]; exact hD.app (fresh_outs t g) (Nat.le_refl _) ha (px_outs t g).len
theorem fresh_if {rec : GRec} (hr : RecFr rec) (hp : RecPx rec) (all : List Int) (p : Plc) (g : Gn) : Fresh g.types.length (gIf l rec all p g).2.types.length (dN (gIf l rec all p g).1) := by
  unfold gIf
  simp only
  generalize hT : gTypes l g = T
  generalize hC : gEach l all [2] T.2 = C
  have eT : T.2.types = g.types := by rw [← hT, (gTypes_st l g).1]
  have eC : C.2.types = g.types := by rw [← hC, (gEach_st l all [2] T.2).1]; exact eT
  have hA := hr all ⟨true, p.Loop, T.1, p.Next, p.Left⟩ C.2
  have pA := (hp all ⟨true, p.Loop, T.1, p.Next, p.Left⟩ C.2).len
  generalize rec all ⟨true, p.Loop, T.1, p.Next, p.Left⟩ C.2 = A at *
  have hB := hr all ⟨true, p.Loop, T.1, p.Next, p.Left⟩ A.2
  have pB := (hp all ⟨true, p.Loop, T.1, p.Next, p.Left⟩ A.2).len
  generalize rec all ⟨true, p.Loop, T.1, p.Next, p.Left⟩ A.2 = B at *
  rw [eC] at hA pA
  refine fresh_shut _ (dL A.1 ++ dL B.1) g.types.length (fun o => by simp [dN, dK]) T.1 B.2 (hA.app hB (Nat.le_refl _) pA pB) (by omega)
theorem fresh_loop {rec : GRec} (hr : RecFr rec) (hp : RecPx rec) (all : List Int) (g : Gn) : Fresh g.types.length (gLoop l rec all g).2.types.length (dN (gLoop l rec all g).1) := by
  unfold gLoop
  simp only
  generalize hT : gTypes l g = T
  generalize hO : gTypes l T.2 = O
  generalize hA : gEach l all T.1 O.2 = A
  have eT : T.2.types = g.types := by rw [← hT, (gTypes_st l g).1]
  have eO : O.2.types = g.types := by rw [← hO, (gTypes_st l T.2).1]; exact eT
  have eA : A.2.types = g.types := by rw [← hA, (gEach_st l all T.1 O.2).1]; exact eO
  have hQ := fresh_outs T.1 A.2
  have pQ := (px_outs T.1 A.2).len
  generalize gOuts T.1 A.2 = Q at *
  have hB := hr (all ++ Q.1) ⟨false, true, [], T.1, O.1⟩ Q.2
  have pB := (hp (all ++ Q.1) ⟨false, true, [], T.1, O.1⟩ Q.2).len
  generalize rec (all ++ Q.1) ⟨false, true, [], T.1, O.1⟩ Q.2 = B at *
  rw [eA] at hQ pQ
  refine fresh_shut _ (Q.1 ++ dL B.1) g.types.length (fun o => by simp [dN, dK]) O.1 B.2 (hQ.app hB (Nat.le_refl _) pQ pB) (by omega)
theorem fresh_any {rec : Option GRec} (hr : ∀ r, rec = some r → RecFr r ∧ RecPx r) (all : List Int) (p : Plc) (g : Gn) : Fresh g.types.length (gAny l rec all p g).2.types.length (dN (gAny l rec all p g).1) := by
  have hs := fresh_simple l all { g with left := g.left - 1 }
  have ps := (px_simple l all { g with left := g.left - 1 }).len
  unfold gAny
  simp only
  cases rec with
  | none => exact hs
  | some r =>
    simp only
    split
    ·exact (fresh_if l (hr r rfl).1 (hr r rfl).2 all p _).mono ps (Nat.le_refl _)
    split
    ·exact (fresh_loop l (hr r rfl).1 (hr r rfl).2 all _).mono ps (Nat.le_refl _)
    exact hs
theorem fresh_tail {rec : Option GRec} (hr : ∀ r, rec = some r → RecFr r ∧ RecPx r) (p : Plc) : ∀ (i : Nat) (all : List Int) (g : Gn), Fresh g.types.length (gTail l rec p i all g).2.types.length (dL (gTail l rec p i all g).1)
  | 0, all, g => by
    have := fresh_end l all p g
    simpa [gTail, dL] using this
  | i + 1, all, g => by
    have he := fresh_end l all p g
    have hx := fresh_any l hr all p g
    have px := (px_any l (fun r h => (hr r h).2) all p g).len
    unfold gTail
    split
    ·simpa [dL] using he
    split
    ·simpa [dL] using hx
    have ih := fresh_tail hr p i (all ++ (gAny l rec all p g).1.outs) (gAny l rec all p g).2
    have pt := (px_tail l (fun r h => (hr r h).2) p i (all ++ (gAny l rec all p g).1.outs) (gAny l rec all p g).2).len
    simp only [dL]
    exact hx.app ih (Nat.le_refl _) px pt
theorem fresh_list (d : Nat) : RecFr (gList l d) := by
  induction d with
  | zero =>
    intro seen p g
    rw [gList_tail]
    exact fresh_tail l (fun r h => by cases h) p (gPick l 6 g).1 seen (gPick l 6 g).2
  | succ d ih =>
    intro seen p g
    rw [gList_tail]
    exact fresh_tail l (fun r h => by cases h; exact ⟨ih, px_list l d⟩) p (gPick l 6 g).1 seen (gPick l 6 g).2
end
end
section
def n64 (n : Int) : Bool := decide (-9223372036854775808 ≤ n) && decide (n ≤ 9223372036854775807)
mutual
def nIN : Nd → Bool
  | .mk _ _ n _ _ _ _ ks => n64 n && nIK ks
def nIL : List Nd → Bool
  | [] => true
  | x :: r => nIN x && nIL r
def nIK : List (List Nd) → Bool
  | [] => true
  | l :: r => nIL l && nIK r
end
mutual
theorem nIN_64 : ∀ x : Nd, nIN x = true → n64N x
  | .mk _ _ n _ _ _ _ ks, h => by
    simp only [nIN, Bool.and_eq_true, n64, decide_eq_true_eq] at h
    simp only [n64N]
    exact ⟨h.1, nIK_64 ks h.2⟩
theorem nIL_64 : ∀ l : List Nd, nIL l = true → n64L l
  | [], _ => by simp [n64L]
  | x :: r, h => by
    simp only [nIL, Bool.and_eq_true] at h
    simp only [n64L]
    exact ⟨nIN_64 x h.1, nIL_64 r h.2⟩
theorem nIK_64 : ∀ l : List (List Nd), nIK l = true → n64K l
  | [], _ => by simp [n64K]
  | x :: r, h => by
    simp only [nIK, Bool.and_eq_true] at h
    simp only [n64K]
    exact ⟨nIL_64 x h.1, nIK_64 r h.2⟩
end
section
variable (l : List UInt8)
theorem nI_app : ∀ a b : List Nd, nIL (a ++ b) = (nIL a && nIL b)
  | [], b => by simp [nIL]
  | x :: r, b => by simp only [List.cons_append, nIL, nI_app r b, Bool.and_assoc]
theorem nI_node {kind op n : Int} {name : ByteArray} {seen ins outs : List Int} {g : Gn} (hn : n64 n = true) : nIN (gNode l kind op n name seen ins outs g).1 = true := by
  simp [gNode, nIN, nIK, hn]
theorem nums64 (i : Nat) : n64 (gNums.getD i 0) = true := by
  match i with
  | 0 | 1 | 2 | 3 | 4 | 5 => rfl
  | i + 6 => rfl
theorem pick2 (g : Gn) : (gPick l 2 g).1 ≤ 1 := by
  unfold gPick
  dsimp only
  split
  · omega
  · omega
theorem n64_nat {k : Nat} (h : k ≤ 1) : n64 (k : Int) = true := by
  unfold n64
  rw [decide_eq_true (show (-9223372036854775808 : Int) ≤ k by omega), decide_eq_true (show (k : Int) ≤ 9223372036854775807 by omega)]
  rfl
theorem nI_simple (seen : List Int) (g : Gn) : nIN (gSimple l seen g).1 = true := by
  unfold gSimple
  simp only
  repeat' split
  all_goals first
  | exact nI_node l (nums64 _)
  | exact nI_node l rfl
  | exact nI_node l (n64_nat (pick2 l _))
theorem nI_end (seen : List Int) (p : Plc) (g : Gn) : nIN (gEnd l seen p g).1 = true := by
  unfold gEnd
  simp only
  repeat' split
  all_goals exact nI_node l rfl
def RecN (rec : GRec) : Prop := ∀ seen p g, nIL (rec seen p g).1 = true
theorem nI_shut (x : List Int → Nd) (hx : ∀ o, nIN (x o) = true) (t : List Int) (g : Gn) : nIN (gShut x t g).1 = true := by
  unfold gShut
  split
  · exact hx _
  · exact hx _
theorem nI_any {rec : Option GRec} (hr : ∀ r, rec = some r → RecN r) (all : List Int) (p : Plc) (g : Gn) : nIN (gAny l rec all p g).1 = true := by
  have hs := nI_simple l all { g with left := g.left - 1 }
  unfold gAny
  simp only
  cases rec with
  | none => exact hs
  | some r =>
    simp only
    split
    · unfold gIf
      exact nI_shut _ (fun o => by simp [nIN, nIK, hr r rfl _ _ _, n64]) _ _
    split
    · unfold gLoop
      exact nI_shut _ (fun o => by simp [nIN, nIK, hr r rfl _ _ _, n64]) _ _
    · exact hs
theorem nI_tail {rec : Option GRec} (hr : ∀ r, rec = some r → RecN r) (p : Plc) : ∀ (i : Nat) (all : List Int) (g : Gn), nIL (gTail l rec p i all g).1 = true
  | 0, all, g => by simp [gTail, nIL, nI_end]
  | i + 1, all, g => by
    unfold gTail
    split
    · simp [nIL, nI_end]
    split
    · simp [nIL, nI_any l hr]
    · simp [nIL, nI_any l hr, nI_tail hr p i]
theorem nI_list (d : Nat) : RecN (gList l d) := by
  induction d with
  | zero =>
    intro seen p g
    rw [gList_eq, gNodes_tail]
    exact nI_tail l (fun r h => by cases h) p _ _ _
  | succ d ih =>
    intro seen p g
    rw [gList_eq, gNodes_tail]
    exact nI_tail l (fun r h => by cases h; exact ih) p _ _ _
theorem nI_flow (name : ByteArray) (params : List Int) (g : Gn) : nIL (gFlow l name params g).1.body = true := by
  unfold gFlow
  simp only
  rw [nI_app, nI_list]
  rfl
end
theorem made_n (l : List UInt8) : ∀ f ∈ (made l).flows, nIL f.body = true := by
  intro f hf
  simp only [made, List.mem_cons, List.not_mem_nil, or_false] at hf
  rcases hf with rfl | rfl <;> exact nI_flow l _ _ _
theorem made_64 (l : List UInt8) : ∀ f ∈ (made l).flows, n64L f.body := fun f hf => nIL_64 _ (made_n l f hf)
end
def tL (t : ByteArray) : List UInt8 := t.data.toList
theorem tL_app (a b : ByteArray) : tL (a ++ b) = tL a ++ tL b := by simp [tL]
theorem tL_inj {a b : ByteArray} (h : tL a = tL b) : a = b := by
  cases a; cases b
  simp only [tL] at h
  rw [ByteArray.mk.injEq]
  exact Array.ext' h
theorem tL_nil : tL ⟨#[]⟩ = [] := rfl
def Stop (p : UInt8 → Bool) (r : List UInt8) : Prop := ∀ b t, r = b :: t → p b = false
theorem run_inj {p : UInt8 → Bool} : ∀ {a a' r r' : List UInt8}, (∀ b ∈ a, p b = true) → (∀ b ∈ a', p b = true) → Stop p r → Stop p r' → a ++ r = a' ++ r' → a = a' ∧ r = r'
  | [], [], _, _, _, _, _, _, h => ⟨rfl, h⟩
  | [], b :: t, r, r', _, ha', hr, _, h => by
    have := hr b (t ++ r') h
    rw [ha' b (.head _)] at this; cases this
  | b :: t, [], r, r', ha, _, _, hr', h => by
    have := hr' b (t ++ r) h.symm
    rw [ha b (.head _)] at this; cases this
  | b :: t, b' :: t', r, r', ha, ha', hr, hr', h => by
    simp only [List.cons_append, List.cons.injEq] at h
    obtain ⟨rfl, h⟩ := h
    obtain ⟨h1, h2⟩ := run_inj (fun x hx => ha x (.tail _ hx)) (fun x hx => ha' x (.tail _ hx)) hr hr' h
    exact ⟨by rw [h1], h2⟩
theorem Stop.cons {p : UInt8 → Bool} {b : UInt8} {t : List UInt8} (h : p b = false) : Stop p (b :: t) := fun c s e => by cases e; exact h
def isDg (b : UInt8) : Bool := decide (48 ≤ b.toNat) && decide (b.toNat ≤ 57)
theorem dg_nat {n : Nat} (h : n < 10) : (UInt8.ofNat (48 + n)).toNat = 48 + n := UInt8.toNat_ofNat_of_lt' (by simp [UInt8.size]; omega)
theorem dec_digits (u : Nat) : ∀ b ∈ Lib.decDigits u, isDg b = true := by
  induction u using Nat.strongRecOn with
  | _ u ih =>
    intro b hb
    rw [Lib.decDigits] at hb
    split at hb
    · rename_i h
      simp only [List.mem_singleton] at hb
      subst hb
      simp only [isDg, dg_nat h, Bool.and_eq_true, decide_eq_true_eq]
      omega
    · rename_i h
      rcases List.mem_append.1 hb with hb | hb
      · exact ih (u / 10) (by omega) b hb
      · simp only [List.mem_singleton] at hb
        subst hb
        simp only [isDg, dg_nat (show u % 10 < 10 by omega), Bool.and_eq_true, decide_eq_true_eq]
        omega
def decVal (l : List UInt8) : Nat := l.foldl (fun a b => 10 * a + (b.toNat - 48)) 0
theorem dec_val (u : Nat) : decVal (Lib.decDigits u) = u := by
  induction u using Nat.strongRecOn with
  | _ u ih =>
    rw [Lib.decDigits]
    split
    · rename_i h
      simp only [decVal, List.foldl_cons, List.foldl_nil, dg_nat h]
      omega
    · rename_i h
      have := ih (u / 10) (by omega)
      unfold decVal at this ⊢
      rw [List.foldl_append, this]
      simp only [List.foldl_cons, List.foldl_nil, dg_nat (show u % 10 < 10 by omega)]
      omega
theorem dec_ne (u : Nat) : Lib.decDigits u ≠ [] := by
  rw [Lib.decDigits]
  split <;> simp
theorem dec_inj {u v : Nat} {r r' : List UInt8} (hr : Stop isDg r) (hr' : Stop isDg r') (h : Lib.decDigits u ++ r = Lib.decDigits v ++ r') : u = v ∧ r = r' := by
  obtain ⟨h1, h2⟩ := run_inj (dec_digits u) (dec_digits v) hr hr' h
  exact ⟨by rw [← dec_val u, ← dec_val v, h1], h2⟩
theorem num_inj {m n : Int} {r r' : List UInt8} (hr : Stop isDg r) (hr' : Stop isDg r') (h : tL (tNum m) ++ r = tL (tNum n) ++ r') : m = n ∧ r = r' := by
  have e : ∀ k : Int, tL (tNum k) = if k < 0 then 45 :: Lib.decDigits k.natAbs else Lib.decDigits k.toNat := fun k => rfl
  have hd : ∀ (u : Nat) (s t : List UInt8), Lib.decDigits u ++ s = 45 :: t → False := fun u s t h => by
    have h1 := dec_digits u
    match hx : Lib.decDigits u, dec_ne u with
    | b :: q, _ =>
      rw [hx] at h h1
      simp only [List.cons_append, List.cons.injEq] at h
      have := h1 b (.head _)
      rw [h.1] at this
      exact absurd this (by decide)
  rw [e m, e n] at h
  split at h <;> split at h
  · simp only [List.cons_append, List.cons.injEq, true_and] at h
    obtain ⟨h1, h2⟩ := dec_inj hr hr' h
    exact ⟨by omega, h2⟩
  · exact (hd _ _ _ h.symm).elim
  · exact (hd _ _ _ h).elim
  · obtain ⟨h1, h2⟩ := dec_inj hr hr' h
    exact ⟨by omega, h2⟩
theorem val_eq (n : Int) : tL (tVal n) = 118 :: tL (tNum n) := rfl
theorem val_inj {m n : Int} {r r' : List UInt8} (hr : Stop isDg r) (hr' : Stop isDg r') (h : tL (tVal m) ++ r = tL (tVal n) ++ r') : m = n ∧ r = r' := by
  rw [val_eq, val_eq] at h
  simp only [List.cons_append, List.cons.injEq, true_and] at h
  exact num_inj hr hr' h
theorem vals_eq : ∀ (a : Int) (l : List Int), tL (tVals (a :: l)) = tL (tVal a) ++ (l.map fun v => 44 :: 32 :: tL (tVal v)).flatten
  | a, [] => by rw [tVals_one]; simp
  | a, b :: l => by
    have ih := vals_eq b l
    have h : tVals (a :: b :: l) = tVal a ++ ⟨#[44, 32]⟩ ++ tVals (b :: l) := by
      unfold tVals tJoin
      apply ByteArray.ext
      simp [Lib.join]
    rw [h, tL_app, tL_app, ih]
    simp only [List.map_cons, List.flatten_cons, List.append_assoc]
    rfl
theorem comma_stop {l : List Int} {r : List UInt8} (hr : Stop isDg r) : Stop isDg ((l.map fun v => 44 :: 32 :: tL (tVal v)).flatten ++ r) := by
  cases l with
  | nil => simpa using hr
  | cons a l => exact Stop.cons (by decide)
def isDC (b : UInt8) : Bool := isDg b || b == 44
theorem Stop.dg {r : List UInt8} (h : Stop isDC r) : Stop isDg r := fun b t e => by
  have := h b t e
  simp only [isDC, Bool.or_eq_false_iff] at this
  exact this.1
theorem tail_inj : ∀ {l m : List Int} {r r' : List UInt8}, Stop isDC r → Stop isDC r' → (l.map fun v => 44 :: 32 :: tL (tVal v)).flatten ++ r = (m.map fun v => 44 :: 32 :: tL (tVal v)).flatten ++ r' → l = m ∧ r = r'
  | [], [], _, _, _, _, h => ⟨rfl, by simpa using h⟩
  | [], b :: m, r, r', hr, _, h => by
    simp only [List.map_nil, List.flatten_nil, List.nil_append, List.map_cons, List.flatten_cons, List.cons_append] at h
    exact absurd (hr 44 _ h) (by decide)
  | a :: l, [], r, r', _, hr', h => by
    simp only [List.map_nil, List.flatten_nil, List.nil_append, List.map_cons, List.flatten_cons, List.cons_append] at h
    exact absurd (hr' 44 _ h.symm) (by decide)
  | a :: l, b :: m, r, r', hr, hr', h => by
    simp only [List.map_cons, List.flatten_cons, List.cons_append, List.append_assoc, List.cons.injEq, true_and] at h
    obtain ⟨rfl, h2⟩ := val_inj (comma_stop hr.dg) (comma_stop hr'.dg) h
    obtain ⟨rfl, h3⟩ := tail_inj hr hr' h2
    exact ⟨rfl, h3⟩
theorem vals_inj : ∀ {l m : List Int} {r r' : List UInt8}, l ≠ [] → m ≠ [] → Stop isDC r → Stop isDC r' → tL (tVals l) ++ r = tL (tVals m) ++ r' → l = m ∧ r = r'
  | [], _, _, _, h, _, _, _, _ => absurd rfl h
  | _ :: _, [], _, _, _, h, _, _, _ => absurd rfl h
  | a :: l, b :: m, r, r', _, _, hr, hr', h => by
    rw [vals_eq, vals_eq, List.append_assoc, List.append_assoc] at h
    obtain ⟨rfl, h2⟩ := val_inj (comma_stop hr.dg) (comma_stop hr'.dg) h
    obtain ⟨rfl, h3⟩ := tail_inj hr hr' h2
    exact ⟨rfl, h3⟩
theorem behind_eq (w : ByteArray) (l : List Int) : tL (tBehind w l) = tL w ++ (if l = [] then [] else 32 :: tL (tVals l)) := by
  unfold tBehind
  split
  · simp
  · rw [tL_app, tL_app]
    simp only [List.append_assoc]
    rfl
theorem behind_inj {w : ByteArray} {l m : List Int} {r r' : List UInt8} (h : tL (tBehind w l) ++ 10 :: r = tL (tBehind w m) ++ 10 :: r') : l = m ∧ r = r' := by
  rw [behind_eq, behind_eq, List.append_assoc, List.append_assoc] at h
  have h := List.append_cancel_left h
  split at h <;> split at h
  · rename_i h1 h2
    simp only [List.nil_append, List.cons.injEq, true_and] at h
    exact ⟨by rw [h1, h2], h⟩
  · simp at h
  · simp at h
  · rename_i h1 h2
    simp only [List.cons_append, List.cons.injEq, true_and] at h
    obtain ⟨e1, e2⟩ := vals_inj h1 h2 (Stop.cons (by decide)) (Stop.cons (by decide)) h
    exact ⟨e1, by simpa using e2⟩
def Nm (s : ByteArray) : Prop := tL s ≠ [] ∧ ∀ b ∈ tL s, isLD b = true
inductive NF : Nd → Prop
  | num (n o : Int) : NF (.mk 1 0 n ⟨#[]⟩ [] [o] [] [])
  | truth (n o : Int) (h : n = 0 ∨ n = 1) : NF (.mk 2 0 n ⟨#[]⟩ [] [o] [] [])
  | one (op a o : Int) (h : 20 ≤ op ∧ op ≤ 28) : NF (.mk 3 op 0 ⟨#[]⟩ [a] [o] [] [])
  | two (op a b o : Int) (h : 1 ≤ op ∧ op ≤ 17) : NF (.mk 4 op 0 ⟨#[]⟩ [a, b] [o] [] [])
  | load (s : ByteArray) (a o : Int) (h : Nm s) : NF (.mk 5 0 0 s [a] [o] [] [])
  | store (s : ByteArray) (a b : Int) (h : Nm s) : NF (.mk 6 0 0 s [a, b] [] [] [])
  | call (s : ByteArray) (l : List Int) (o : Int) (h : Nm s) : NF (.mk 7 0 0 s l [o] [] [])
  | read (o : Int) : NF (.mk 8 0 0 ⟨#[]⟩ [] [o] [] [])
  | print (a : Int) : NF (.mk 9 0 0 ⟨#[]⟩ [a] [] [] [])
  | ite (a : Int) (outs : List Int) (p q : List Nd) : NF (.mk 10 0 0 ⟨#[]⟩ [a] outs [] [p, q])
  | loop (l outs params : List Int) (p : List Nd) (h : params.length = l.length) : NF (.mk 11 0 0 ⟨#[]⟩ l outs params [p])
  | yield (l : List Int) : NF (.mk 12 0 0 ⟨#[]⟩ l [] [] [])
  | next (l : List Int) : NF (.mk 13 0 0 ⟨#[]⟩ l [] [] [])
  | leave (l : List Int) : NF (.mk 14 0 0 ⟨#[]⟩ l [] [] [])
  | ret (a : Int) : NF (.mk 15 0 0 ⟨#[]⟩ [a] [] [] [])
theorem dw {p : UInt8 → Bool} {c : UInt8} {t : List UInt8} (hc : p c = false) : ∀ {a : List UInt8}, (∀ b ∈ a, p b = true) → (a ++ c :: t).dropWhile p = c :: t
  | [], _ => by simp [hc]
  | b :: a, h => by
    simp only [List.cons_append, List.dropWhile_cons, h b (.head _), if_true]
    exact dw hc fun x hx => h x (.tail _ hx)
theorem tw {p : UInt8 → Bool} {c : UInt8} {t : List UInt8} (hc : p c = false) : ∀ {a : List UInt8}, (∀ b ∈ a, p b = true) → (a ++ c :: t).takeWhile p = a
  | [], _ => by simp [hc]
  | b :: a, h => by
    simp only [List.cons_append, List.takeWhile_cons, h b (.head _), if_true]
    rw [tw hc fun x hx => h x (.tail _ hx)]
theorem dg_ld {b : UInt8} (h : isDg b = true) : isLD b = true := by
  simp only [isDg, Bool.and_eq_true, decide_eq_true_eq] at h
  simp only [isLD, isDigit, Bool.or_eq_true, Bool.and_eq_true, decide_eq_true_eq]
  exact .inr (by omega)
theorem num_nat {n : Int} (h : 0 ≤ n) : tL (tNum n) = Lib.decDigits n.toNat := by
  show (if n < 0 then 45 :: Lib.decDigits n.natAbs else Lib.decDigits n.toNat) = _
  rw [if_neg (by omega)]
theorem num_neg {n : Int} (h : n < 0) : tL (tNum n) = 45 :: Lib.decDigits n.natAbs := by
  show (if n < 0 then 45 :: Lib.decDigits n.natAbs else Lib.decDigits n.toNat) = _
  rw [if_pos h]
theorem val_ld {n : Int} (h : 0 ≤ n) : ∀ b ∈ tL (tVal n), isLD b = true := by
  intro b hb
  rw [val_eq, num_nat h] at hb
  rcases List.mem_cons.1 hb with rfl | hb
  · decide
  · exact dg_ld (dec_digits _ b hb)
theorem dec_head (u : Nat) : ∃ b t, Lib.decDigits u = b :: t ∧ isDg b = true := by
  have h := dec_digits u
  match hx : Lib.decDigits u, dec_ne u with
  | b :: t, _ => exact ⟨b, t, rfl, h b (by rw [hx]; exact .head _)⟩
theorem join_cons (w sep : ByteArray) : ∀ ws : List ByteArray, tL (tJoin (w :: ws) sep) = tL w ++ (ws.map fun u => tL sep ++ tL u).flatten
  | [] => by
    unfold tJoin
    simp [Lib.join, tL]
  | u :: ws => by
    have ih := join_cons u sep ws
    have h : tJoin (w :: u :: ws) sep = w ++ sep ++ tJoin (u :: ws) sep := by
      unfold tJoin
      apply ByteArray.ext
      simp [Lib.join]
    rw [h, tL_app, tL_app, ih]
    simp only [List.map_cons, List.flatten_cons, List.append_assoc]
def pT (q : Int × Int) : List UInt8 := 32 :: (tL (tVal q.1) ++ 32 :: 61 :: 32 :: tL (tVal q.2))
def pTs : List (Int × Int) → List UInt8
  | [] => []
  | q :: t => pT q ++ (t.map fun q => 44 :: pT q).flatten
theorem pair_T (p v : Int) : tL (tPair p v) = pT (p, v) := by
  simp only [tPair, tL_app]
  simp [pT, tL, tSp, tEq]
theorem pairL_zip : ∀ a b : List Int, tPairL a b = (a.zip b).map fun q => tPair q.1 q.2
  | [], _ => by simp [tPairL]
  | _ :: _, [] => by simp [tPairL]
  | x :: a, y :: b => by
    have := pairL_zip a b
    simp only [tPairL] at this ⊢
    simp [this]
theorem pairs_T (a b : List Int) : tL (tPairs a b) = pTs (a.zip b) := by
  unfold tPairs
  rw [pairL_zip]
  cases a.zip b with
  | nil => rfl
  | cons q t =>
    simp only [List.map_cons, join_cons, pTs, pair_T, List.map_map]
    have e : ((fun u => tL tCm ++ tL u) ∘ fun q : Int × Int => tPair q.1 q.2) = fun q => 44 :: pT q := by
      funext q
      show tL tCm ++ tL (tPair q.1 q.2) = _
      rw [pair_T]
      rfl
    rw [e]
theorem pT_inj {q q' : Int × Int} {r r' : List UInt8} (hr : Stop isDg r) (hr' : Stop isDg r') (h : pT q ++ r = pT q' ++ r') : q = q' ∧ r = r' := by
  simp only [pT, List.cons_append, List.append_assoc, List.cons.injEq, true_and] at h
  obtain ⟨h1, h2⟩ := val_inj (Stop.cons (by decide)) (Stop.cons (by decide)) h
  simp only [List.cons.injEq, true_and] at h2
  obtain ⟨h3, h4⟩ := val_inj hr hr' h2
  exact ⟨Prod.ext h1 h3, h4⟩
theorem pc_stop {l : List (Int × Int)} {r : List UInt8} : Stop isDg ((l.map fun q => 44 :: pT q).flatten ++ 10 :: r) := by
  cases l with
  | nil => exact Stop.cons (by decide)
  | cons a l => exact Stop.cons (by decide)
theorem ptail_inj : ∀ {l m : List (Int × Int)} {r r' : List UInt8}, (l.map fun q => 44 :: pT q).flatten ++ 10 :: r = (m.map fun q => 44 :: pT q).flatten ++ 10 :: r' → l = m ∧ r = r'
  | [], [], _, _, h => ⟨rfl, by simpa using h⟩
  | [], b :: m, r, r', h => by simp at h
  | a :: l, [], r, r', h => by simp at h
  | a :: l, b :: m, r, r', h => by
    simp only [List.map_cons, List.flatten_cons, List.cons_append, List.append_assoc, List.cons.injEq, true_and] at h
    obtain ⟨rfl, h2⟩ := pT_inj pc_stop pc_stop h
    obtain ⟨rfl, h3⟩ := ptail_inj h2
    exact ⟨rfl, h3⟩
theorem pTs_inj : ∀ {l m : List (Int × Int)} {r r' : List UInt8}, pTs l ++ 10 :: r = pTs m ++ 10 :: r' → l = m ∧ r = r'
  | [], [], _, _, h => ⟨rfl, by simpa [pTs] using h⟩
  | [], b :: m, r, r', h => by simp [pTs, pT] at h
  | a :: l, [], r, r', h => by simp [pTs, pT] at h
  | a :: l, b :: m, r, r', h => by
    simp only [pTs, List.append_assoc] at h
    obtain ⟨rfl, h2⟩ := pT_inj pc_stop pc_stop h
    obtain ⟨rfl, h3⟩ := ptail_inj h2
    exact ⟨rfl, h3⟩
theorem zip_inj : ∀ {a a' b b' : List Int}, a.length = b.length → a'.length = b'.length → a.zip b = a'.zip b' → a = a' ∧ b = b'
  | [], [], [], [], _, _, _ => ⟨rfl, rfl⟩
  | [], _ :: _, [], _ :: _, _, _, h => by simp at h
  | _ :: _, [], _ :: _, [], _, _, h => by simp at h
  | x :: a, x' :: a', y :: b, y' :: b', h1, h2, h => by
    simp only [List.zip_cons_cons, List.cons.injEq, Prod.mk.injEq] at h
    obtain ⟨e1, e2⟩ := zip_inj (by simpa using h1) (by simpa using h2) h.2
    exact ⟨by rw [h.1.1, e1], by rw [h.1.2, e2]⟩
theorem pairs_inj {a a' b b' : List Int} {r r' : List UInt8} (h1 : a.length = b.length) (h2 : a'.length = b'.length) (h : tL (tPairs a b) ++ 10 :: r = tL (tPairs a' b') ++ 10 :: r') : a = a' ∧ b = b' ∧ r = r' := by
  rw [pairs_T, pairs_T] at h
  obtain ⟨e1, e2⟩ := pTs_inj h
  obtain ⟨e3, e4⟩ := zip_inj h1 h2 e1
  exact ⟨e3, e4, e2⟩
def sigR (s : List UInt8) : Int :=
  if s.takeWhile isLD = [] then (if (s.drop 1).head? = some 32 then 3 else 1)
  else if (s.dropWhile isLD).head? = some 91 then 5 else if (s.dropWhile isLD).head? = some 40 then 7
  else if (s.dropWhile isLD).head? = some 32 then (if s.head? = some 118 then 4 else 3)
  else if s.head? = some 116 ∨ s.head? = some 102 then 2 else if s.head? = some 114 then 8 else 1
theorem op_one {op : Int} (h : 20 ≤ op ∧ op ≤ 28) : op = 20 ∨ op = 21 ∨ op = 22 ∨ op = 23 ∨ op = 24 ∨ op = 25 ∨ op = 26 ∨ op = 27 ∨ op = 28 := by omega
def sgB (i j : Nat) : Bool := !(decide (20 ≤ i) == decide (20 ≤ j)) || (i == 18 || i == 19 || j == 18 || j == 19) || !(tL (wSigns.getD i ⟨#[]⟩) == tL (wSigns.getD j ⟨#[]⟩)) || i == j
theorem sgB_all : ((List.range 29).all fun i => (List.range 29).all fun j => sgB i j) = true := by decide +kernel
theorem wSigns_inj (i : Nat) (hi : i < 29) (j : Nat) (hj : j < 29) (h : 20 ≤ i ↔ 20 ≤ j) (h1 : 18 ≤ i → 20 ≤ i) (h2 : 18 ≤ j → 20 ≤ j) (e : wSigns.getD i ⟨#[]⟩ = wSigns.getD j ⟨#[]⟩) : i = j := by
  have h3 := List.all_eq_true.1 (List.all_eq_true.1 sgB_all i (List.mem_range.2 hi)) j (List.mem_range.2 hj)
  simp only [sgB, e, h, Bool.or_eq_true, beq_self_eq_true, Bool.not_true, Bool.not_eq_true', beq_iff_eq] at h3
  simp at h3
  omega
theorem wSign_at {op : Int} (h : 0 ≤ op ∧ op ≤ 28) : wSign op = wSigns.getD op.toNat ⟨#[]⟩ := by
  unfold wSign
  rw [if_neg (by simp; omega)]
theorem wSign_inj {p q : Int} (hp : 0 ≤ p ∧ p ≤ 28) (hq : 0 ≤ q ∧ q ≤ 28) (h : 20 ≤ p ↔ 20 ≤ q) (h1 : 18 ≤ p → 20 ≤ p) (h2 : 18 ≤ q → 20 ≤ q) (e : wSign p = wSign q) : p = q := by
  rw [wSign_at hp, wSign_at hq] at e
  have := wSigns_inj p.toNat (by omega) q.toNat (by omega) (by omega) (by omega) (by omega) e
  omega
theorem wSigns_neB : ((List.range 29).all fun i => (tL (wSigns.getD i ⟨#[]⟩)).all fun b => b != 32) = true := by decide +kernel
theorem wSigns_ne (i : Nat) (hi : i < 29) : ∀ b ∈ tL (wSigns.getD i ⟨#[]⟩), (b != 32) = true := List.all_eq_true.1 (List.all_eq_true.1 wSigns_neB i (List.mem_range.2 hi))
theorem wSign_ne {op : Int} (h : 0 ≤ op ∧ op ≤ 28) : ∀ b ∈ tL (wSign op), (b != 32) = true := by
  rw [wSign_at h]
  exact wSigns_ne op.toNat (by omega)
theorem sign_split {p q : Int} {r r' : List UInt8} (hp : 0 ≤ p ∧ p ≤ 28) (hq : 0 ≤ q ∧ q ≤ 28) (h : 20 ≤ p ↔ 20 ≤ q) (h1 : 18 ≤ p → 20 ≤ p) (h2 : 18 ≤ q → 20 ≤ q) (e : tL (wSign p) ++ 32 :: r = tL (wSign q) ++ 32 :: r') : p = q ∧ r = r' := by
  obtain ⟨e1, e2⟩ := run_inj (p := fun b => b != 32) (wSign_ne hp) (wSign_ne hq) (Stop.cons (by decide)) (Stop.cons (by decide)) e
  exact ⟨wSign_inj hp hq h h1 h2 (tL_inj e1), by simpa using e2⟩
theorem r_num (n o : Int) : tL (tRight (.mk 1 0 n ⟨#[]⟩ [] [o] [] [])) = tL (tNum n) := rfl
theorem r_truth (n o : Int) : tL (tRight (.mk 2 0 n ⟨#[]⟩ [] [o] [] [])) = tL (tBool (n == 1)) := rfl
theorem r_one (op a o : Int) : tL (tRight (.mk 3 op 0 ⟨#[]⟩ [a] [o] [] [])) = tL (wSign op) ++ 32 :: tL (tVal a) := by
  show tL (wSign op ++ tSp ++ tVal a) = _
  rw [tL_app, tL_app, List.append_assoc]
  rfl
theorem r_two (op a b o : Int) : tL (tRight (.mk 4 op 0 ⟨#[]⟩ [a, b] [o] [] [])) = tL (tVal a) ++ 32 :: (tL (wSign op) ++ 32 :: tL (tVal b)) := by
  show tL (tVal a ++ tSp ++ wSign op ++ tSp ++ tVal b) = _
  simp only [tL_app, List.append_assoc]
  rfl
theorem r_load (s : ByteArray) (a o : Int) : tL (tRight (.mk 5 0 0 s [a] [o] [] [])) = tL s ++ 91 :: (tL (tVal a) ++ [93]) := by
  show tL (s ++ ⟨#[91]⟩ ++ tVal a ++ ⟨#[93]⟩) = _
  simp only [tL_app, List.append_assoc]
  rfl
theorem r_call (s : ByteArray) (l : List Int) (o : Int) : tL (tRight (.mk 7 0 0 s l [o] [] [])) = tL s ++ 40 :: (tL (tVals l) ++ [41]) := by
  show tL (s ++ ⟨#[40]⟩ ++ tVals l ++ ⟨#[41]⟩) = _
  simp only [tL_app, List.append_assoc]
  rfl
def isR (k : Int) : Prop := k ≤ 5 ∨ k = 7 ∨ k = 8
def posN (x : Nd) : Prop := (∀ v ∈ x.args, 0 ≤ v) ∧ ∀ v ∈ x.outs, 0 ≤ v
theorem sigR_ok {x : Nd} (hx : NF x) (hp : posN x) (hk : isR x.kind) (r : List UInt8) : sigR (tL (tRight x) ++ 10 :: r) = x.kind := by
  have ld10 : isLD 10 = false := by decide
  have ld32 : isLD 32 = false := by decide
  have ld91 : isLD 91 = false := by decide
  have ld40 : isLD 40 = false := by decide
  have ld45 : isLD 45 = false := by decide
  cases hx with
  | num n o =>
    rw [r_num]
    by_cases h : n < 0
    · rw [num_neg h]
      obtain ⟨b, t, hb, hd⟩ := dec_head n.natAbs
      rw [hb]
      have h32 : b ≠ 32 := fun e => by subst e; exact absurd hd (by decide)
      simp [sigR, List.takeWhile, ld45, h32, Nd.kind]
    · rw [num_nat (by omega)]
      have hall : ∀ b ∈ Lib.decDigits n.toNat, isLD b = true := fun b hb => dg_ld (dec_digits _ b hb)
      obtain ⟨b, t, hb, hd⟩ := dec_head n.toNat
      have h1 : b ≠ 116 := fun e => by subst e; exact absurd hd (by decide)
      have h2 : b ≠ 102 := fun e => by subst e; exact absurd hd (by decide)
      have h3 : b ≠ 114 := fun e => by subst e; exact absurd hd (by decide)
      unfold sigR
      rw [tw ld10 hall, dw ld10 hall, hb]
      simp [h1, h2, h3, Nd.kind]
  | truth n o h =>
    rw [r_truth]
    rcases h with rfl | rfl <;> rfl
  | one op a o h =>
    rw [r_one]
    rcases op_one h with rfl | rfl | rfl | rfl | rfl | rfl | rfl | rfl | rfl <;> rfl
  | two op a b o h =>
    rw [r_two]
    have h0 := hp.1 a (.head _)
    have hall := val_ld h0
    have hne : tL (tVal a) ≠ [] := by rw [val_eq]; simp
    unfold sigR
    simp only [List.append_assoc, List.cons_append]
    rw [tw ld32 hall, dw ld32 hall, if_neg hne]
    simp [val_eq, Nd.kind]
  | load s a o h =>
    rw [r_load]
    unfold sigR
    simp only [List.append_assoc, List.cons_append]
    rw [tw ld91 h.2, dw ld91 h.2, if_neg h.1]
    simp [Nd.kind]
  | store s a b h => simp [isR, Nd.kind] at hk
  | call s l o h =>
    rw [r_call]
    unfold sigR
    simp only [List.append_assoc, List.cons_append]
    rw [tw ld40 h.2, dw ld40 h.2, if_neg h.1]
    simp [Nd.kind]
  | read o => rfl
  | print a => simp [isR, Nd.kind] at hk
  | ite a outs p q => simp [isR, Nd.kind] at hk
  | loop l outs params p h => simp [isR, Nd.kind] at hk
  | yield l => simp [isR, Nd.kind] at hk
  | next l => simp [isR, Nd.kind] at hk
  | leave l => simp [isR, Nd.kind] at hk
  | ret a => simp [isR, Nd.kind] at hk
section
set_option maxHeartbeats 2000000
theorem right_inj {x x' : Nd} (hx : NF x) (hx' : NF x') (hp : posN x) (hp' : posN x') (hr : isR x.kind) (hr' : isR x'.kind) {r r' : List UInt8} (h : tL (tRight x) ++ 10 :: r = tL (tRight x') ++ 10 :: r') :
    x.kind = x'.kind ∧ x.op = x'.op ∧ x.n = x'.n ∧ x.name = x'.name ∧ x.args = x'.args ∧ x.params = x'.params ∧ x.kids = x'.kids ∧ r = r' := by
  have hk : x.kind = x'.kind := by rw [← sigR_ok hx hp hr r, ← sigR_ok hx' hp' hr' r', h]
  have ten : ∀ {t t' : List UInt8}, (10 :: t : List UInt8) = 10 :: t' → t = t' := fun h => by simpa using h
  cases hx with
  | num n o =>
    cases hx' <;> first | (simp [Nd.kind] at hk; done) | skip
    rw [r_num, r_num] at h
    obtain ⟨rfl, h2⟩ := num_inj (Stop.cons (by decide)) (Stop.cons (by decide)) h
    exact ⟨rfl, rfl, rfl, rfl, rfl, rfl, rfl, ten h2⟩
  | truth n o hn =>
    cases hx' <;> first | (simp [Nd.kind] at hk; done) | skip
    rename_i n' o' hn'
    rw [r_truth, r_truth] at h
    rcases hn with rfl | rfl <;> rcases hn' with rfl | rfl
    · exact ⟨rfl, rfl, rfl, rfl, rfl, rfl, rfl, ten (List.append_cancel_left h)⟩
    · exact absurd (show (some (102 : UInt8)) = some 116 from congrArg List.head? h) (by decide)
    · exact absurd (show (some (116 : UInt8)) = some 102 from congrArg List.head? h) (by decide)
    · exact ⟨rfl, rfl, rfl, rfl, rfl, rfl, rfl, ten (List.append_cancel_left h)⟩
  | one op a o ho =>
    cases hx' <;> first | (simp [Nd.kind] at hk; done) | skip
    rename_i op' a' o' ho'
    rw [r_one, r_one, List.append_assoc, List.append_assoc] at h
    obtain ⟨rfl, h2⟩ := sign_split (by omega) (by omega) (by omega) (by omega) (by omega) h
    obtain ⟨rfl, h3⟩ := val_inj (Stop.cons (by decide)) (Stop.cons (by decide)) h2
    exact ⟨rfl, rfl, rfl, rfl, rfl, rfl, rfl, ten h3⟩
  | two op a b o ho =>
    cases hx' <;> first | (simp [Nd.kind] at hk; done) | skip
    rename_i op' a' b' o' ho'
    rw [r_two, r_two] at h
    simp only [List.append_assoc, List.cons_append] at h
    obtain ⟨rfl, h2⟩ := val_inj (Stop.cons (by decide)) (Stop.cons (by decide)) h
    simp only [List.cons.injEq, true_and] at h2
    obtain ⟨rfl, h3⟩ := sign_split (by omega) (by omega) (by omega) (by omega) (by omega) h2
    obtain ⟨rfl, h4⟩ := val_inj (Stop.cons (by decide)) (Stop.cons (by decide)) h3
    exact ⟨rfl, rfl, rfl, rfl, rfl, rfl, rfl, ten h4⟩
  | load s a o hs =>
    cases hx' <;> first | (simp [Nd.kind] at hk; done) | skip
    rename_i s' a' o' hs'
    rw [r_load, r_load] at h
    simp only [List.append_assoc, List.cons_append, List.nil_append] at h
    obtain ⟨e, h2⟩ := run_inj hs.2 hs'.2 (Stop.cons (by decide)) (Stop.cons (by decide)) h
    obtain rfl := tL_inj e
    simp only [List.cons.injEq, true_and] at h2
    obtain ⟨rfl, h3⟩ := val_inj (Stop.cons (by decide)) (Stop.cons (by decide)) h2
    exact ⟨rfl, rfl, rfl, rfl, rfl, rfl, rfl, by simpa using h3⟩
  | call s l o hs =>
    cases hx' <;> first | (simp [Nd.kind] at hk; done) | skip
    rename_i s' l' o' hs'
    rw [r_call, r_call] at h
    simp only [List.append_assoc, List.cons_append, List.nil_append] at h
    obtain ⟨e, h2⟩ := run_inj hs.2 hs'.2 (Stop.cons (by decide)) (Stop.cons (by decide)) h
    obtain rfl := tL_inj e
    simp only [List.cons.injEq, true_and] at h2
    have key : l = l' ∧ r = r' := by
      cases l with
      | nil =>
        cases l' with
        | nil => exact ⟨rfl, by simpa using h2⟩
        | cons b m =>
          rw [vals_eq, tVals_nil] at h2
          simp [tL, tVal] at h2
      | cons a l =>
        cases l' with
        | nil =>
          rw [vals_eq, tVals_nil] at h2
          simp [tL, tVal] at h2
        | cons b m =>
          obtain ⟨e1, e2⟩ := vals_inj (by simp) (by simp) (Stop.cons (by decide)) (Stop.cons (by decide)) h2
          exact ⟨e1, by simpa using e2⟩
    obtain ⟨rfl, rfl⟩ := key
    exact ⟨rfl, rfl, rfl, rfl, rfl, rfl, rfl, rfl⟩
  | read o =>
    cases hx' <;> first | (simp [Nd.kind] at hk; done) | skip
    exact ⟨rfl, rfl, rfl, rfl, rfl, rfl, rfl, ten (List.append_cancel_left h)⟩
  | _ => simp [isR, Nd.kind] at hr
section
variable (tb : ByteArray)
theorem n_store (s : ByteArray) (a b : Int) : tL (tNd tb (.mk 6 0 0 s [a, b] [] [] [])) = tL s ++ 91 :: (tL (tVal a) ++ 93 :: 32 :: 61 :: 32 :: tL (tVal b)) := by
  have h : tNd tb (.mk 6 0 0 s [a, b] [] [] []) = s ++ ⟨#[91]⟩ ++ tVal a ++ ⟨#[93, 32, 61, 32]⟩ ++ tVal b := by simp [tNd]
  rw [h]
  simp only [tL_app, List.append_assoc]
  rfl
theorem n_print (a : Int) : tL (tNd tb (.mk 9 0 0 ⟨#[]⟩ [a] [] [] [])) = 112 :: 114 :: 105 :: 110 :: 116 :: 32 :: tL (tVal a) := by
  have h : tNd tb (.mk 9 0 0 ⟨#[]⟩ [a] [] [] []) = ⟨#[112, 114, 105, 110, 116, 32]⟩ ++ tVal a := by simp [tNd]
  rw [h, tL_app]
  rfl
theorem n_ret (a : Int) : tL (tNd tb (.mk 15 0 0 ⟨#[]⟩ [a] [] [] [])) = 114 :: 101 :: 116 :: 117 :: 114 :: 110 :: 32 :: tL (tVal a) := by
  have h : tNd tb (.mk 15 0 0 ⟨#[]⟩ [a] [] [] []) = ⟨#[114, 101, 116, 117, 114, 110, 32]⟩ ++ tVal a := by simp [tNd]
  rw [h, tL_app]
  rfl
theorem n_yield (l : List Int) : tNd tb (.mk 12 0 0 ⟨#[]⟩ l [] [] []) = tBehind ⟨#[121, 105, 101, 108, 100]⟩ l := by simp [tNd]
theorem n_next (l : List Int) : tNd tb (.mk 13 0 0 ⟨#[]⟩ l [] [] []) = tBehind ⟨#[110, 101, 120, 116]⟩ l := by simp [tNd]
theorem n_leave (l : List Int) : tNd tb (.mk 14 0 0 ⟨#[]⟩ l [] [] []) = tBehind ⟨#[108, 101, 97, 118, 101]⟩ l := by simp [tNd]
theorem n_ite (a : Int) (outs : List Int) (p q : List Nd) : tL (tNd tb (.mk 10 0 0 ⟨#[]⟩ [a] outs [] [p, q])) =
    105 :: 102 :: 32 :: (tL (tVal a) ++ 10 :: (tL (tLs (tb ++ tTab) p) ++ (tL tb ++ 101 :: 108 :: 115 :: 101 :: 10 :: (tL (tLs (tb ++ tTab) q) ++ (tL tb ++ tL (tBehind tEnd outs)))))) := by
  have h : tNd tb (.mk 10 0 0 ⟨#[]⟩ [a] outs [] [p, q]) = ⟨#[105, 102, 32]⟩ ++ tVal a ++ tNl ++ tLs (tb ++ tTab) p ++ tb ++ ⟨#[101, 108, 115, 101, 10]⟩ ++ tLs (tb ++ tTab) q ++ tb ++ tBehind tEnd outs := by simp [tNd, tKs]
  rw [h]
  simp only [tL_app, List.append_assoc]
  rfl
theorem n_loop (l outs params : List Int) (p : List Nd) : tL (tNd tb (.mk 11 0 0 ⟨#[]⟩ l outs params [p])) =
    108 :: 111 :: 111 :: 112 :: (tL (tPairs params l) ++ 10 :: (tL (tLs (tb ++ tTab) p) ++ (tL tb ++ tL (tBehind tEnd outs)))) := by
  have h : tNd tb (.mk 11 0 0 ⟨#[]⟩ l outs params [p]) = ⟨#[108, 111, 111, 112]⟩ ++ tPairs params l ++ tNl ++ tLs (tb ++ tTab) p ++ tb ++ tBehind tEnd outs := by simp [tNd, tKs]
  rw [h]
  simp only [tL_app, List.append_assoc]
  rfl
theorem n_def {kind op n : Int} {name : ByteArray} {args params : List Int} {o : Int} {ks : List (List Nd)} (h1 : 1 ≤ kind) (hk : isR kind) : tL (tNd tb (.mk kind op n name args [o] params ks)) = tL (tVal o) ++ 32 :: 61 :: 32 :: tL (tRight (.mk kind op n name args [o] params ks)) := by
  unfold isR at hk
  have h : tNd tb (.mk kind op n name args [o] params ks) = tVal o ++ tEq ++ tRight (.mk kind op n name args [o] params ks) := by
    unfold tNd
    rw [if_neg (by omega), if_neg (by omega), if_neg (by omega), if_neg (by omega), if_neg (by omega), if_neg (by omega), if_neg (by omega), if_neg (by omega)]
    simp
  rw [h]
  simp only [tL_app, List.append_assoc]
  rfl
end
def sigN (s : List UInt8) : Int :=
  if (s.dropWhile isLD).head? = some 91 then 6 else if s.head? = some 112 then 9 else if s.head? = some 114 then 15 else if s.head? = some 121 then 12 else if s.head? = some 110 then 13
  else if s.take 2 = [108, 101] then 14 else if s.head? = some 105 then 10 else if s.take 2 = [108, 111] then 11 else 0
def cl (k : Int) : Int := if k ≤ 5 ∨ k = 7 ∨ k = 8 then 0 else k
theorem behind_head {w : List UInt8} {l : List Int} {r : List UInt8} (hw : ∀ b ∈ w, isLD b = true) : ((w ++ ((if l = [] then [] else 32 :: tL (tVals l)) ++ 10 :: r)).dropWhile isLD).head? ≠ some 91 := by
  split
  · rw [List.nil_append, dw (by decide) hw]; simp
  · rw [List.cons_append, dw (by decide) hw]; simp
theorem sig_word {w : List UInt8} {c : UInt8} {r : List UInt8} (hw : ∀ b ∈ w, isLD b = true) (hc : isLD c = false) (h91 : c ≠ 91) : ((w ++ c :: r).dropWhile isLD).head? ≠ some 91 := by
  rw [dw hc hw]; simpa using h91
theorem sigN_ok {x : Nd} (hx : NF x) (hp : posN x) (tb : ByteArray) (r : List UInt8) : sigN (tL (tNd tb x) ++ 10 :: r) = cl x.kind := by
  have def_ok : ∀ {kind op n : Int} {name : ByteArray} {args params : List Int} {o : Int} {ks : List (List Nd)}, 1 ≤ kind → isR kind → 0 ≤ o → sigN (tL (tNd tb (.mk kind op n name args [o] params ks)) ++ 10 :: r) = cl kind := by
    intro kind op n name args params o ks h1 hk h0
    have hcl : cl kind = 0 := if_pos hk
    rw [n_def tb h1 hk, hcl]
    unfold sigN
    simp only [List.append_assoc, List.cons_append]
    rw [if_neg (sig_word (val_ld h0) (by decide) (by decide)), val_eq]
    simp
  cases hx with
  | num n o => exact def_ok (by decide) (.inl (by decide)) (hp.2 o (.head _))
  | truth n o h => exact def_ok (by decide) (.inl (by decide)) (hp.2 o (.head _))
  | one op a o h => exact def_ok (by decide) (.inl (by decide)) (hp.2 o (.head _))
  | two op a b o h => exact def_ok (by decide) (.inl (by decide)) (hp.2 o (.head _))
  | load s a o h => exact def_ok (by decide) (.inl (by decide)) (hp.2 o (.head _))
  | call s l o h => exact def_ok (by decide) (.inr (.inl rfl)) (hp.2 o (.head _))
  | read o => exact def_ok (by decide) (.inr (.inr rfl)) (hp.2 o (.head _))
  | store s a b h =>
    rw [n_store]
    unfold sigN
    simp only [List.append_assoc, List.cons_append]
    rw [dw (by decide) h.2]
    rfl
  | print a =>
    rw [n_print]
    have h := sig_word (w := [112, 114, 105, 110, 116]) (c := 32) (r := tL (tVal a) ++ 10 :: r) (by decide) (by decide) (by decide)
    unfold sigN
    simp only [List.cons_append, List.nil_append] at h ⊢
    rw [if_neg h]
    rfl
  | ret a =>
    rw [n_ret]
    have h := sig_word (w := [114, 101, 116, 117, 114, 110]) (c := 32) (r := tL (tVal a) ++ 10 :: r) (by decide) (by decide) (by decide)
    unfold sigN
    simp only [List.cons_append, List.nil_append] at h ⊢
    rw [if_neg h]
    rfl
  | yield l =>
    rw [n_yield, behind_eq, List.append_assoc]
    have h := behind_head (w := tL ⟨#[121, 105, 101, 108, 100]⟩) (l := l) (r := r) (by decide)
    unfold sigN
    rw [if_neg h]
    rfl
  | next l =>
    rw [n_next, behind_eq, List.append_assoc]
    have h := behind_head (w := tL ⟨#[110, 101, 120, 116]⟩) (l := l) (r := r) (by decide)
    unfold sigN
    rw [if_neg h]
    rfl
  | leave l =>
    rw [n_leave, behind_eq, List.append_assoc]
    have h := behind_head (w := tL ⟨#[108, 101, 97, 118, 101]⟩) (l := l) (r := r) (by decide)
    unfold sigN
    rw [if_neg h]
    rfl
  | ite a outs p q =>
    rw [n_ite]
    have h := fun t => sig_word (w := [105, 102]) (c := 32) (r := t) (by decide) (by decide) (by decide)
    unfold sigN
    simp only [List.cons_append, List.nil_append] at h ⊢
    rw [if_neg (h _)]
    rfl
  | loop l outs params p hl =>
    rw [n_loop]
    unfold sigN
    simp only [List.cons_append]
    have h : ((108 :: 111 :: 111 :: 112 :: (tL (tPairs params l) ++ 10 :: (tL (tLs (tb ++ tTab) p) ++ (tL tb ++ tL (tBehind tEnd outs))) ++ 10 :: r)).dropWhile isLD).head? ≠ some 91 := by
      rw [pairs_T]
      cases params.zip l with
      | nil => exact sig_word (w := [108, 111, 111, 112]) (c := 10) (by decide) (by decide) (by decide)
      | cons z t => exact sig_word (w := [108, 111, 111, 112]) (c := 32) (by decide) (by decide) (by decide)
    rw [if_neg h]
    rfl
end
set_option maxHeartbeats 2000000
mutual
def vdN : Nd → Prop
  | .mk kind op n name args outs params ks => NF (.mk kind op n name args outs params ks) ∧ posN (.mk kind op n name args outs params ks) ∧ vdK ks
def vdL : List Nd → Prop
  | [] => True
  | x :: r => vdN x ∧ vdL r
def vdK : List (List Nd) → Prop
  | [] => True
  | l :: r => vdL l ∧ vdK r
end
theorem vdN_eq (x : Nd) : vdN x ↔ NF x ∧ posN x ∧ vdK x.kids := by cases x; simp [vdN, Nd.kids]
theorem tabs_L (d : Nat) : tL (tTabs d) = List.replicate d 9 := by
  induction d with
  | zero => rfl
  | succ d ih => rw [tTabs_succ, tL_app, ih, List.replicate_succ']; rfl
def Fol (d : Nat) (r : List UInt8) : Prop := r = [] ∨ ∃ e c t, e < d ∧ r = List.replicate e 9 ++ c :: t ∧ c ≠ 9
theorem fol_no {r : List UInt8} {c : UInt8} {t : List UInt8} : ∀ {d : Nat}, Fol d r → List.replicate d 9 ++ c :: t = r → False := by
  intro d h e
  rcases h with rfl | ⟨k, c', t', hk, rfl, hc'⟩
  ·simp at e
  have : (List.replicate d (9 : UInt8) ++ c :: t)[k]? = (List.replicate k (9 : UInt8) ++ c' :: t')[k]? := by rw [e]
  rw [List.getElem?_append_left (by simpa using hk), List.getElem?_append_right (by simp)] at this
  simp [hk] at this
  exact hc' this.symm
theorem nd_head {x : Nd} (hx : NF x) (tb : ByteArray) : ∃ c t, tL (tNd tb x) = c :: t ∧ c ≠ 9 := by
  cases hx with
  | store s a b h =>
    rw [n_store]
    match hs : tL s, h.1 with
    | c :: t, _ =>
      have := h.2 c (by rw [hs]; exact .head _)
      exact ⟨c, _, rfl, fun e => by subst e; exact absurd this (by decide)⟩
  | print a => exact ⟨112, _, n_print tb a, by decide⟩
  | ret a => exact ⟨114, _, n_ret tb a, by decide⟩
  | ite a outs p q => exact ⟨105, _, n_ite tb a outs p q, by decide⟩
  | loop l outs params p h => exact ⟨108, _, n_loop tb l outs params p, by decide⟩
  | yield l => rw [n_yield, behind_eq]; exact ⟨121, _, rfl, by decide⟩
  | next l => rw [n_next, behind_eq]; exact ⟨110, _, rfl, by decide⟩
  | leave l => rw [n_leave, behind_eq]; exact ⟨108, _, rfl, by decide⟩
  | num n o => rw [n_def tb (by decide) (.inl (by decide)), val_eq]; exact ⟨118, _, rfl, by decide⟩
  | truth n o h => rw [n_def tb (by decide) (.inl (by decide)), val_eq]; exact ⟨118, _, rfl, by decide⟩
  | one op a o h => rw [n_def tb (by decide) (.inl (by decide)), val_eq]; exact ⟨118, _, rfl, by decide⟩
  | two op a b o h => rw [n_def tb (by decide) (.inl (by decide)), val_eq]; exact ⟨118, _, rfl, by decide⟩
  | load s a o h => rw [n_def tb (by decide) (.inl (by decide)), val_eq]; exact ⟨118, _, rfl, by decide⟩
  | call s l o h => rw [n_def tb (by decide) (.inr (.inl rfl)), val_eq]; exact ⟨118, _, rfl, by decide⟩
  | read o => rw [n_def tb (by decide) (.inr (.inr rfl)), val_eq]; exact ⟨118, _, rfl, by decide⟩
theorem isR_form {x : Nd} (hx : NF x) (h : isR x.kind) : ∃ o, x.outs = [o] ∧ x = .mk x.kind x.op x.n x.name x.args [o] x.params x.kids := by
  cases hx with
  | num n o => exact ⟨o, rfl, rfl⟩
  | truth n o h => exact ⟨o, rfl, rfl⟩
  | one op a o h => exact ⟨o, rfl, rfl⟩
  | two op a b o h => exact ⟨o, rfl, rfl⟩
  | load s a o h => exact ⟨o, rfl, rfl⟩
  | call s l o h => exact ⟨o, rfl, rfl⟩
  | read o => exact ⟨o, rfl, rfl⟩
  | _ => simp [isR, Nd.kind] at h
theorem nf_kind {x : Nd} (hx : NF x) : 1 ≤ x.kind := by cases hx <;> simp [Nd.kind]
theorem cl_R {k : Int} (h : isR k) : cl k = 0 := if_pos h
theorem cl_N {k : Int} (h : ¬ isR k) : cl k = k := if_neg h
theorem ten_inj {t t' : List UInt8} (h : (10 :: t : List UInt8) = 10 :: t') : t = t' := by simpa using h
theorem inj_all : ∀ N : Nat,
    (∀ (x x' : Nd) (d : Nat) (r r' : List UInt8), wtN x < N → vdN x → vdN x' → tL (tNd (tTabs d) x) ++ 10 :: r = tL (tNd (tTabs d) x') ++ 10 :: r' → x = x' ∧ r = r') ∧
    (∀ (l l' : List Nd) (d : Nat) (r r' : List UInt8), l.length + wtL l < N → vdL l → vdL l' → Fol d r → Fol d r' → tL (tLs (tTabs d) l) ++ r = tL (tLs (tTabs d) l') ++ r' → l = l' ∧ r = r')
  | 0 => ⟨fun _ _ _ _ _ h => by omega, fun _ _ _ _ _ h => by omega⟩
  | N + 1 => by
    have ih := inj_all N
    refine ⟨fun x x' d r r' hw hv hv' h => ?_, fun l l' d r r' hw hv hv' hf hf' h => ?_⟩
    ·obtain ⟨hx, hp, hkd⟩ := (vdN_eq x).1 hv
     obtain ⟨hx', hp', hkd'⟩ := (vdN_eq x').1 hv'
     have hk : cl x.kind = cl x'.kind := by rw [← sigN_ok hx hp (tTabs d) r, ← sigN_ok hx' hp' (tTabs d) r', h]
     by_cases hR : isR x.kind
     ·have hR' : isR x'.kind := Classical.byContradiction fun hn => by
        rw [cl_R hR, cl_N hn] at hk
        have := nf_kind hx'
        omega
      obtain ⟨o, _, e⟩ := isR_form hx hR
      obtain ⟨o', _, e'⟩ := isR_form hx' hR'
      have h1 := nf_kind hx
      have h1' := nf_kind hx'
      have t1 := n_def (tTabs d) (op := x.op) (n := x.n) (name := x.name) (args := x.args) (params := x.params) (o := o) (ks := x.kids) h1 hR
      have t2 := n_def (tTabs d) (op := x'.op) (n := x'.n) (name := x'.name) (args := x'.args) (params := x'.params) (o := o') (ks := x'.kids) h1' hR'
      rw [← e] at t1
      rw [← e'] at t2
      rw [t1, t2] at h
      simp only [List.append_assoc, List.cons_append] at h
      obtain ⟨rfl, h2⟩ := val_inj (Stop.cons (by decide)) (Stop.cons (by decide)) h
      simp only [List.cons.injEq, true_and] at h2
      obtain ⟨g1, g2, g3, g4, g5, g6, g7, g8⟩ := right_inj hx hx' hp hp' hR hR' h2
      exact ⟨by rw [e, e', g1, g2, g3, g4, g5, g6, g7], g8⟩
     have hkk : x.kind = x'.kind := by
       rw [cl_N hR] at hk
       by_cases hR' : isR x'.kind
       ·rw [cl_R hR'] at hk
        have := nf_kind hx
        omega
       rw [cl_N hR'] at hk
       exact hk
     clear hk
     have e1 : tTabs d ++ tTab = tTabs (d + 1) := (tTabs_succ d).symm
     cases hx with
     | store s a b hs =>
       cases hx' <;> first | (simp [Nd.kind] at hkk; done) | skip
       rename_i s' a' b' hs'
       rw [n_store, n_store] at h
       simp only [List.append_assoc, List.cons_append] at h
       obtain ⟨q, h2⟩ := run_inj hs.2 hs'.2 (Stop.cons (by decide)) (Stop.cons (by decide)) h
       obtain rfl := tL_inj q
       simp only [List.cons.injEq, true_and] at h2
       obtain ⟨rfl, h3⟩ := val_inj (Stop.cons (by decide)) (Stop.cons (by decide)) h2
       simp only [List.cons.injEq, true_and] at h3
       obtain ⟨rfl, h4⟩ := val_inj (Stop.cons (by decide)) (Stop.cons (by decide)) h3
       exact ⟨rfl, ten_inj h4⟩
     | print a =>
       cases hx' <;> first | (simp [Nd.kind] at hkk; done) | skip
       rw [n_print, n_print] at h
       simp only [List.cons_append, List.cons.injEq, true_and] at h
       obtain ⟨rfl, h4⟩ := val_inj (Stop.cons (by decide)) (Stop.cons (by decide)) h
       exact ⟨rfl, ten_inj h4⟩
     | ret a =>
       cases hx' <;> first | (simp [Nd.kind] at hkk; done) | skip
       rw [n_ret, n_ret] at h
       simp only [List.cons_append, List.cons.injEq, true_and] at h
       obtain ⟨rfl, h4⟩ := val_inj (Stop.cons (by decide)) (Stop.cons (by decide)) h
       exact ⟨rfl, ten_inj h4⟩
     | yield l =>
       cases hx' <;> first | (simp [Nd.kind] at hkk; done) | skip
       rw [n_yield, n_yield] at h
       obtain ⟨rfl, h4⟩ := behind_inj h
       exact ⟨rfl, h4⟩
     | next l =>
       cases hx' <;> first | (simp [Nd.kind] at hkk; done) | skip
       rw [n_next, n_next] at h
       obtain ⟨rfl, h4⟩ := behind_inj h
       exact ⟨rfl, h4⟩
     | leave l =>
       cases hx' <;> first | (simp [Nd.kind] at hkk; done) | skip
       rw [n_leave, n_leave] at h
       obtain ⟨rfl, h4⟩ := behind_inj h
       exact ⟨rfl, h4⟩
     | ite a outs p q =>
       cases hx' <;> first | (simp [Nd.kind] at hkk; done) | skip
       rename_i a' outs' p' q'
       simp only [vdK, Nd.kids] at hkd hkd'
       simp only [wtN, wtK] at hw
       rw [n_ite, n_ite, e1] at h
       simp only [List.cons_append, List.append_assoc, List.cons.injEq, true_and] at h
       obtain ⟨rfl, h2⟩ := val_inj (Stop.cons (by decide)) (Stop.cons (by decide)) h
       have h3 := ten_inj h2
       rw [tabs_L] at h3
       obtain ⟨rfl, h4⟩ := ih.2 p p' (d + 1) _ _ (by omega) hkd.1 hkd'.1 (.inr ⟨d, _, _, by omega, rfl, by decide⟩) (.inr ⟨d, _, _, by omega, rfl, by decide⟩) h3
       have h5 := List.append_cancel_left h4
       simp only [List.cons.injEq, true_and] at h5
       have e2 : ∀ l, ∃ t, tL (tBehind tEnd l) = 101 :: t := fun l => ⟨_, by rw [behind_eq]; rfl⟩
       obtain ⟨w1, q1⟩ := e2 outs
       obtain ⟨w2, q2⟩ := e2 outs'
       obtain ⟨rfl, h6⟩ := ih.2 q q' (d + 1) _ _ (by omega) hkd.2.1 hkd'.2.1 (.inr ⟨d, 101, _, by omega, by rw [q1]; rfl, by decide⟩) (.inr ⟨d, 101, _, by omega, by rw [q2]; rfl, by decide⟩) h5
       have h7 := List.append_cancel_left h6
       obtain ⟨rfl, h8⟩ := behind_inj h7
       exact ⟨rfl, h8⟩
     | loop l outs params p hl =>
       cases hx' <;> first | (simp [Nd.kind] at hkk; done) | skip
       rename_i l' outs' params' p' hl'
       simp only [vdK, Nd.kids] at hkd hkd'
       simp only [wtN, wtK] at hw
       rw [n_loop, n_loop, e1] at h
       simp only [List.cons_append, List.append_assoc, List.cons.injEq, true_and] at h
       obtain ⟨rfl, rfl, h3⟩ := pairs_inj hl hl' h
       rw [tabs_L] at h3
       have e2 : ∀ l, ∃ t, tL (tBehind tEnd l) = 101 :: t := fun l => ⟨_, by rw [behind_eq]; rfl⟩
       obtain ⟨w1, q1⟩ := e2 outs
       obtain ⟨w2, q2⟩ := e2 outs'
       obtain ⟨rfl, h6⟩ := ih.2 p p' (d + 1) _ _ (by omega) hkd.1 hkd'.1 (.inr ⟨d, 101, _, by omega, by rw [q1]; rfl, by decide⟩) (.inr ⟨d, 101, _, by omega, by rw [q2]; rfl, by decide⟩) h3
       have h7 := List.append_cancel_left h6
       obtain ⟨rfl, h8⟩ := behind_inj h7
       exact ⟨rfl, h8⟩
     | _ => exact absurd (by simp [isR, Nd.kind]) hR
    have line : ∀ (x : Nd) (r : List Nd), tL (tLs (tTabs d) (x :: r)) = List.replicate d 9 ++ (tL (tNd (tTabs d) x) ++ 10 :: tL (tLs (tTabs d) r)) := fun x r => by
      simp only [tLs, tL_app, tabs_L, List.append_assoc]
      rfl
    cases l with
    | nil =>
      cases l' with
      | nil => exact ⟨rfl, h⟩
      | cons x' m' =>
        simp only [vdL] at hv'
        obtain ⟨c, t, hc, h9⟩ := nd_head ((vdN_eq x').1 hv'.1).1 (tTabs d)
        rw [line, hc] at h
        simp only [List.append_assoc, List.cons_append] at h
        exact (fol_no hf h.symm).elim
    | cons x m =>
      simp only [vdL] at hv
      simp only [wtL, List.length_cons] at hw
      cases l' with
      | nil =>
        obtain ⟨c, t, hc, h9⟩ := nd_head ((vdN_eq x).1 hv.1).1 (tTabs d)
        rw [line, hc] at h
        simp only [List.append_assoc, List.cons_append] at h
        exact (fol_no hf' h).elim
      | cons x' m' =>
        simp only [vdL] at hv'
        rw [line, line] at h
        simp only [List.append_assoc, List.cons_append] at h
        have h2 := List.append_cancel_left h
        obtain ⟨rfl, h3⟩ := ih.1 x x' d _ _ (by omega) hv.1 hv'.1 h2
        obtain ⟨rfl, h4⟩ := ih.2 m m' d r r' (by omega) hv.2 hv'.2 hf hf' h3
        exact ⟨rfl, h4⟩
theorem ba_eq {a b : ByteArray} (h : a.toList = b.toList) : a = b := tL_inj (by rw [ByteArray.toList_eq, ByteArray.toList_eq] at h; exact h)
mutual
theorem same_N : ∀ x y : Nd, sameN x y = true → x = y
  | .mk k o n s a u p ks, .mk k' o' n' s' a' u' p' ks', h => by
    simp only [sameN, Bool.and_eq_true, beq_iff_eq] at h
    obtain ⟨⟨⟨⟨⟨⟨⟨⟨h1, h2⟩, h3⟩, h4⟩, _⟩, h6⟩, h7⟩, h8⟩, h9⟩ := h
    rw [h1, h2, h3, ba_eq h4, h6, h7, h8, same_K ks ks' h9]
theorem same_L : ∀ a b : List Nd, sameL a b = true → a = b
  | [], [], _ => rfl
  | [], _ :: _, h => by simp [sameL] at h
  | _ :: _, [], h => by simp [sameL] at h
  | x :: a, y :: b, h => by
    simp only [sameL, Bool.and_eq_true] at h
    rw [same_N x y h.1, same_L a b h.2]
theorem same_K : ∀ a b : List (List Nd), sameK a b = true → a = b
  | [], [], _ => rfl
  | [], _ :: _, h => by simp [sameK] at h
  | _ :: _, [], h => by simp [sameK] at h
  | x :: a, y :: b, h => by
    simp only [sameK, Bool.and_eq_true] at h
    rw [same_L x y h.1, same_K a b h.2]
end
theorem same_F {f g : Fl} (h : sameF f g = true) : f = g := by
  simp only [sameF, Bool.and_eq_true, beq_iff_eq] at h
  obtain ⟨⟨⟨⟨h1, h2⟩, h3⟩, h4⟩, h5⟩ := h
  cases f; cases g
  simp only [Fl.mk.injEq]
  exact ⟨ba_eq h1, h2, h3, h4, same_L _ _ h5⟩
theorem same_Fs : ∀ a b : List Fl, sameFs a b = true → a = b
  | [], [], _ => rfl
  | [], _ :: _, h => by simp [sameFs] at h
  | _ :: _, [], h => by simp [sameFs] at h
  | x :: a, y :: b, h => by
    simp only [sameFs, Bool.and_eq_true] at h
    rw [same_F h.1, same_Fs a b h.2]
theorem same_A {f g : Ar} (h : sameA f g = true) : f = g := by
  simp only [sameA, Bool.and_eq_true, beq_iff_eq] at h
  cases f; cases g
  simp only [Ar.mk.injEq]
  exact ⟨ba_eq h.1, h.2⟩
theorem same_As : ∀ a b : List Ar, sameAs a b = true → a = b
  | [], [], _ => rfl
  | [], _ :: _, h => by simp [sameAs] at h
  | _ :: _, [], h => by simp [sameAs] at h
  | x :: a, y :: b, h => by
    simp only [sameAs, Bool.and_eq_true] at h
    rw [same_A h.1, same_As a b h.2]
theorem same_U {u v : Un} (h : r8Same u v = true) : u = v := by
  simp only [r8Same, Bool.and_eq_true] at h
  cases u; cases v
  simp only [Un.mk.injEq]
  exact ⟨same_As _ _ h.1.2, same_Fs _ _ h.2⟩
def tT (t : Int) : List UInt8 := tL (tKind t)
theorem tT_inj {t t' : Int} (h : t = 1 ∨ t = 2) (h' : t' = 1 ∨ t' = 2) {r r' : List UInt8} (e : tT t ++ r = tT t' ++ r') : t = t' ∧ r = r' := by
  rcases h with rfl | rfl <;> rcases h' with rfl | rfl
  ·exact ⟨rfl, List.append_cancel_left e⟩
  ·exact absurd (show (some (105 : UInt8)) = some 98 from congrArg List.head? e) (by decide)
  ·exact absurd (show (some (98 : UInt8)) = some 105 from congrArg List.head? e) (by decide)
  exact ⟨rfl, List.append_cancel_left e⟩
def tlT (p : Int) : Nat → List Int → List UInt8
  | _, [] => []
  | j, t :: r => (if (j : Int) = p then [59] else []) ++ 32 :: (tT t ++ tlT p (j + 1) r)
theorem tlT_snoc (p t : Int) : ∀ (l : List Int) (j : Nat), tlT p j (l ++ [t]) = tlT p j l ++ ((if ((j + l.length : Nat) : Int) = p then [59] else []) ++ 32 :: tT t)
  | [], j => by simp [tlT]
  | x :: l, j => by
    simp only [List.cons_append, tlT, tlT_snoc p t l (j + 1), List.append_assoc, List.length_cons]
    have e : j + 1 + l.length = j + (l.length + 1) := by omega
    rw [e]
theorem hd_T (f : Fl) : ∀ k, k ≤ f.types.length → tL (tHd f k) = tT f.ty ++ 32 :: (tL f.name ++ tlT f.params 0 (f.types.take k))
  | 0, _ => by
    simp only [tHd, tL_app, List.take_zero, tlT, List.append_nil, List.append_assoc]
    rfl
  | k + 1, h => by
    have ih := hd_T f k (by omega)
    have hx : f.types[k]? = some (f.types[k]'h) := List.getElem?_eq_getElem h
    have hg : f.types.getD k 0 = f.types[k]'h := by rw [List.getD_eq_getElem?_getD, hx]; rfl
    have ht : f.types.take (k + 1) = f.types.take k ++ [f.types[k]'h] := by rw [List.take_add_one, hx]; rfl
    simp only [tHd]
    rw [ht, tlT_snoc, hg, List.length_take, Nat.min_eq_left (by omega), Nat.zero_add]
    split
    ·simp only [tL_app, ih, List.append_assoc, List.cons_append]
     rfl
    simp only [tL_app, ih, List.append_assoc, List.nil_append, List.cons_append]
    rfl
def Ty (l : List Int) : Prop := ∀ t ∈ l, t = 1 ∨ t = 2
theorem tlT_past {p p' : Int} : ∀ {l l' : List Int} {j : Nat} {r r' : List UInt8}, p < j → p' < j → Ty l → Ty l' → tlT p j l ++ 10 :: r = tlT p' j l' ++ 10 :: r' → l = l' ∧ r = r'
  | [], [], _, _, _, _, _, _, _, h => ⟨rfl, by simpa [tlT] using h⟩
  | [], t :: l, j, _, _, _, h2, _, _, h => by
    simp only [tlT, List.nil_append] at h
    rw [if_neg (by omega)] at h
    simp at h
  | t :: l, [], j, _, _, h1, _, _, _, h => by
    simp only [tlT, List.nil_append] at h
    rw [if_neg (by omega)] at h
    simp at h
  | t :: l, t' :: l', j, r, r', h1, h2, hl, hl', h => by
    simp only [tlT] at h
    rw [if_neg (by omega), if_neg (by omega)] at h
    simp only [List.nil_append, List.cons_append, List.append_assoc, List.cons.injEq, true_and] at h
    obtain ⟨rfl, h3⟩ := tT_inj (hl t (.head _)) (hl' t' (.head _)) h
    obtain ⟨rfl, h4⟩ := tlT_past (j := j + 1) (by omega) (by omega) (fun x hx => hl x (.tail _ hx)) (fun x hx => hl' x (.tail _ hx)) h3
    exact ⟨rfl, h4⟩
theorem tlT_inj {p p' : Int} : ∀ {l l' : List Int} {j : Nat} {r r' : List UInt8}, (j : Int) ≤ p → p ≤ j + l.length → (j : Int) ≤ p' → p' ≤ j + l'.length → Ty l → Ty l' → tlT p j l ++ 10 :: r = tlT p' j l' ++ 10 :: r' → p = p' ∧ l = l' ∧ r = r'
  | [], [], j, _, _, h1, h2, h3, h4, _, _, h => ⟨by simp at h2 h4; omega, rfl, by simpa [tlT] using h⟩
  | [], t :: l, j, _, _, _, _, _, _, _, _, h => by
    simp only [tlT, List.nil_append] at h
    split at h <;> simp at h
  | t :: l, [], j, _, _, _, _, _, _, _, _, h => by
    simp only [tlT, List.nil_append] at h
    split at h <;> simp at h
  | t :: l, t' :: l', j, r, r', h1, h2, h3, h4, hl, hl', h => by
    simp only [tlT] at h
    by_cases e : (j : Int) = p <;> by_cases e' : (j : Int) = p'
    ·rw [if_pos e, if_pos e'] at h
     simp only [List.nil_append, List.cons_append, List.append_assoc, List.cons.injEq, true_and] at h
     obtain ⟨rfl, h5⟩ := tT_inj (hl t (.head _)) (hl' t' (.head _)) h
     obtain ⟨rfl, h6⟩ := tlT_past (j := j + 1) (by omega) (by omega) (fun x hx => hl x (.tail _ hx)) (fun x hx => hl' x (.tail _ hx)) h5
     exact ⟨by omega, rfl, h6⟩
    ·rw [if_pos e, if_neg e'] at h
     simp at h
    ·rw [if_neg e, if_pos e'] at h
     simp at h
    rw [if_neg e, if_neg e'] at h
    simp only [List.nil_append, List.cons_append, List.append_assoc, List.cons.injEq, true_and] at h
    simp only [List.length_cons] at h2 h4
    obtain ⟨rfl, h5⟩ := tT_inj (hl t (.head _)) (hl' t' (.head _)) h
    obtain ⟨h6, rfl, h7⟩ := tlT_inj (j := j + 1) (by omega) (by omega) (by omega) (by omega) (fun x hx => hl x (.tail _ hx)) (fun x hx => hl' x (.tail _ hx)) h5
    exact ⟨h6, rfl, h7⟩
theorem tlT_stop {p : Int} {l : List Int} {j : Nat} {r : List UInt8} : Stop isLD (tlT p j l ++ 10 :: r) := by
  cases l with
  | nil => exact Stop.cons (by decide)
  | cons t l =>
    simp only [tlT]
    split
    ·exact Stop.cons (by decide)
    exact Stop.cons (by decide)
structure FlOk (f : Fl) : Prop where
  ty : f.ty = 1 ∨ f.ty = 2
  tys : Ty f.types
  p0 : 0 ≤ f.params
  p1 : f.params ≤ f.types.length
  nm : Nm f.name
  b : vdL f.body
theorem flw_T (f : Fl) : tL (tFlw f) = tT f.ty ++ 32 :: (tL f.name ++ (tlT f.params 0 f.types ++ 10 :: tL (tLs (tTabs 1) f.body))) := by
  simp only [tFlw, tL_app]
  rw [hd_T f f.types.length (Nat.le_refl _), List.take_length]
  simp only [List.append_assoc, List.cons_append]
  rfl
theorem flw_head {f : Fl} (h : FlOk f) : ∃ c t, tL (tFlw f) = c :: t ∧ c ≠ 9 ∧ c ≠ 97 := by
  rw [flw_T]
  rcases h.ty with e | e <;> rw [e]
  ·exact ⟨105, _, rfl, by decide, by decide⟩
  exact ⟨98, _, rfl, by decide, by decide⟩
theorem flw_inj {f g : Fl} (hf : FlOk f) (hg : FlOk g) {r r' : List UInt8} (hr : Fol 1 r) (hr' : Fol 1 r') (h : tL (tFlw f) ++ r = tL (tFlw g) ++ r') : f = g ∧ r = r' := by
  rw [flw_T, flw_T] at h
  simp only [List.append_assoc, List.cons_append] at h
  obtain ⟨h1, h2⟩ := tT_inj hf.ty hg.ty h
  simp only [List.cons.injEq, true_and] at h2
  obtain ⟨h3, h4⟩ := run_inj hf.nm.2 hg.nm.2 tlT_stop tlT_stop h2
  obtain ⟨h5, h6, h7⟩ := tlT_inj (j := 0) hf.p0 (by have := hf.p1; omega) hg.p0 (by have := hg.p1; omega) hf.tys hg.tys h4
  obtain ⟨h8, h9⟩ := (inj_all _).2 f.body g.body 1 r r' (Nat.lt_succ_self _) hf.b hg.b hr hr' h7
  refine ⟨?_, h9⟩
  cases f; cases g
  simp only [Fl.mk.injEq]
  exact ⟨tL_inj h3, h1, h5, h6, h8⟩
theorem flws_fol {l : List Fl} (h : ∀ f ∈ l, FlOk f) : Fol 1 (tL (tCat (l.map tFlw))) := by
  cases l with
  | nil => exact .inl rfl
  | cons f l =>
    obtain ⟨c, t, hc, h9, _⟩ := flw_head (h f (.head _))
    refine .inr ⟨0, c, t ++ tL (tCat (l.map tFlw)), by decide, ?_, h9⟩
    simp only [List.map_cons, tCat, tL_app, hc]
    rfl
theorem flws_inj : ∀ {l m : List Fl}, (∀ f ∈ l, FlOk f) → (∀ f ∈ m, FlOk f) → tL (tCat (l.map tFlw)) = tL (tCat (m.map tFlw)) → l = m
  | [], [], _, _, _ => rfl
  | [], g :: m, _, hm, h => by
    obtain ⟨c, t, hc, _⟩ := flw_head (hm g (.head _))
    simp only [List.map_cons, tCat, tL_app, hc] at h
    exact absurd h (by simp [tL, tCat])
  | f :: l, [], hl, _, h => by
    obtain ⟨c, t, hc, _⟩ := flw_head (hl f (.head _))
    simp only [List.map_cons, tCat, tL_app, hc] at h
    exact absurd h (by simp [tL, tCat])
  | f :: l, g :: m, hl, hm, h => by
    simp only [List.map_cons, tCat, tL_app] at h
    obtain ⟨rfl, h2⟩ := flw_inj (hl f (.head _)) (hm g (.head _)) (flws_fol fun x hx => hl x (.tail _ hx)) (flws_fol fun x hx => hm x (.tail _ hx)) h
    rw [flws_inj (fun x hx => hl x (.tail _ hx)) (fun x hx => hm x (.tail _ hx)) h2]
theorem arr_T (a : Ar) : tL (tArr a) = 97 :: 114 :: 114 :: 97 :: 121 :: 32 :: (tL a.name ++ 32 :: (tL (tNum a.size) ++ [10])) := by
  simp only [tArr, tL_app, List.append_assoc]
  rfl
theorem arrs_inj : ∀ {l m : List Ar} {r r' : List UInt8}, (∀ a ∈ l, Nm a.name) → (∀ a ∈ m, Nm a.name) → (∀ c t, r = c :: t → c ≠ 97) → (∀ c t, r' = c :: t → c ≠ 97) → tL (tCat (l.map tArr)) ++ r = tL (tCat (m.map tArr)) ++ r' → l = m ∧ r = r'
  | [], [], _, _, _, _, _, _, h => ⟨rfl, h⟩
  | [], b :: m, r, r', _, _, hr, _, h => by
    simp only [List.map_nil, List.map_cons, tCat, tL_app, arr_T, List.cons_append, tL_nil, List.nil_append] at h
    exact absurd rfl (hr _ _ h)
  | a :: l, [], r, r', _, _, _, hr', h => by
    simp only [List.map_nil, List.map_cons, tCat, tL_app, arr_T, List.cons_append, tL_nil, List.nil_append] at h
    exact absurd rfl (hr' _ _ h.symm)
  | a :: l, b :: m, r, r', hl, hm, hr, hr', h => by
    simp only [List.map_cons, tCat, tL_app, arr_T, List.cons_append, List.append_assoc, List.nil_append, List.cons.injEq, true_and] at h
    obtain ⟨h1, h2⟩ := run_inj (hl a (.head _)).2 (hm b (.head _)).2 (Stop.cons (by decide)) (Stop.cons (by decide)) h
    simp only [List.cons.injEq, true_and] at h2
    obtain ⟨h3, h4⟩ := num_inj (Stop.cons (by decide)) (Stop.cons (by decide)) h2
    simp only [List.cons.injEq, true_and] at h4
    obtain ⟨h5, h6⟩ := arrs_inj (fun x hx => hl x (.tail _ hx)) (fun x hx => hm x (.tail _ hx)) hr hr' h4
    refine ⟨?_, h6⟩
    rw [h5]
    congr 1
    cases a; cases b
    simp only [Ar.mk.injEq]
    exact ⟨tL_inj h1, h3⟩
theorem unit_inj {u v : Un} (ha : ∀ a ∈ u.arrays, Nm a.name) (hb : ∀ a ∈ v.arrays, Nm a.name) (hf : ∀ f ∈ u.flows, FlOk f) (hg : ∀ f ∈ v.flows, FlOk f) (h : tUnit u = tUnit v) : u = v := by
  have h1 : tL (tUnit u) = tL (tUnit v) := by rw [h]
  simp only [tUnit, tL_app] at h1
  have no : ∀ {l : List Fl}, (∀ f ∈ l, FlOk f) → ∀ c t, tL (tCat (l.map tFlw)) = c :: t → c ≠ 97 := fun {l} hl c t e => by
    cases l with
    | nil => simp [tCat, tL] at e
    | cons f l =>
      obtain ⟨c', t', hc, _, h97⟩ := flw_head (hl f (.head _))
      simp only [List.map_cons, tCat, tL_app, hc, List.cons_append, List.cons.injEq] at e
      exact e.1 ▸ h97
  obtain ⟨h2, h3⟩ := arrs_inj ha hb (no hf) (no hg) h1
  have h4 := flws_inj hf hg h3
  cases u; cases v
  simp only [Un.mk.injEq]
  exact ⟨h2, h4⟩
mutual
theorem sameN_refl : ∀ x : Nd, sameN x x = true
  | .mk k o n s a u p ks => by simp only [sameN, beq_self_eq_true, sameK_refl ks, Bool.and_self]
theorem sameL_refl : ∀ l : List Nd, sameL l l = true
  | [] => by simp [sameL]
  | x :: r => by simp only [sameL, sameN_refl x, sameL_refl r, Bool.and_self]
theorem sameK_refl : ∀ ks : List (List Nd), sameK ks ks = true
  | [] => by simp [sameK]
  | l :: r => by simp only [sameK, sameL_refl l, sameK_refl r, Bool.and_self]
end
theorem sameFs_refl : ∀ l : List Fl, sameFs l l = true
  | [] => rfl
  | f :: r => by simp only [sameFs, sameF, beq_self_eq_true, sameL_refl, sameFs_refl r, Bool.and_self]
theorem sameAs_refl : ∀ l : List Ar, sameAs l l = true
  | [] => rfl
  | f :: r => by simp only [sameAs, sameA, beq_self_eq_true, sameAs_refl r, Bool.and_self]
theorem same_refl (u : Un) : r8Same u u = true := by simp only [r8Same, beq_self_eq_true, sameAs_refl, sameFs_refl, Bool.and_self]
set_option maxHeartbeats 1000000
theorem nm_of {s : ByteArray} (h : isName s = true) : Nm s := by
  simp only [isName, Bool.and_eq_true, Bool.not_eq_true', beq_eq_false_iff_ne, ByteArray.toList_eq] at h
  exact ⟨h.1.1.1.1, List.all_eq_true.1 h.2⟩
theorem nm_eq {s t : ByteArray} (h : s.toList = t.toList) (hs : Nm s) : Nm t := by
  rw [← ba_eq h]; exact hs
theorem bare_parts {kind op n : Int} {name : ByteArray} {args outs params : List Int} {ks : List (List Nd)} (h : r8bare (.mk kind op n name args outs params ks) = true) :
    (kind ≠ 3 → kind ≠ 4 → op = 0) ∧ (kind ≠ 1 → kind ≠ 2 → n = 0) ∧ (kind ≠ 5 → kind ≠ 6 → kind ≠ 7 → name = ⟨#[]⟩) ∧ (kind ≠ 10 → kind ≠ 11 → ks = []) ∧ (kind ≠ 11 → params = []) := by
  simp only [r8bare, Bool.and_eq_true, Bool.or_eq_true, beq_iff_eq, r8op, r8num, r8name, r8kn, Nd.kind, Nd.op, Nd.n, Nd.name, Nd.kids, Nd.params] at h
  obtain ⟨⟨⟨⟨h1, h2⟩, h3⟩, h4⟩, h5⟩ := h
  refine ⟨fun a b => by omega, fun a b => by omega, fun a b c => ?_, fun a b => ?_, fun a => ?_⟩
  ·have h6 : name.toList = [] := by
     rcases h3 with ((h | h) | h) | h
     ·exact absurd h a
     ·exact absurd h b
     ·exact absurd h c
     exact h
   rw [ByteArray.toList_eq] at h6
   exact tL_inj h6
  ·rw [if_neg b, if_neg a] at h4
   exact List.eq_nil_of_length_eq_zero (by omega)
  exact List.eq_nil_of_length_eq_zero (by omega)
theorem arr_nm {u : Un} (hA : ∀ a ∈ u.arrays, Nm a.name) {name : ByteArray} (h : decide (r8Array name u.arrays 0 ≥ 0) = true) : Nm name := by
  rw [r8Array_any name u.arrays 0 (by omega)] at h
  obtain ⟨a, ha, he⟩ := List.any_eq_true.1 h
  exact nm_eq (eq_of_beq he) (hA a ha)
theorem flw_nm {u : Un} (hF : ∀ g ∈ u.flows, Nm g.name) {name : ByteArray} (h : decide (r8Place name u.flows 0 ≥ 0) = true) : Nm name := by
  have h1 : r8Place name u.flows 0 ≥ 0 := by simpa using h
  obtain ⟨_, g, hg, he⟩ := r8Place_some name u.flows 0 (by omega) (by omega)
  exact nm_eq (eq_of_beq he) (hF g (List.mem_of_getElem? hg))
theorem smp_nf {u : Un} (hA : ∀ a ∈ u.arrays, Nm a.name) (hF : ∀ g ∈ u.flows, Nm g.name) {f : Fl} {x : Nd} {seen : List Int} {w : Wh} (hb : r8bare x = true) (h : (sForm u f x seen w).ok f.types x.outs = true) : NF x := by
  have V : ∀ {b : Bool} {want : Option (List Int)}, SForm.ok ⟨b, want⟩ f.types x.outs = true → b = true := fun {b want} h => by
    cases want <;> simp only [SForm.ok, Bool.and_eq_true] at h <;> exact h.1
  have V1 : ∀ {b : Bool} {t : Int}, SForm.ok ⟨b, some [t]⟩ f.types x.outs = true → ∃ o, x.outs = [o] := fun {b t} h => by
    simp only [SForm.ok, Bool.and_eq_true] at h
    exact len_one (vOuts_len h.2)
  have V0 : ∀ {b : Bool}, SForm.ok ⟨b, none⟩ f.types x.outs = true → x.outs = [] := fun {b} h => by
    simp only [SForm.ok, Bool.and_eq_true, beq_iff_eq] at h
    exact List.eq_nil_of_length_eq_zero (by omega)
  have T0 : r8types f.types seen x.args [] = true → x.args = [] := fun h => List.eq_nil_of_length_eq_zero (types_ok h).1
  have T1 : ∀ {t : Int}, r8types f.types seen x.args [t] = true → ∃ a, x.args = [a] := fun h => len_one (types_ok h).1
  have T2 : ∀ {t s : Int}, r8types f.types seen x.args [t, s] = true → ∃ a b, x.args = [a, b] := fun h => len_two (types_ok h).1
  have ha := fun h => arr_nm hA (name := x.name) h
  have hf := fun h => flw_nm hF (name := x.name) h
  have hx : x = .mk x.kind x.op x.n x.name x.args x.outs x.params x.kids := by cases x; rfl
  have hb2 := hb
  rw [hx] at hb2
  obtain ⟨b1, b2, b3, b4, b5⟩ := bare_parts hb2
  clear hb2
  unfold sForm at h
  by_cases k1 : x.kind = 1
  ·rw [if_pos (beq_iff_eq.2 k1)] at h
   obtain ⟨o, ho⟩ := V1 h
   have h0 := T0 (V h)
   rw [hx, k1, b1 (by omega) (by omega), b3 (by omega) (by omega) (by omega), b4 (by omega) (by omega), b5 (by omega), h0, ho]
   exact .num _ o
  rw [if_neg (by simpa using k1)] at h
  by_cases k2 : x.kind = 2
  ·rw [if_pos (beq_iff_eq.2 k2)] at h
   obtain ⟨o, ho⟩ := V1 h
   have hv := V h
   simp only [Bool.and_eq_true, Bool.or_eq_true, beq_iff_eq] at hv
   have h0 := T0 hv.2
   rw [hx, k2, b1 (by omega) (by omega), b3 (by omega) (by omega) (by omega), b4 (by omega) (by omega), b5 (by omega), h0, ho]
   exact .truth _ o hv.1
  rw [if_neg (by simpa using k2)] at h
  by_cases k3 : x.kind = 3
  ·rw [if_pos (beq_iff_eq.2 k3)] at h
   obtain ⟨o, ho⟩ := V1 h
   have hv := V h
   simp only [Bool.and_eq_true, r1IsOne, decide_eq_true_eq] at hv
   obtain ⟨a, h0⟩ := T1 hv.2
   rw [hx, k3, b2 (by omega) (by omega), b3 (by omega) (by omega) (by omega), b4 (by omega) (by omega), b5 (by omega), h0, ho]
   exact .one _ a o (by omega)
  rw [if_neg (by simpa using k3)] at h
  by_cases k4 : x.kind = 4
  ·rw [if_pos (beq_iff_eq.2 k4)] at h
   obtain ⟨o, ho⟩ := V1 h
   have hv := V h
   simp only [Bool.and_eq_true, r1IsTwo, decide_eq_true_eq] at hv
   obtain ⟨a, b, h0⟩ := T2 hv.1.2
   rw [hx, k4, b2 (by omega) (by omega), b3 (by omega) (by omega) (by omega), b4 (by omega) (by omega), b5 (by omega), h0, ho]
   exact .two _ a b o (by omega)
  rw [if_neg (by simpa using k4)] at h
  by_cases k5 : x.kind = 5
  ·rw [if_pos (beq_iff_eq.2 k5)] at h
   obtain ⟨o, ho⟩ := V1 h
   have hv := V h
   simp only [Bool.and_eq_true] at hv
   obtain ⟨a, h0⟩ := T1 hv.2
   rw [hx, k5, b1 (by omega) (by omega), b2 (by omega) (by omega), b4 (by omega) (by omega), b5 (by omega), h0, ho]
   exact .load _ a o (ha hv.1)
  rw [if_neg (by simpa using k5)] at h
  by_cases k6 : x.kind = 6
  ·rw [if_pos (beq_iff_eq.2 k6)] at h
   have ho := V0 h
   have hv := V h
   simp only [Bool.and_eq_true] at hv
   obtain ⟨a, b, h0⟩ := T2 hv.2
   rw [hx, k6, b1 (by omega) (by omega), b2 (by omega) (by omega), b4 (by omega) (by omega), b5 (by omega), h0, ho]
   exact .store _ a b (ha hv.1)
  rw [if_neg (by simpa using k6)] at h
  by_cases k7 : x.kind = 7
  ·rw [if_pos (beq_iff_eq.2 k7)] at h
   by_cases hp : decide (r8Place x.name u.flows 0 ≥ 0) = true
   ·rw [if_pos hp] at h
    have ho : ∃ o, x.outs = [o] := by
      split at h
      ·exact V1 h
      exact absurd (V h) (by decide)
    obtain ⟨o, ho⟩ := ho
    rw [hx, k7, b1 (by omega) (by omega), b2 (by omega) (by omega), b4 (by omega) (by omega), b5 (by omega), ho]
    exact .call _ _ o (hf hp)
   rw [if_neg hp] at h
   exact absurd (V h) (by decide)
  rw [if_neg (by simpa using k7)] at h
  by_cases k8 : x.kind = 8
  ·rw [if_pos (beq_iff_eq.2 k8)] at h
   obtain ⟨o, ho⟩ := V1 h
   have hv := V h
   have h0 : x.args = [] := List.eq_nil_of_length_eq_zero (by simp only [beq_iff_eq] at hv; omega)
   rw [hx, k8, b1 (by omega) (by omega), b2 (by omega) (by omega), b3 (by omega) (by omega) (by omega), b4 (by omega) (by omega), b5 (by omega), h0, ho]
   exact .read o
  rw [if_neg (by simpa using k8)] at h
  by_cases k9 : x.kind = 9
  ·rw [if_pos (beq_iff_eq.2 k9)] at h
   have ho := V0 h
   obtain ⟨a, h0⟩ := T1 (V h)
   rw [hx, k9, b1 (by omega) (by omega), b2 (by omega) (by omega), b3 (by omega) (by omega) (by omega), b4 (by omega) (by omega), b5 (by omega), h0, ho]
   exact .print a
  rw [if_neg (by simpa using k9)] at h
  by_cases k12 : x.kind = 12
  ·rw [if_pos (beq_iff_eq.2 k12)] at h
   have ho := V0 h
   rw [hx, k12, b1 (by omega) (by omega), b2 (by omega) (by omega), b3 (by omega) (by omega) (by omega), b4 (by omega) (by omega), b5 (by omega), ho]
   exact .yield _
  rw [if_neg (by simpa using k12)] at h
  by_cases k13 : x.kind = 13
  ·rw [if_pos (beq_iff_eq.2 k13)] at h
   have ho := V0 h
   rw [hx, k13, b1 (by omega) (by omega), b2 (by omega) (by omega), b3 (by omega) (by omega) (by omega), b4 (by omega) (by omega), b5 (by omega), ho]
   exact .next _
  rw [if_neg (by simpa using k13)] at h
  by_cases k14 : x.kind = 14
  ·rw [if_pos (beq_iff_eq.2 k14)] at h
   have ho := V0 h
   rw [hx, k14, b1 (by omega) (by omega), b2 (by omega) (by omega), b3 (by omega) (by omega) (by omega), b4 (by omega) (by omega), b5 (by omega), ho]
   exact .leave _
  rw [if_neg (by simpa using k14)] at h
  by_cases k15 : x.kind = 15
  ·rw [if_pos (beq_iff_eq.2 k15)] at h
   have ho := V0 h
   obtain ⟨a, h0⟩ := T1 (V h)
   rw [hx, k15, b1 (by omega) (by omega), b2 (by omega) (by omega), b3 (by omega) (by omega) (by omega), b4 (by omega) (by omega), b5 (by omega), h0, ho]
   exact .ret a
  rw [if_neg (by simpa using k15)] at h
  exact absurd (V h) (by decide)
theorem inR_pos {n : Nat} {l : List Int} (h : inR n l) : ∀ v ∈ l, 0 ≤ v := fun v hv => (h v hv).1
theorem v_vd {u : Un} (hgp : ∀ g ∈ u.flows, VF u g) (hA : ∀ a ∈ u.arrays, Nm a.name) (hF : ∀ g ∈ u.flows, Nm g.name) {f : Fl} : ∀ (N : Nat),
    (∀ (x : Nd) (deep : Int) (w : Wh) (seen : List Int), wtN x < N → vNode u f deep w seen x = true → vdN x) ∧ (∀ (l : List Nd) (deep : Int) (w : Wh) (seen : List Int), l.length + wtL l < N → vGo u f deep w seen l = true → vdL l)
  | 0 => ⟨fun _ _ _ _ h => by omega, fun _ _ _ _ h => by omega⟩
  | N + 1 => by
    have ih := v_vd hgp hA hF (f := f) N
    refine ⟨fun x deep w seen hw h => ?_, fun l deep w seen hw h => ?_⟩
    ·have hb := vNode_bare u f deep w seen h
     by_cases k10 : x.kind = 10
     ·obtain ⟨a, b, hk⟩ := r8bare_if hb k10
      rw [vNode_if u f deep w seen hb k10 hk] at h
      simp only [Bool.and_eq_true, vList] at h
      obtain ⟨⟨⟨⟨t1, t2⟩, t3⟩, _⟩, t5⟩ := h
      obtain ⟨kind, op, n, name, args, outs, params, ks⟩ := x
      obtain ⟨b1, b2, b3, b4, b5⟩ := bare_parts hb
      simp only [Nd.kind, Nd.kids, Nd.args, Nd.outs] at k10 hk t1 t5
      subst k10 hk
      simp only [wtN, wtK] at hw
      obtain rfl := b1 (by decide) (by decide)
      obtain rfl := b2 (by decide) (by decide)
      obtain rfl := b3 (by decide) (by decide) (by decide)
      obtain rfl := b5 (by decide)
      obtain ⟨e1, e2⟩ := types_ok t1
      obtain ⟨c, rfl⟩ := len_one e1
      simp only [vdN, vdK]
      exact ⟨.ite c outs a b, ⟨inR_pos e2, inR_pos (vOuts_in0 t5)⟩, ih.2 a _ _ _ (by omega) t2.2, ih.2 b _ _ _ (by omega) t3.2, trivial⟩
     by_cases k11 : x.kind = 11
     ·obtain ⟨a, hk⟩ := r8bare_loop hb k11
      rw [vNode_loop u f deep w seen hb k11 hk] at h
      simp only [Bool.and_eq_true, vList] at h
      obtain ⟨⟨⟨⟨t1, t2⟩, t3⟩, _⟩, t5⟩ := h
      obtain ⟨kind, op, n, name, args, outs, params, ks⟩ := x
      obtain ⟨b1, b2, b3, b4, b5⟩ := bare_parts hb
      simp only [Nd.kind, Nd.kids, Nd.args, Nd.outs, Nd.params] at k11 hk t1 t2 t5
      subst k11 hk
      simp only [wtN, wtK] at hw
      obtain rfl := b1 (by decide) (by decide)
      obtain rfl := b2 (by decide) (by decide)
      obtain rfl := b3 (by decide) (by decide) (by decide)
      obtain ⟨e1, e2⟩ := types_ok t1
      rw [r8of_len (vOuts_in0 t2)] at e1
      simp only [vdN, vdK]
      exact ⟨.loop args outs params a e1.symm, ⟨inR_pos e2, inR_pos (vOuts_in0 t5)⟩, ih.2 a _ _ _ (by omega) t3.2, trivial⟩
     rw [vNode_simple u f deep w seen hb (beq_false_of_ne k10) (beq_false_of_ne k11)] at h
     have hnf := smp_nf hA hF hb h
     obtain ⟨s1, s2, _⟩ := smp_ok hgp h
     obtain ⟨g1, _⟩ := bare_none hb k10 k11
     rw [vdN_eq]
     exact ⟨hnf, ⟨inR_pos s2, inR_pos s1⟩, by rw [g1]; simp [vdK]⟩
    cases l with
    | nil => simp [vdL]
    | cons x r =>
      simp only [vGo, Bool.and_eq_true] at h
      simp only [wtL, List.length_cons] at hw
      obtain ⟨⟨⟨_, h2⟩, _⟩, h3⟩ := h
      simp only [vdL]
      exact ⟨ih.1 x deep w seen (by omega) h2, ih.2 r deep w _ (by omega) h3⟩
theorem gA_nm {u : Un} : ∀ {l : List Ar} {i : Int}, r8gA u l i = true → ∀ a ∈ l, Nm a.name
  | b :: r, i, h, a, ha => by
    simp only [r8gA, Bool.and_eq_true, gArr] at h
    rcases List.mem_cons.1 ha with rfl | ha
    ·exact nm_of h.1.1.1.1.1
    exact gA_nm h.2 a ha
theorem gF_nm {u : Un} : ∀ {l : List Fl} {i : Int}, r8gF u l i = true → ∀ f ∈ l, Nm f.name
  | b :: r, i, h, a, ha => by
    simp only [r8gF, Bool.and_eq_true, gFlw] at h
    rcases List.mem_cons.1 ha with rfl | ha
    ·exact nm_of h.1.1.1.1.1
    exact gF_nm h.2 a ha
theorem valid_nm {u : Un} (h : (r8Check u).1 = 0) : (∀ a ∈ u.arrays, Nm a.name) ∧ ∀ f ∈ u.flows, Nm f.name := by
  obtain ⟨h1, _⟩ := (check_iff u).1 h
  simp only [r8globals, Bool.and_eq_true] at h1
  exact ⟨gA_nm h1.1.1, gF_nm h1.1.2⟩
theorem valid_fl {u : Un} (h : (r8Check u).1 = 0) : ∀ f ∈ u.flows, FlOk f := fun f hf => by
  obtain ⟨hA, hF⟩ := valid_nm h
  have hv := vf_of h
  obtain ⟨h1, _, h3, h4⟩ := hv f hf
  simp only [vList, Bool.and_eq_true] at h1
  exact ⟨flws_ty h f hf, flws_tys h f hf, h3, h4, hF f hf, (v_vd hv hA hF _).2 f.body 1 _ _ (Nat.lt_succ_self _) h1.2⟩
theorem text_same {u v : Un} (hu : (r8Check u).1 = 0) (hv : (r8Check v).1 = 0) : tUnit u = tUnit v ↔ r8Same u v = true := by
  refine ⟨fun h => ?_, fun h => by rw [same_U h]⟩
  rw [unit_inj (valid_nm hu).1 (valid_nm hv).1 (valid_fl hu) (valid_fl hv) h]
  exact same_refl v
theorem sc_gPick (l : List UInt8) (n : Nat) (g : Gn) (hn : 0 < n) (hb : g.pos ≤ 1000000) : SC Tryz.prog 67 [.ptr 2001 0, iInt (n : Int)] (gH l g) (fun _ => False) (iInt ((gPick l n g).1 : Int)) (gH l (gPick l n g).2) := by
  refine SC.of Tryz.func67 rfl (lb rfl) fun F ρ w => ?_
  refine tQ <| tG <| sm 1 rfl <| nL <| tQ <| tG <| sm 1 rfl <| cV rfl (ok_nilCheck rfl rfl rfl) <| sm 2 rfl <| cV rfl (oB rfl rfl (i64_add rfl (by omega))) <| cV rfl (ok_nilCheck rfl rfl rfl) <| sm 1 rfl ?_
  refine c0 (ok_store_box rfl rfl rfl rfl ((fun h => h)) tS3 (rfl) (lb rfl)) <| nL <| tQ <| tQ <| Tr.still mixed (by kernel_rfl) rfl <| smS 1 rfl <| sV rfl (ok_nilCheck rfl rfl rfl) <| smS 3 rfl <| sV rfl (ok_nilCheck rfl rfl rfl) <| smS 2 rfl <| sV rfl (oSm Tryz.underlying32 rfl) <| smS 2 rfl ?_
  refine WS.split (t := 22) rfl (fun hb22 => ?_) (fun hb22 => ?_)
  ·refine smS 6 rfl <| WS.nil <| Tr.condT rfl ?_
   have hc : g.pos + 1 > l.length ∨ g.pos + 1 > 150 := by
     (have := hb22; simp at this; omega)
   refine tQ <| tG <| sm 1 rfl <| nL <| Tr.ret <| ret_ok rfl ?_ (po2 rfl rfl)
   simp only [gPick, if_pos hc]
   rfl
  refine smS 1 rfl <| syV rfl rfl (ok_nilCheck rfl rfl rfl) <| smS 4 rfl <| WS.nil ?_
  refine tC rfl (fun hc28 => ?_) fun hc28 => ?_
  ·have hc : g.pos + 1 > l.length ∨ g.pos + 1 > 150 := by
     (have := hc28; simp at this; omega)
   refine tQ <| tG <| sm 1 rfl <| nL <| Tr.ret <| ret_ok rfl ?_ (po2 rfl rfl)
   simp only [gPick, if_pos hc]
   rfl
  have hc : ¬ (g.pos + 1 > l.length ∨ g.pos + 1 > 150) := by
    simp at hb22 hc28
    omega
  have hlt : g.pos < l.length := by omega
  have hi := map_get (f := eB) (List.getElem?_eq_getElem hlt)
  have hgd : l.getD g.pos 0 = l[g.pos] := by rw [List.getD, List.getElem?_eq_getElem hlt]; rfl
  generalize l[g.pos] = x at hi hgd
  have hrem : intBin .rem .i64 (IntKind.i64.wrap (x.toNat : Int)) (n : Int) = some (.int .i64 ((x.toNat % n : Nat) : Int)) := by rw [u8_i64]; exact i64_rem hn
  refine Tr.skip <| tQ <| Tr.still mixed (by kernel_rfl) rfl <| smS 1 rfl <| sV rfl (ok_nilCheck rfl rfl rfl) <| smS 3 rfl <| sV rfl (ok_nilCheck rfl rfl rfl) <| smS 2 rfl <| sV rfl (oB rfl rfl (i64_sub rfl (by omega))) <| sV rfl (ok_index_seq rfl rfl rfl Tryz.underlying32 hi tS5 rfl (by omega)) <| smS 1 rfl <| sV rfl (ok_conv_int rfl rfl ⟨_, Tryz.underlying5⟩ Tryz.underlying3) ?_
  refine smS 1 rfl <| sV rfl (oB rfl rfl hrem) <| smS 1 rfl <| WS.nil <| Tr.ret <| ret_ok rfl ?_ (po2 rfl rfl)
  simp only [gPick, if_neg hc, hgd]
theorem sc_gFresh (l : List UInt8) (t : Int) (g : Gn) (hb : g.types.length ≤ 1000000) : SC Tryz.prog 44 [.ptr 2001 0, iInt t] (gH l g) (fun _ => False) (iInt (gFresh t g).1) (gH l (gFresh t g).2) := by
  refine SC.of Tryz.func44 rfl (lb rfl) fun F ρ w => ?_
  have hbl : (g.types.map eInt).length = g.types.length := by simp
  have hbl2 : ((gFresh t g).2.types.map eInt).length = g.types.length + 1 := by simp [gFresh]
  refine tQ <| tG <| sm 1 rfl <| nL <| tQ <| tG <| sm 2 rfl <| cV rfl (ok_nilCheck rfl rfl rfl) <| sm 3 rfl <| cE rfl (ok_buildSlice rfl rfl Tryz.underlying35 tZ3 tS3 rfl rfl rfl rfl (firmB_ok rfl) rfl) ?_
  refine cE rfl (ok_append rfl rfl rfl rfl (by rfl) ((fun h => h)) Tryz.underlying35 tB3 (by decide) (by (simp [chunks]; done)) (by (simp [chunks, PV.one]; rfl)) (by simp [maxLen, chunks]; omega) (by simp [chunks]; omega)) ?_
  refine cV rfl (ok_nilCheck rfl rfl rfl) <| sm 1 rfl <| c0 (ok_store_box rfl rfl rfl rfl ((fun h => h)) tS35 (⟨_, _, rfl, by simp⟩) (lb rfl)) <| nL <| tQ ?_
  refine Tr.heap (σ' := look [(2001, some (genBox l (gFresh t g).2)), (2002, some (rowI (gFresh t g).2.types))]) (lkq [2001, 2002] rfl rfl ⟨(by first | exact congrArg (fun z => some (HO.row _ z)) (by simp [gFresh, chunks, eInt]) | exact congrArg (fun z => some (HO.box z)) (by simp [gFresh, chunks, eInt])), (by first | exact congrArg (fun z => some (HO.row _ z)) (by simp [gFresh, chunks, eInt]) | exact congrArg (fun z => some (HO.box z)) (by simp [gFresh, chunks, eInt])), trivial⟩) ?_
  refine tG <| sm 1 rfl <| cV rfl (ok_nilCheck rfl rfl rfl) <| sm 2 rfl <| cV rfl (ok_len_row rfl rfl rfl rfl Tryz.underlying35) <| cV rfl (oB rfl rfl (i64_sub rfl (by omega))) <| sm 1 rfl <| nL <| Tr.ret <| ret_ok rfl ?_ (po2 rfl rfl)
  refine congrArg (fun z => IV.pv (.val (.int .i64 z))) ?_
  rw [hbl2]
  simp only [gFresh]
  omega
theorem sc_gSome (l : List UInt8) (g : Gn) (seen : List Int) (t : Int) (hs : InR g.types seen) (hb : g.pos ≤ 999999) (hsl : seen.length ≤ 1000000) : SC Tryz.prog 100 [.ptr 2001 0, .sl 2003 (seen.map eInt).length, iInt t] (gHs l g seen) (fun _ => False) (iInt (gSome l seen t g).1) (gHs l (gSome l seen t g).2 seen) := by
  refine SC.of Tryz.func100 rfl (lb rfl) fun F ρ w => ?_
  have hp8 : (gPick l 8 g).1 < 8 := gPick_lt (by omega)
  refine tQ <| tG <| sm 1 rfl <| nL <| tQ <| tG <| sm 1 rfl <| cE rfl (ocr (sc_gPick l 8 g (by omega) (by omega)) ent67 rfl (po2 rfl rfl) rfl (fun k (h : _) => .inr h) rfl rfl) <| sm 1 rfl <| nL <| tQ <| tG ?_
  refine sm 1 rfl <| nL <| tQ <| tQ <| tG <| sm 1 rfl <| nL <| Tr.block <| Tr.sub (Sub.of (fr' := [(9, iInt 0), (8, iInt 0), (7, iInt ((gPick l 8 g).1 : Int)), (0, .ptr 2001 0), (1, .sl 2003 (seen.map eInt).length), (2, iInt t)]) ⟨rfl, rfl, rfl, rfl, rfl, rfl, trivial⟩) <| Tr.heap (σ' := look [(2001, some (genBox l (gPick l 8 g).2)), (2002, some (rowI (gPick l 8 g).2.types)), (2003, some (rowI seen))]) (lkq [2001, 2002, 2003] rfl rfl ⟨rfl, rfl, rfl, trivial⟩) ?_
  refine Tr.loop (fun fr σ m => ∃ (i : Nat) (k : Int) (v : Int), (i ≤ seen.length) ∧ (k ≤ 8 ∧ -(i : Int) ≤ k) ∧ (gS1 g.types t (i == 0) k v (seen.drop i) = gS1 g.types t true (gPick l 8 g).1 0 seen) ∧ fr = [(9, iInt i), (8, iInt v), (7, iInt k), (0, .ptr 2001 0), (1, .sl 2003 (seen.map eInt).length), (2, iInt t)] ∧ σ = look [(2001, some (genBox l (gPick l 8 g).2)), (2002, some (rowI (gPick l 8 g).2.types)), (2003, some (rowI seen))] ∧ m = seen.length - i) (n := seen.length - 0) ?_ ?_
  ·exact ⟨0, ((gPick l 8 g).1 : Int), 0, Nat.zero_le _, ⟨by omega, by omega⟩, rfl, rfl, rfl, rfl⟩
  rintro fr σ m ⟨i, k, v, hI0, hI1, hI2, rfl, rfl, rfl⟩
  refine tQ <| tQ <| tG <| sm 2 rfl <| cV rfl (ok_len_row rfl rfl rfl rfl Tryz.underlying35) <| sm 1 rfl <| nL ?_
  refine tC rfl (fun hc16 => ?_) fun hc16 => ?_
  ·have hlt : i < seen.length := by simpa using hc16
   have hd := List.drop_eq_getElem_cons hlt
   have hm := List.getElem_mem hlt
   have hi := map_get (f := eInt) (List.getElem?_eq_getElem hlt)
   generalize seen[i] = s at hd hm hi
   have hil : i < (seen.map eInt).length := by rw [List.length_map]; exact hlt
   obtain ⟨hs1, hs2, hs3⟩ := hs.at hm
   refine Tr.skip <| tQ <| Tr.block <| tQ <| Tr.still mixed (by kernel_rfl) rfl <| smS 1 rfl <| sV rfl (ok_nilCheck rfl rfl rfl) <| smS 4 rfl <| sV rfl (ok_index_row rfl rfl rfl rfl rfl Tryz.underlying35 tS3 hil (by rfl)) <| sV rfl (ok_load_row rfl rfl rfl rfl (Nat.add_zero _).symm hi rfl Tryz.underlying3 rfl trivial) <| sV rfl (ok_index_row rfl rfl rfl rfl rfl Tryz.underlying35 tS3 hs1 (by assumption)) <| sV rfl (ok_load_row rfl rfl rfl rfl (Nat.add_zero _).symm hs2 rfl Tryz.underlying3 rfl trivial) ?_
   refine smS 3 rfl ?_
   refine WS.split (t := 31) rfl (fun hb31 => ?_) (fun hb31 => ?_)
   ·refine smS 3 rfl ?_
    refine WS.split (t := 34) rfl (fun hb34 => ?_) (fun hb34 => ?_)
    ·refine smS 4 rfl <| WS.nil <| Tr.condT rfl <| tQ <| tG <| sm 2 rfl <| cV rfl (ok_index_row rfl rfl rfl rfl rfl Tryz.underlying35 tS3 hil (by rfl)) <| cV rfl (ok_load_row rfl rfl rfl rfl (Nat.add_zero _).symm hi rfl Tryz.underlying3 rfl trivial) <| sm 1 rfl <| nL <| tG <| sm 1 rfl ?_
     refine cV rfl (oB rfl rfl (i64_sub rfl (by omega))) <| sm 1 rfl <| nL <| tG <| sm 1 rfl <| cV rfl (oB rfl rfl (i64_add rfl (by omega))) <| sm 1 rfl <| nL ?_
     refine ⟨_, _, ?_, Sub.of (fr' := [(9, iInt (i + 1)), (8, iInt s), (7, iInt (k - 1)), (0, .ptr 2001 0), (1, .sl 2003 (seen.map eInt).length), (2, iInt t)]) ⟨rfl, rfl, rfl, rfl, rfl, rfl, trivial⟩, (i + 1), (k - 1), s, ?_, ?_, ?_, rfl, rfl, rfl⟩
     ·omega
     ·omega
     ·omega
     rw [← hI2, hd]
     have hi0 : (i + 1 == 0) = false := rfl
     rw [hi0]
     simp only [gS1]
     (rw [if_pos (by clear hs3 hi hs hd hm hs1 hs2 hI2; simp_all)]; done)
    refine smS 4 rfl <| WS.nil ?_
    refine tC rfl (fun hc38 => ?_) fun hc38 => ?_
    ·refine tQ <| tG <| sm 2 rfl <| cV rfl (ok_index_row rfl rfl rfl rfl rfl Tryz.underlying35 tS3 hil (by rfl)) <| cV rfl (ok_load_row rfl rfl rfl rfl (Nat.add_zero _).symm hi rfl Tryz.underlying3 rfl trivial) <| sm 1 rfl <| nL <| tG <| sm 1 rfl <| cV rfl (oB rfl rfl (i64_sub rfl (by omega))) <| sm 1 rfl <| nL ?_
     refine tG <| sm 1 rfl <| cV rfl (oB rfl rfl (i64_add rfl (by omega))) <| sm 1 rfl <| nL ?_
     refine ⟨_, _, ?_, Sub.of (fr' := [(9, iInt (i + 1)), (8, iInt s), (7, iInt (k - 1)), (0, .ptr 2001 0), (1, .sl 2003 (seen.map eInt).length), (2, iInt t)]) ⟨rfl, rfl, rfl, rfl, rfl, rfl, trivial⟩, (i + 1), (k - 1), s, ?_, ?_, ?_, rfl, rfl, rfl⟩
     ·omega
     ·omega
     ·omega
     rw [← hI2, hd]
     have hi0 : (i + 1 == 0) = false := rfl
     rw [hi0]
     simp only [gS1]
     (rw [if_pos (by clear hs3 hi hs hd hm hs1 hs2 hI2; simp_all)]; done)
    refine Tr.skip <| tG <| sm 1 rfl <| cV rfl (oB rfl rfl (i64_add rfl (by omega))) <| sm 1 rfl <| nL ?_
    refine ⟨_, _, ?_, Sub.of (fr' := [(9, iInt (i + 1)), (8, iInt v), (7, iInt k), (0, .ptr 2001 0), (1, .sl 2003 (seen.map eInt).length), (2, iInt t)]) ⟨rfl, rfl, rfl, rfl, rfl, rfl, trivial⟩, (i + 1), k, v, ?_, ?_, ?_, rfl, rfl, rfl⟩
    ·omega
    ·omega
    ·omega
    rw [← hI2, hd]
    have hi0 : (i + 1 == 0) = false := rfl
    rw [hi0]
    simp only [gS1]
    (rw [if_neg (by clear hs3 hi hs hd hm hs1 hs2 hI2; simp_all)]; done)
   refine smS 3 rfl <| WS.noU rfl rfl rfl rfl rfl rfl <| WS.noU rfl rfl rfl rfl rfl rfl <| smS 2 rfl <| WS.nil <| Tr.condF rfl <| Tr.skip <| tG <| sm 1 rfl <| cV rfl (oB rfl rfl (i64_add rfl (by omega))) <| sm 1 rfl <| nL ?_
   refine ⟨_, _, ?_, Sub.of (fr' := [(9, iInt (i + 1)), (8, iInt v), (7, iInt k), (0, .ptr 2001 0), (1, .sl 2003 (seen.map eInt).length), (2, iInt t)]) ⟨rfl, rfl, rfl, rfl, rfl, rfl, trivial⟩, (i + 1), k, v, ?_, ?_, ?_, rfl, rfl, rfl⟩
   ·omega
   ·omega
   ·omega
   rw [← hI2, hd]
   have hi0 : (i + 1 == 0) = false := rfl
   rw [hi0]
   simp only [gS1]
   (rw [if_neg (by clear hs3 hi hs hd hm hs1 hs2 hI2; simp_all)]; done)
  refine Tr.exit <| tQ <| tQ ?_
  have hge : seen.length ≤ i := by simpa using hc16
  rw [List.drop_eq_nil_of_le hge] at hI2
  simp only [gS1] at hI2
  obtain ⟨v0, hv0e⟩ : ∃ v0, gS1 g.types t true (gPick l 8 g).1 0 seen = v0 := ⟨_, rfl⟩
  have hv0 := gS1_in (t := t) seen true (gPick l 8 g).1 0 hs ⟨by omega, .inr rfl⟩
  rw [hv0e] at hI2 hv0
  subst hI2
  refine tG <| sm 1 rfl <| nL <| Tr.block <| Tr.sub (Sub.of (fr' := [(10, iInt 0), (8, iInt v), (0, .ptr 2001 0), (1, .sl 2003 (seen.map eInt).length), (2, iInt t)]) ⟨rfl, rfl, rfl, rfl, rfl, trivial⟩) ?_
  refine Tr.loop (fun fr σ m => ∃ (i : Nat) (v1 : Int), (i ≤ seen.length) ∧ (gS2 g.types t v1 (seen.drop i) = gS2 g.types t v seen) ∧ (0 ≤ v1 ∧ (v1.toNat < g.types.length ∨ v1 = 0)) ∧ fr = [(10, iInt i), (8, iInt v1), (0, .ptr 2001 0), (1, .sl 2003 (seen.map eInt).length), (2, iInt t)] ∧ σ = look [(2001, some (genBox l (gPick l 8 g).2)), (2002, some (rowI (gPick l 8 g).2.types)), (2003, some (rowI seen))] ∧ m = seen.length - i) (n := seen.length - 0) ?_ ?_
  ·exact ⟨0, v, Nat.zero_le _, rfl, hv0, rfl, rfl, rfl⟩
  rintro fr σ m ⟨i, v1, hI0, hI1, hI2, rfl, rfl, rfl⟩
  refine tQ <| tQ <| tG <| sm 2 rfl <| cV rfl (ok_len_row rfl rfl rfl rfl Tryz.underlying35) <| sm 2 rfl ?_
  refine wS 49 rfl (fun hb49 => ?_) fun hb49 => ?_
  ·have hlt : i < seen.length := by simpa using hb49
   have hd := List.drop_eq_getElem_cons hlt
   have hm := List.getElem_mem hlt
   have hi := map_get (f := eInt) (List.getElem?_eq_getElem hlt)
   generalize seen[i] = s at hd hm hi
   have hil : i < (seen.map eInt).length := by rw [List.length_map]; exact hlt
   obtain ⟨hs1, hs2, hs3⟩ := hs.at hm
   have hvr : v1.toNat < g.types.length := by
     rcases hI2.2 with h1 | h1
     ·exact h1
     subst h1
     have : s.toNat < g.types.length := by simpa using hs1
     simp; omega
   have hvm : InR g.types [v1] := fun x hx => by rw [List.mem_singleton.1 hx]; exact ⟨hI2.1, hvr⟩
   obtain ⟨hv1, hv2, hv3⟩ := hvm.at (.head _)
   refine sm 1 rfl <| yV rfl rfl (ok_nilCheck rfl rfl rfl) <| sm 3 rfl <| yV rfl rfl (ok_index_row rfl rfl rfl rfl rfl Tryz.underlying35 tS3 hv1 (by assumption)) <| yV rfl rfl (ok_load_row rfl rfl rfl rfl (Nat.add_zero _).symm hv2 rfl Tryz.underlying3 rfl trivial) <| sm 3 rfl <| nL ?_
   refine tC rfl (fun hc59 => ?_) fun hc59 => ?_
   ·have hcont : (g.types.getD v1.toNat 0 != t) = true := hc59
    refine Tr.skip <| tQ <| Tr.block <| tQ <| Tr.still mixed (by kernel_rfl) rfl <| smS 1 rfl <| sV rfl (ok_nilCheck rfl rfl rfl) <| smS 4 rfl <| sV rfl (ok_index_row rfl rfl rfl rfl rfl Tryz.underlying35 tS3 hil (by rfl)) <| sV rfl (ok_load_row rfl rfl rfl rfl (Nat.add_zero _).symm hi rfl Tryz.underlying3 rfl trivial) <| sV rfl (ok_index_row rfl rfl rfl rfl rfl Tryz.underlying35 tS3 hs1 (by assumption)) <| sV rfl (ok_load_row rfl rfl rfl rfl (Nat.add_zero _).symm hs2 rfl Tryz.underlying3 rfl trivial) ?_
    refine smS 2 rfl <| WS.nil ?_
    refine tC rfl (fun hc73 => ?_) fun hc73 => ?_
    ·refine tG <| sm 2 rfl <| cV rfl (ok_index_row rfl rfl rfl rfl rfl Tryz.underlying35 tS3 hil (by rfl)) <| cV rfl (ok_load_row rfl rfl rfl rfl (Nat.add_zero _).symm hi rfl Tryz.underlying3 rfl trivial) <| sm 1 rfl <| nL <| tG <| sm 1 rfl <| cV rfl (oB rfl rfl (i64_add rfl (by omega))) <| sm 1 rfl <| nL ?_
     refine ⟨_, _, ?_, Sub.of (fr' := [(10, iInt (i + 1)), (8, iInt s), (0, .ptr 2001 0), (1, .sl 2003 (seen.map eInt).length), (2, iInt t)]) ⟨rfl, rfl, rfl, rfl, rfl, trivial⟩, (i + 1), s, ?_, ?_, ?_, rfl, rfl, rfl⟩
     ·omega
     ·omega
     ·rw [← hI1, hd]
      simp only [gS2]
      rw [if_pos hcont]
      (rw [if_pos hc73]; done)
     first
     | exact hI2
     | exact ⟨by omega, .inl (by simpa using hs1)⟩
    refine Tr.skip <| tG <| sm 1 rfl <| cV rfl (oB rfl rfl (i64_add rfl (by omega))) <| sm 1 rfl <| nL ?_
    refine ⟨_, _, ?_, Sub.of (fr' := [(10, iInt (i + 1)), (8, iInt v1), (0, .ptr 2001 0), (1, .sl 2003 (seen.map eInt).length), (2, iInt t)]) ⟨rfl, rfl, rfl, rfl, rfl, trivial⟩, (i + 1), v1, ?_, ?_, ?_, rfl, rfl, rfl⟩
    ·omega
    ·omega
    ·rw [← hI1, hd]
     simp only [gS2]
     rw [if_pos hcont]
     (rw [if_neg (by rw [hc73]; decide)]; done)
    first
    | exact hI2
    | exact ⟨by omega, .inl (by simpa using hs1)⟩
   refine Tr.exit <| tQ <| tG <| sm 2 rfl <| nL <| Tr.ret <| ret_ok rfl ?_ (po3 rfl rfl rfl)
   refine congrArg iInt ?_
   show _ = gS2 g.types t (gS1 g.types t true (gPick l 8 g).1 0 seen) seen
   rw [hv0e, ← hI1]
   (rw [hd]
    simp only [gS2]
    rw [if_neg (by rw [show (g.types.getD v1.toNat 0 != t) = false from hc59]; decide)]
    done)
  refine sm 10 rfl <| nL <| Tr.condF rfl <| Tr.exit <| tQ <| tG <| sm 2 rfl <| nL <| Tr.ret <| ret_ok rfl ?_ (po3 rfl rfl rfl)
  refine congrArg iInt ?_
  show _ = gS2 g.types t (gS1 g.types t true (gPick l 8 g).1 0 seen) seen
  rw [hv0e, ← hI1]
  (rw [List.drop_eq_nil_of_le (by simpa using hb49)]
   rfl)
theorem sc_gEach (l : List UInt8) (seen ts : List Int) (g : Gn) (hs : InR g.types seen) (hb : g.pos + ts.length ≤ 1000000) (hsl : seen.length ≤ 1000000) : SC Tryz.prog 70 [.ptr 2001 0, .sl 2003 (seen.map eInt).length, .pv (ints ts)] (gHs l g seen) (fun _ => False) (.pv (ints (gEach l seen ts g).1)) (gHs l (gEach l seen ts g).2 seen) := by
  refine SC.of Tryz.func70 rfl (lb rfl) fun F ρ w => ?_
  refine Tr.lenOf (t := 2) rfl (fun hl => ?_)
  simp only [List.length_map] at hl
  refine tQ <| tG <| sm 1 rfl <| nL <| tQ <| tG <| sm 1 rfl <| nL <| tQ <| tQ <| Tr.grow (t := 7) (k := 107) ⟨3, 1⟩ rfl rfl rfl rfl rfl <| tG ?_
  refine sm 1 rfl <| nL <| Tr.block <| Tr.sub (Sub.of (fr' := [(8, iInt 0), (7, .sl 107 (([] : List Int).map eInt).length), (0, .ptr 2001 0), (1, .sl 2003 (seen.map eInt).length), (2, .pv (ints ts))]) ⟨rfl, rfl, rfl, rfl, rfl, trivial⟩) <| Tr.heap (σ' := look [(107, some (rowI ([] : List Int))), (2001, some (genBox l g)), (2002, some (rowI g.types)), (2003, some (rowI seen))]) (lkq [107, 2001, 2002, 2003] rfl rfl ⟨rfl, rfl, rfl, rfl, trivial⟩) ?_
  refine Tr.loop (fun fr σ m => ∃ (i : Nat) (acc : List Int) (g1 : Gn), (i ≤ ts.length) ∧ (acc ++ (gEach l seen (ts.drop i) g1).1 = (gEach l seen ts g).1) ∧ ((gEach l seen (ts.drop i) g1).2 = (gEach l seen ts g).2) ∧ (g1.types = g.types) ∧ (g1.pos + (ts.length - i) ≤ 1000000) ∧ (acc.length = i) ∧ fr = [(8, iInt i), (7, .sl 107 (acc.map eInt).length), (0, .ptr 2001 0), (1, .sl 2003 (seen.map eInt).length), (2, .pv (ints ts))] ∧ σ = look [(107, some (rowI acc)), (2001, some (genBox l g1)), (2002, some (rowI g1.types)), (2003, some (rowI seen))] ∧ m = ts.length - i) (n := ts.length - 0) ?_ ?_
  ·exact ⟨0, ([] : List Int), g, Nat.zero_le _, (by simp), rfl, rfl, hb, rfl, rfl, rfl, rfl⟩
  rintro fr σ m ⟨i, acc, g1, hI0, hI1, hI2, hIt, hIb, hIa, rfl, rfl, rfl⟩
  refine tQ <| tQ <| tG <| sm 2 rfl <| cV rfl (oSm Tryz.underlying35 rfl) <| sm 1 rfl <| nL ?_
  refine tC rfl (fun hc12 => ?_) fun hc12 => ?_
  ·have hlt : i < ts.length := by simpa using hc12
   have hd := List.drop_eq_getElem_cons hlt
   have hm := List.getElem_mem hlt
   have hi := map_get (f := eInt) (List.getElem?_eq_getElem hlt)
   generalize ts[i] = x at hd hm hi
   have hal : (acc.map eInt).length = acc.length := by simp
   refine Tr.skip <| tQ <| Tr.block <| tG <| sm 5 rfl <| cV rfl (ok_index_seq rfl rfl rfl Tryz.underlying35 hi tS3 rfl (by rfl)) <| sm 1 rfl <| cE rfl (ocr (sc_gSome l g1 seen x (by rw [hIt]; exact hs) (by omega) hsl) ent100 rfl (po3 rfl rfl rfl) rfl (fun k (h : _) => .inr h) rfl rfl) <| cE rfl (ok_buildSlice rfl rfl Tryz.underlying35 tZ3 tS3 rfl rfl rfl rfl (firmB_ok rfl) rfl) ?_
   refine cE rfl (ok_append rfl rfl rfl rfl (by rfl) ((fun h => h)) Tryz.underlying35 tB3 (by decide) (by (simp [chunks]; done)) (by (simp [chunks, PV.one]; rfl)) (by simp [maxLen, chunks]; omega) (by simp [chunks]; omega)) ?_
   refine sm 1 rfl <| nL <| tG <| sm 1 rfl <| cV rfl (oB rfl rfl (i64_add rfl (by omega))) <| sm 1 rfl <| nL ?_
   refine ⟨_, _, ?_, Sub.of (fr' := [(8, iInt (i + 1)), (7, .sl 107 ((acc ++ [(gSome l seen x g1).1]).map eInt).length), (0, .ptr 2001 0), (1, .sl 2003 (seen.map eInt).length), (2, .pv (ints ts))]) ⟨rfl, congrArg (fun z => some (IV.sl _ z)) (by simp [chunks, eInt]), rfl, rfl, rfl, trivial⟩, (i + 1), (acc ++ [(gSome l seen x g1).1]), (gSome l seen x g1).2, ?_, ?_, ?_, ?_, ?_, ?_, rfl, (funext (lkq [107, 2001, 2002, 2003] rfl rfl ⟨(congrArg (fun z => some (HO.row _ z)) (by simp [chunks, eInt])), rfl, rfl, rfl, trivial⟩)), rfl⟩
   ·omega
   ·omega
   ·rw [← hI1, hd]; simp [gEach]
   ·rw [← hI2, hd]; rfl
   ·exact hIt
   ·show g1.pos + 1 + (ts.length - (i + 1)) ≤ 1000000
    omega
   simp [hIa]
  refine Tr.exit <| tQ <| Tr.freeze (t := 7) (k := 107) rfl rfl (by simp) ?_
  have hge : ts.length ≤ i := by simpa using hc12
  rw [List.drop_eq_nil_of_le hge] at hI1 hI2
  simp only [gEach, List.append_nil] at hI1 hI2
  subst hI2
  refine tG <| sm 2 rfl <| nL <| Tr.ret <| ret_ok rfl ?_ (po3 rfl rfl rfl)
  rw [← hI1]
  rfl
theorem sc_gTypes (l : List UInt8) (g : Gn) (hb : g.pos ≤ 999990) : SC Tryz.prog 69 [.ptr 2001 0] (gH l g) (fun _ => False) (.pv (ints (gTypes l g).1)) (gH l (gTypes l g).2) := by
  refine SC.of Tryz.func69 rfl (lb rfl) fun F ρ w => ?_
  have hp3 : (gPick l 3 g).1 < 3 := gPick_lt (by omega)
  refine tQ <| tG <| sm 1 rfl <| nL <| tQ <| tG <| sm 1 rfl <| nL <| tQ <| tQ <| Tr.grow (t := 3) (k := 103) ⟨3, 1⟩ rfl rfl rfl rfl rfl <| tG ?_
  refine sm 1 rfl <| cE rfl (ocr (sc_gPick l 3 g (by omega) (by omega)) ent67 rfl (po2 rfl rfl) rfl (fun k (h : _) => .inr h) rfl rfl) <| sm 1 rfl <| nL <| Tr.block <| Tr.sub (Sub.of (fr' := [(4, iInt (((gPick l 3 g).1 : Nat) : Int)), (3, .sl 103 (([] : List Int).map eInt).length), (0, .ptr 2001 0)]) ⟨rfl, rfl, rfl, trivial⟩) <| Tr.heap (σ' := look [(103, some (rowI ([] : List Int))), (2001, some (genBox l (gPick l 3 g).2)), (2002, some (rowI (gPick l 3 g).2.types))]) (lkq [103, 2001, 2002] rfl rfl ⟨rfl, rfl, rfl, trivial⟩) ?_
  refine Tr.loop (fun fr σ m => ∃ (n : Nat) (acc : List Int) (g1 : Gn), (n ≤ 3) ∧ (acc ++ (gTyN l n g1).1 = (gTypes l g).1) ∧ ((gTyN l n g1).2 = (gTypes l g).2) ∧ (g1.pos + n ≤ 1000000) ∧ (acc.length + n ≤ 3) ∧ fr = [(4, iInt ((n : Nat) : Int)), (3, .sl 103 (acc.map eInt).length), (0, .ptr 2001 0)] ∧ σ = look [(103, some (rowI acc)), (2001, some (genBox l g1)), (2002, some (rowI g1.types))] ∧ m = n + 1) (n := (gPick l 3 g).1 + 1) ?_ ?_
  ·exact ⟨(gPick l 3 g).1, ([] : List Int), (gPick l 3 g).2, (by omega), (by rw [List.nil_append]; rfl), rfl, (by simp only [gPick] at hp3 ⊢; omega), (by simp; omega), rfl, rfl, rfl⟩
  rintro fr σ m ⟨n, acc, g1, hI0, hI1, hI2, hIb, hIa, rfl, rfl, rfl⟩
  refine tQ <| tQ <| tG <| sm 2 rfl <| nL ?_
  refine tC rfl (fun hc8 => ?_) fun hc8 => ?_
  ·have hn0 : 0 < n := by simpa using hc8
   obtain ⟨m, rfl⟩ : ∃ m, n = m + 1 := ⟨n - 1, by omega⟩
   have hp2 : (gPick l 2 g1).1 < 2 := gPick_lt (by omega)
   have hal : (acc.map eInt).length = acc.length := by simp
   refine Tr.skip <| tQ <| Tr.block <| tG <| sm 2 rfl <| cE rfl (ocr (sc_gPick l 2 g1 (by omega) (by omega)) ent67 rfl (po2 rfl rfl) rfl (fun k (h : _) => .inr h) rfl rfl) <| cV rfl (oB rfl rfl (i64_add rfl (by omega))) <| cE rfl (ok_buildSlice rfl rfl Tryz.underlying35 tZ3 tS3 rfl rfl rfl rfl (firmB_ok rfl) rfl) ?_
   refine cE rfl (ok_append rfl rfl rfl rfl (by rfl) ((fun h => h)) Tryz.underlying35 tB3 (by decide) (by (simp [chunks]; done)) (by (simp [chunks, PV.one]; rfl)) (by simp [maxLen, chunks]; omega) (by simp [chunks]; omega)) ?_
   refine sm 1 rfl <| nL <| tG <| sm 1 rfl <| cV rfl (oB rfl rfl (i64_sub rfl (by omega))) <| sm 1 rfl <| nL ?_
   refine ⟨_, _, ?_, Sub.of (fr' := [(4, iInt ((m : Nat) : Int)), (3, .sl 103 ((acc ++ [1 + ((gPick l 2 g1).1 : Int)]).map eInt).length), (0, .ptr 2001 0)]) ⟨congrArg (fun z => some (iInt z)) (by omega), congrArg (fun z => some (IV.sl _ z)) (by simp [chunks, eInt]), rfl, trivial⟩, m, (acc ++ [1 + ((gPick l 2 g1).1 : Int)]), (gPick l 2 g1).2, ?_, ?_, ?_, ?_, ?_, rfl, (funext (lkq [103, 2001, 2002] rfl rfl ⟨(congrArg (fun z => some (HO.row _ z)) (by simp [chunks, eInt])), rfl, rfl, trivial⟩)), rfl⟩
   ·omega
   ·omega
   ·rw [← hI1]; simp [gTyN]
   ·rw [← hI2]; rfl
   ·show g1.pos + 1 + m ≤ 1000000
    omega
   simp; omega
  refine Tr.exit <| tQ <| Tr.freeze (t := 3) (k := 103) rfl rfl (by simp) ?_
  obtain rfl : n = 0 := by simp at hc8; omega
  simp only [gTyN, List.append_nil] at hI1 hI2
  subst hI2
  refine tG <| sm 2 rfl <| nL <| Tr.ret <| ret_ok rfl ?_ (po2 rfl rfl)
  rw [← hI1]
  rfl
theorem sc_gOuts (l : List UInt8) (ts : List Int) (g : Gn) (hb : g.types.length + ts.length ≤ 1000000) : SC Tryz.prog 43 [.ptr 2001 0, .pv (ints ts)] (gH l g) (fun _ => False) (.pv (ints (gOuts ts g).1)) (gH l (gOuts ts g).2) := by
  refine SC.of Tryz.func43 rfl (lb rfl) fun F ρ w => ?_
  refine Tr.lenOf (t := 1) rfl (fun hl => ?_)
  simp only [List.length_map] at hl
  refine tQ <| tG <| sm 1 rfl <| nL <| tQ <| tG <| sm 1 rfl <| nL <| tQ <| tQ <| Tr.grow (t := 5) (k := 105) ⟨3, 1⟩ rfl rfl rfl rfl rfl <| tG ?_
  refine sm 1 rfl <| nL <| Tr.block <| Tr.sub (Sub.of (fr' := [(6, iInt 0), (5, .sl 105 (([] : List Int).map eInt).length), (0, .ptr 2001 0), (1, .pv (ints ts))]) ⟨rfl, rfl, rfl, rfl, trivial⟩) <| Tr.heap (σ' := look [(105, some (rowI ([] : List Int))), (2001, some (genBox l g)), (2002, some (rowI g.types))]) (lkq [105, 2001, 2002] rfl rfl ⟨rfl, rfl, rfl, trivial⟩) ?_
  refine Tr.loop (fun fr σ m => ∃ (i : Nat) (acc : List Int) (g1 : Gn), (i ≤ ts.length) ∧ (acc ++ (gOuts (ts.drop i) g1).1 = (gOuts ts g).1) ∧ ((gOuts (ts.drop i) g1).2 = (gOuts ts g).2) ∧ (g1.types.length + (ts.length - i) ≤ 1000000) ∧ (acc.length = i) ∧ fr = [(6, iInt i), (5, .sl 105 (acc.map eInt).length), (0, .ptr 2001 0), (1, .pv (ints ts))] ∧ σ = look [(105, some (rowI acc)), (2001, some (genBox l g1)), (2002, some (rowI g1.types))] ∧ m = ts.length - i) (n := ts.length - 0) ?_ ?_
  ·exact ⟨0, ([] : List Int), g, Nat.zero_le _, (by simp), rfl, hb, rfl, rfl, rfl, rfl⟩
  rintro fr σ m ⟨i, acc, g1, hI0, hI1, hI2, hIb, hIa, rfl, rfl, rfl⟩
  refine tQ <| tQ <| tG <| sm 2 rfl <| cV rfl (oSm Tryz.underlying35 rfl) <| sm 1 rfl <| nL ?_
  refine tC rfl (fun hc10 => ?_) fun hc10 => ?_
  ·have hlt : i < ts.length := by simpa using hc10
   have hd := List.drop_eq_getElem_cons hlt
   have hm := List.getElem_mem hlt
   have hi := map_get (f := eInt) (List.getElem?_eq_getElem hlt)
   generalize ts[i] = x at hd hm hi
   have hal : (acc.map eInt).length = acc.length := by simp
   refine Tr.skip <| tQ <| Tr.block <| tG <| sm 4 rfl <| cV rfl (ok_index_seq rfl rfl rfl Tryz.underlying35 hi tS3 rfl (by rfl)) <| sm 1 rfl <| cE rfl (ocr (sc_gFresh l x g1 (by omega)) ent44 rfl (po2 rfl rfl) rfl (fun k (h : _) => .inr h) rfl rfl) <| cE rfl (ok_buildSlice rfl rfl Tryz.underlying35 tZ3 tS3 rfl rfl rfl rfl (firmB_ok rfl) rfl) ?_
   refine cE rfl (ok_append rfl rfl rfl rfl (by rfl) ((fun h => h)) Tryz.underlying35 tB3 (by decide) (by (simp [chunks]; done)) (by (simp [chunks, PV.one]; rfl)) (by simp [maxLen, chunks]; omega) (by simp [chunks]; omega)) ?_
   refine sm 1 rfl <| nL <| tG <| sm 1 rfl <| cV rfl (oB rfl rfl (i64_add rfl (by omega))) <| sm 1 rfl <| nL ?_
   refine ⟨_, _, ?_, Sub.of (fr' := [(6, iInt (i + 1)), (5, .sl 105 ((acc ++ [(gFresh x g1).1]).map eInt).length), (0, .ptr 2001 0), (1, .pv (ints ts))]) ⟨rfl, congrArg (fun z => some (IV.sl _ z)) (by simp [chunks, eInt]), rfl, rfl, trivial⟩, (i + 1), (acc ++ [(gFresh x g1).1]), (gFresh x g1).2, ?_, ?_, ?_, ?_, ?_, rfl, (funext (lkq [105, 2001, 2002] rfl rfl ⟨(congrArg (fun z => some (HO.row _ z)) (by simp [chunks, eInt])), rfl, rfl, trivial⟩)), rfl⟩
   ·omega
   ·omega
   ·rw [← hI1, hd]; simp [gOuts]
   ·rw [← hI2, hd]; rfl
   ·simp only [gFresh, List.length_append, List.length_cons, List.length_nil]
    omega
   simp [hIa]
  refine Tr.exit <| tQ <| Tr.freeze (t := 5) (k := 105) rfl rfl (by simp) ?_
  have hge : ts.length ≤ i := by simpa using hc10
  rw [List.drop_eq_nil_of_le hge] at hI1 hI2
  simp only [gOuts, List.append_nil] at hI1 hI2
  subst hI2
  rw [← hI1]
  refine tG <| sm 2 rfl <| nL <| Tr.ret <| ret_ok rfl rfl (po2 rfl rfl)
theorem sc_gOutsN (l : List UInt8) (ts : List Int) (g : Gn) (hb : g.types.length + ts.length ≤ 1000000) : SC Tryz.prog 43 [.ptr 2001 0, .pv (ints ts)] (gH l g) (fun _ => False) (.sl 2005 ((gOuts ts g).1.map eInt).length) ((2005, rowI (gOuts ts g).1) :: gH l (gOuts ts g).2) := by
  refine SC.of Tryz.func43 rfl (lb rfl) fun F ρ w => ?_
  refine Tr.lenOf (t := 1) rfl (fun hl => ?_)
  simp only [List.length_map] at hl
  refine tQ <| tG <| sm 1 rfl <| nL <| tQ <| tG <| sm 1 rfl <| nL <| tQ <| tQ <| Tr.grow (t := 5) (k := 2005) ⟨3, 1⟩ rfl rfl rfl rfl rfl <| tG ?_
  refine sm 1 rfl <| nL <| Tr.block <| Tr.sub (Sub.of (fr' := [(6, iInt 0), (5, .sl 2005 (([] : List Int).map eInt).length), (0, .ptr 2001 0), (1, .pv (ints ts))]) ⟨rfl, rfl, rfl, rfl, trivial⟩) <| Tr.heap (σ' := look [(2005, some (rowI ([] : List Int))), (2001, some (genBox l g)), (2002, some (rowI g.types))]) (lkq [2005, 2001, 2002] rfl rfl ⟨rfl, rfl, rfl, trivial⟩) ?_
  refine Tr.loop (fun fr σ m => ∃ (i : Nat) (acc : List Int) (g1 : Gn), (i ≤ ts.length) ∧ (acc ++ (gOuts (ts.drop i) g1).1 = (gOuts ts g).1) ∧ ((gOuts (ts.drop i) g1).2 = (gOuts ts g).2) ∧ (g1.types.length + (ts.length - i) ≤ 1000000) ∧ (acc.length = i) ∧ fr = [(6, iInt i), (5, .sl 2005 (acc.map eInt).length), (0, .ptr 2001 0), (1, .pv (ints ts))] ∧ σ = look [(2005, some (rowI acc)), (2001, some (genBox l g1)), (2002, some (rowI g1.types))] ∧ m = ts.length - i) (n := ts.length - 0) ?_ ?_
  ·exact ⟨0, ([] : List Int), g, Nat.zero_le _, (by simp), rfl, hb, rfl, rfl, rfl, rfl⟩
  rintro fr σ m ⟨i, acc, g1, hI0, hI1, hI2, hIb, hIa, rfl, rfl, rfl⟩
  refine tQ <| tQ <| tG <| sm 2 rfl <| cV rfl (oSm Tryz.underlying35 rfl) <| sm 1 rfl <| nL ?_
  refine tC rfl (fun hc10 => ?_) fun hc10 => ?_
  ·have hlt : i < ts.length := by simpa using hc10
   have hd := List.drop_eq_getElem_cons hlt
   have hm := List.getElem_mem hlt
   have hi := map_get (f := eInt) (List.getElem?_eq_getElem hlt)
   generalize ts[i] = x at hd hm hi
   have hal : (acc.map eInt).length = acc.length := by simp
   refine Tr.skip <| tQ <| Tr.block <| tG <| sm 4 rfl <| cV rfl (ok_index_seq rfl rfl rfl Tryz.underlying35 hi tS3 rfl (by rfl)) <| sm 1 rfl <| cE rfl (ocr (sc_gFresh l x g1 (by omega)) ent44 rfl (po2 rfl rfl) rfl (fun k (h : _) => .inr h) rfl rfl) <| cE rfl (ok_buildSlice rfl rfl Tryz.underlying35 tZ3 tS3 rfl rfl rfl rfl (firmB_ok rfl) rfl) ?_
   refine cE rfl (ok_append rfl rfl rfl rfl (by rfl) ((fun h => h)) Tryz.underlying35 tB3 (by decide) (by (simp [chunks]; done)) (by (simp [chunks, PV.one]; rfl)) (by simp [maxLen, chunks]; omega) (by simp [chunks]; omega)) ?_
   refine sm 1 rfl <| nL <| tG <| sm 1 rfl <| cV rfl (oB rfl rfl (i64_add rfl (by omega))) <| sm 1 rfl <| nL ?_
   refine ⟨_, _, ?_, Sub.of (fr' := [(6, iInt (i + 1)), (5, .sl 2005 ((acc ++ [(gFresh x g1).1]).map eInt).length), (0, .ptr 2001 0), (1, .pv (ints ts))]) ⟨rfl, congrArg (fun z => some (IV.sl _ z)) (by simp [chunks, eInt]), rfl, rfl, trivial⟩, (i + 1), (acc ++ [(gFresh x g1).1]), (gFresh x g1).2, ?_, ?_, ?_, ?_, ?_, rfl, (funext (lkq [2005, 2001, 2002] rfl rfl ⟨(congrArg (fun z => some (HO.row _ z)) (by simp [chunks, eInt])), rfl, rfl, trivial⟩)), rfl⟩
   ·omega
   ·omega
   ·rw [← hI1, hd]; simp [gOuts]
   ·rw [← hI2, hd]; rfl
   ·simp only [gFresh, List.length_append, List.length_cons, List.length_nil]
    omega
   simp [hIa]
  refine Tr.exit <| tQ ?_
  have hge : ts.length ≤ i := by simpa using hc10
  rw [List.drop_eq_nil_of_le hge] at hI1 hI2
  simp only [gOuts, List.append_nil] at hI1 hI2
  subst hI2
  rw [← hI1]
  refine tG <| sm 2 rfl <| nL <| Tr.ret <| ret_ok rfl rfl (po3 rfl rfl rfl)
set_option maxRecDepth 20000
theorem sc_gSimple (l : List UInt8) (seen : List Int) (g : Gn) (hs : InR g.types seen) (hb : g.pos ≤ 999980) (hbt : g.types.length ≤ 999990) (hsl : seen.length ≤ 1000000) : SC Tryz.prog 68 [.ptr 2001 0, .sl 2003 (seen.map eInt).length] (gHs l g seen) (fun _ => False) (.pv (ndv (gSimple l seen g).1)) (gHs l (gSimple l seen g).2 seen) := by
  refine SC.sameR (SC.vc tb {} [] Tryz.func68 rfl rfl ?_) fun k _ h => h.elim
  have h0 := sc_gPick l 12 g (by omega) (by omega)
  have h12 : (gPick l 12 g).1 < 12 := gPick_lt (by omega)
  have hp : (gPick l 12 g).2.pos = g.pos + 1 := by simp only [gPick]
  have hs1 : InR (gPick l 12 g).2.types seen := by simp only [gPick]; exact hs
  have ht : (gPick l 12 g).2.types.length = g.types.length := by simp only [gPick]
  unfold gSimple
  generalize gPick l 12 g = A at h0 h12 hp hs1 ht ⊢
  obtain ⟨k, g1⟩ := A
  dsimp only at h0 h12 hp hs1 ht ⊢
  have hN : (gNums.map eInt)[(gPick l 6 g1).1]? = some [vInt (gNums.getD (gPick l 6 g1).1 0)] := getD_at (gPick_lt (by omega))
  have hO : (gOnes.map eInt)[(gPick l 4 g1).1]? = some [vInt (gOnes.getD (gPick l 4 g1).1 0)] := getD_at (gPick_lt (by omega))
  have hp11 : (gPick l 11 g1).1 < 11 := gPick_lt (by omega)
  have hp6 : (gPick l 6 g1).1 < 6 := gPick_lt (by omega)
  have hk : k = 0 ∨ k = 1 ∨ k = 2 ∨ k = 3 ∨ k = 4 ∨ k = 5 ∨ k = 6 ∨ k = 7 ∨ k = 8 ∨ k = 9 ∨ k = 10 ∨ k = 11 := by omega
  rcases hk with rfl | rfl | rfl | rfl | rfl | rfl | rfl | rfl | rfl | rfl | rfl | rfl
  · exact ⟨[], h0, sR, ⟨rfl, rfl, trivial⟩, rfl, [], sc_gPick l 6 g1 (by omega) (by omega), sR, ⟨rfl, rfl, trivial⟩, rfl, hN, rfl, [], sc_gOuts l [1] (gPick l 6 g1).2 (by simp [gPick, gEach_st]; omega), sR, ⟨rfl, rfl, trivial⟩, rfl, sP (nilP_agg _), rfl, rfl, rfl, trivial⟩
  · exact ⟨[], h0, sR, ⟨rfl, rfl, trivial⟩, rfl, [], sc_gPick l 2 g1 (by omega) (by omega), sR, ⟨rfl, rfl, trivial⟩, rfl, [], sc_gOuts l [2] (gPick l 2 g1).2 (by simp [gPick, gEach_st]; omega), sR, ⟨rfl, rfl, trivial⟩, rfl, sP (nilP_agg _), rfl, rfl, rfl, trivial⟩
  · exact ⟨[], h0, sR, ⟨rfl, rfl, trivial⟩, rfl, [], sc_gPick l 4 g1 (by omega) (by omega), sR, ⟨rfl, rfl, trivial⟩, rfl, hO, rfl, [], sc_gEach l seen [1] (gPick l 4 g1).2 hs1 (by simp [gPick]; omega) hsl, sR, ⟨rfl, rfl, rfl, trivial⟩, rfl, [], sc_gOuts l [1] (gEach l seen [1] (gPick l 4 g1).2).2 (by simp [gPick, gEach_st]; omega), sR, ⟨rfl, rfl, trivial⟩, rfl, sP (nilP_agg _), rfl, rfl, rfl, trivial⟩
  · exact ⟨[], h0, sR, ⟨rfl, rfl, trivial⟩, rfl, [], sc_gEach l seen [2] g1 hs1 (by simp [gPick]; omega) hsl, sR, ⟨rfl, rfl, rfl, trivial⟩, rfl, [], sc_gOuts l [2] (gEach l seen [2] g1).2 (by simp [gPick, gEach_st]; omega), sR, ⟨rfl, rfl, trivial⟩, rfl, sP (nilP_agg _), rfl, rfl, rfl, trivial⟩
  · exact ⟨[], h0, sR, ⟨rfl, rfl, trivial⟩, rfl, [], sc_gPick l 11 g1 (by omega) (by omega), sR, ⟨rfl, rfl, trivial⟩, rfl, i64_add rfl (by omega), [], sc_gEach l seen [1, 1] (gPick l 11 g1).2 hs1 (by simp [gPick]; omega) hsl, sR, ⟨rfl, rfl, rfl, trivial⟩, rfl, [], sc_gOuts l [1] (gEach l seen [1, 1] (gPick l 11 g1).2).2 (by simp [gPick, gEach_st]; omega), sR, ⟨rfl, rfl, trivial⟩, rfl, sP (nilP_agg _), rfl, rfl, rfl, trivial⟩
  · exact ⟨[], h0, sR, ⟨rfl, rfl, trivial⟩, rfl, [], sc_gPick l 11 g1 (by omega) (by omega), sR, ⟨rfl, rfl, trivial⟩, rfl, i64_add rfl (by omega), [], sc_gEach l seen [1, 1] (gPick l 11 g1).2 hs1 (by simp [gPick]; omega) hsl, sR, ⟨rfl, rfl, rfl, trivial⟩, rfl, [], sc_gOuts l [1] (gEach l seen [1, 1] (gPick l 11 g1).2).2 (by simp [gPick, gEach_st]; omega), sR, ⟨rfl, rfl, trivial⟩, rfl, sP (nilP_agg _), rfl, rfl, rfl, trivial⟩
  · exact ⟨[], h0, sR, ⟨rfl, rfl, trivial⟩, rfl, [], sc_gPick l 11 g1 (by omega) (by omega), sR, ⟨rfl, rfl, trivial⟩, rfl, i64_add rfl (by omega), [], sc_gEach l seen [1, 1] (gPick l 11 g1).2 hs1 (by simp [gPick]; omega) hsl, sR, ⟨rfl, rfl, rfl, trivial⟩, rfl, [], sc_gOuts l [1] (gEach l seen [1, 1] (gPick l 11 g1).2).2 (by simp [gPick, gEach_st]; omega), sR, ⟨rfl, rfl, trivial⟩, rfl, sP (nilP_agg _), rfl, rfl, rfl, trivial⟩
  · exact ⟨[], h0, sR, ⟨rfl, rfl, trivial⟩, rfl, [], sc_gPick l 6 g1 (by omega) (by omega), sR, ⟨rfl, rfl, trivial⟩, rfl, i64_add rfl (by omega), [], sc_gEach l seen [1, 1] (gPick l 6 g1).2 hs1 (by simp [gPick]; omega) hsl, sR, ⟨rfl, rfl, rfl, trivial⟩, rfl, [], sc_gOuts l [2] (gEach l seen [1, 1] (gPick l 6 g1).2).2 (by simp [gPick, gEach_st]; omega), sR, ⟨rfl, rfl, trivial⟩, rfl, sP (nilP_agg _), rfl, rfl, rfl, trivial⟩
  · exact ⟨[], h0, sR, ⟨rfl, rfl, trivial⟩, rfl, [], sc_gPick l 6 g1 (by omega) (by omega), sR, ⟨rfl, rfl, trivial⟩, rfl, i64_add rfl (by omega), [], sc_gEach l seen [1, 1] (gPick l 6 g1).2 hs1 (by simp [gPick]; omega) hsl, sR, ⟨rfl, rfl, rfl, trivial⟩, rfl, [], sc_gOuts l [2] (gEach l seen [1, 1] (gPick l 6 g1).2).2 (by simp [gPick, gEach_st]; omega), sR, ⟨rfl, rfl, trivial⟩, rfl, sP (nilP_agg _), rfl, rfl, rfl, trivial⟩
  · exact ⟨[], h0, sR, ⟨rfl, rfl, trivial⟩, rfl, [], sc_gEach l seen [1] g1 hs1 (by simp [gPick]; omega) hsl, sR, ⟨rfl, rfl, rfl, trivial⟩, rfl, [], sc_gOuts l [1] (gEach l seen [1] g1).2 (by simp [gPick, gEach_st]; omega), sR, ⟨rfl, rfl, trivial⟩, rfl, sP (nilP_agg _), rfl, rfl, rfl, trivial⟩
  · exact ⟨[], h0, sR, ⟨rfl, rfl, trivial⟩, rfl, [], sc_gEach l seen [1, 1] g1 hs1 (by simp [gPick]; omega) hsl, sR, ⟨rfl, rfl, rfl, trivial⟩, rfl, sP (nilP_agg _), rfl, rfl, rfl, trivial⟩
  · have h4 := sc_gPick l 4 g1 (by omega) (by omega)
    have hl4 : (gPick l 4 g1).1 < 4 := gPick_lt (by omega)
    have hp4 : (gPick l 4 g1).2.pos = g1.pos + 1 := by simp only [gPick]
    have hs4 : InR (gPick l 4 g1).2.types seen := by simp only [gPick]; exact hs1
    have ht4 : (gPick l 4 g1).2.types.length = g1.types.length := by simp only [gPick]
    generalize gPick l 4 g1 = A at h4 hl4 hp4 hs4 ht4 ⊢
    obtain ⟨j, g2⟩ := A
    dsimp only at h4 hl4 hp4 hs4 ht4 ⊢
    have hj : j = 0 ∨ j = 1 ∨ j = 2 ∨ j = 3 := by omega
    rcases hj with rfl | rfl | rfl | rfl
    · exact ⟨[], h0, sR, ⟨rfl, rfl, trivial⟩, rfl, [], h4, sR, ⟨rfl, rfl, trivial⟩, rfl, [], sc_gEach l seen [1, 2] g2 hs4 (by simp [gPick]; omega) hsl, sR, ⟨rfl, rfl, rfl, trivial⟩, rfl, [], sc_gOuts l [1] (gEach l seen [1, 2] g2).2 (by simp [gPick, gEach_st]; omega), sR, ⟨rfl, rfl, trivial⟩, rfl, sP (nilP_agg _), rfl, rfl, rfl, trivial⟩
    · exact ⟨[], h0, sR, ⟨rfl, rfl, trivial⟩, rfl, [], h4, sR, ⟨rfl, rfl, trivial⟩, rfl, [], sc_gOuts l [1] g2 (by simp [gPick, gEach_st]; omega), sR, ⟨rfl, rfl, trivial⟩, rfl, sP (nilP_agg _), rfl, rfl, rfl, trivial⟩
    · exact ⟨[], h0, sR, ⟨rfl, rfl, trivial⟩, rfl, [], h4, sR, ⟨rfl, rfl, trivial⟩, rfl, [], sc_gEach l seen [1] g2 hs4 (by simp [gPick]; omega) hsl, sR, ⟨rfl, rfl, rfl, trivial⟩, rfl, sP (nilP_agg _), rfl, rfl, rfl, trivial⟩
    · exact ⟨[], h0, sR, ⟨rfl, rfl, trivial⟩, rfl, [], h4, sR, ⟨rfl, rfl, trivial⟩, rfl, [], sc_gEach l seen [1] g2 hs4 (by simp [gPick]; omega) hsl, sR, ⟨rfl, rfl, rfl, trivial⟩, rfl, sP (nilP_agg _), rfl, rfl, rfl, trivial⟩
set_option maxRecDepth 20000
set_option maxHeartbeats 2000000
theorem sc_gEnd (l : List UInt8) (seen : List Int) (p : Plc) (g : Gn) (hs : InR g.types seen) (hb : g.pos ≤ 999980) (hsl : seen.length ≤ 1000000) (hp1 : p.Yield.length ≤ 2) (hp2 : p.Next.length ≤ 2) (hp3 : p.Left.length ≤ 2) : SC Tryz.prog 72 [.ptr 2001 0, .sl 2003 (seen.map eInt).length, .pv (plcv p)] (gHs l g seen) (fun _ => False) (.pv (ndv (gEnd l seen p g).1)) (gHs l (gEnd l seen p g).2 seen) := by
  refine SC.sameR (SC.vc tb {} [] Tryz.func72 rfl rfl ?_) fun k _ h => h.elim
  have h0 := sc_gPick l 6 g (by omega) (by omega)
  have h6 : (gPick l 6 g).1 < 6 := gPick_lt (by omega)
  have hp : (gPick l 6 g).2.pos = g.pos + 1 := by simp only [gPick]
  have hs1 : InR (gPick l 6 g).2.types seen := by simp only [gPick]; exact hs
  unfold gEnd
  generalize gPick l 6 g = A at h0 h6 hp hs1 ⊢
  obtain ⟨k, g1⟩ := A
  obtain ⟨b1, b2, Y, N, L⟩ := p
  dsimp only at h0 h6 hp hs1 hp1 hp2 hp3 ⊢
  rcases (show k = 0 ∨ k = 1 ∨ k = 2 ∨ k = 3 ∨ k = 4 ∨ k = 5 by omega) with rfl | rfl | rfl | rfl | rfl | rfl <;> cases b1 <;> cases b2 <;> first
    | exact ⟨[], h0, sR, ⟨rfl, rfl, trivial⟩, rfl, [], sc_gEach l seen Y g1 hs1 (by omega) hsl, sR, ⟨rfl, rfl, rfl, trivial⟩, rfl, sP (nilP_agg _), rfl, rfl, rfl, trivial⟩
    | exact ⟨[], h0, sR, ⟨rfl, rfl, trivial⟩, rfl, [], sc_gEach l seen N g1 hs1 (by omega) hsl, sR, ⟨rfl, rfl, rfl, trivial⟩, rfl, sP (nilP_agg _), rfl, rfl, rfl, trivial⟩
    | exact ⟨[], h0, sR, ⟨rfl, rfl, trivial⟩, rfl, rfl, [], sc_gEach l seen N g1 hs1 (by omega) hsl, sR, ⟨rfl, rfl, rfl, trivial⟩, rfl, sP (nilP_agg _), rfl, rfl, rfl, trivial⟩
    | exact ⟨[], h0, sR, ⟨rfl, rfl, trivial⟩, rfl, [], sc_gEach l seen L g1 hs1 (by omega) hsl, sR, ⟨rfl, rfl, rfl, trivial⟩, rfl, sP (nilP_agg _), rfl, rfl, rfl, trivial⟩
    | exact ⟨[], h0, sR, ⟨rfl, rfl, trivial⟩, rfl, rfl, [], sc_gEach l seen L g1 hs1 (by omega) hsl, sR, ⟨rfl, rfl, rfl, trivial⟩, rfl, sP (nilP_agg _), rfl, rfl, rfl, trivial⟩
    | exact ⟨[], h0, sR, ⟨rfl, rfl, trivial⟩, rfl, [], sc_gEach l seen [1] g1 hs1 (by simp only [List.length_cons, List.length_nil]; omega) hsl, sR, ⟨rfl, rfl, rfl, trivial⟩, rfl, sP (nilP_agg _), rfl, rfl, rfl, trivial⟩
    | exact ⟨[], h0, sR, ⟨rfl, rfl, trivial⟩, rfl, rfl, [], sc_gEach l seen [1] g1 hs1 (by simp only [List.length_cons, List.length_nil]; omega) hsl, sR, ⟨rfl, rfl, rfl, trivial⟩, rfl, sP (nilP_agg _), rfl, rfl, rfl, trivial⟩
def qS (l : List UInt8) (all : List Int) (g1 : Gn) (m1 : Nat) : Nd × Gn := gSimple l all { g1 with left := m1 }
def qK (l : List UInt8) (all : List Int) (g1 : Gn) (m1 : Nat) : Nat × Gn := gPick l 6 (qS l all g1 m1).2
def qT (l : List UInt8) (all : List Int) (g1 : Gn) (m1 : Nat) : List Int × Gn := gTypes l (qK l all g1 m1).2
def qC (l : List UInt8) (all : List Int) (g1 : Gn) (m1 : Nat) : List Int × Gn := gEach l all [2] (qT l all g1 m1).2
def qP (l : List UInt8) (all : List Int) (g1 : Gn) (m1 : Nat) (p : Plc) : Plc := ⟨true, p.Loop, (qT l all g1 m1).1, p.Next, p.Left⟩
def qA (l : List UInt8) (m : Nat) (all : List Int) (p : Plc) (g1 : Gn) (m1 : Nat) : List Nd × Gn := gList l m all (qP l all g1 m1 p) (qC l all g1 m1).2
def qB (l : List UInt8) (m : Nat) (all : List Int) (p : Plc) (g1 : Gn) (m1 : Nat) : List Nd × Gn := gList l m all (qP l all g1 m1 p) (qA l m all p g1 m1).2
def qO (l : List UInt8) (all : List Int) (g1 : Gn) (m1 : Nat) : List Int × Gn := gTypes l (qT l all g1 m1).2
def qE (l : List UInt8) (all : List Int) (g1 : Gn) (m1 : Nat) : List Int × Gn := gEach l all (qT l all g1 m1).1 (qO l all g1 m1).2
def qQ (l : List UInt8) (all : List Int) (g1 : Gn) (m1 : Nat) : List Int × Gn := gOuts (qT l all g1 m1).1 (qE l all g1 m1).2
def qL (l : List UInt8) (all : List Int) (g1 : Gn) (m1 : Nat) : Plc := ⟨false, true, [], (qT l all g1 m1).1, (qO l all g1 m1).1⟩
def qD (l : List UInt8) (m : Nat) (all : List Int) (g1 : Gn) (m1 : Nat) : List Nd × Gn := gList l m (all ++ (qQ l all g1 m1).1) (qL l all g1 m1) (qQ l all g1 m1).2
def gHr (k : Nat) (l : List UInt8) (g : Gn) (seen : List Int) : List (Nat × HO) := [(2001, genBox l g), (2002, rowI g.types), (k, rowI seen)]
theorem sc_gEachA (l : List UInt8) (seen ts : List Int) (g : Gn) (hs : InR g.types seen) (hb : g.pos + ts.length ≤ 1000000) (hsl : seen.length ≤ 1000000) : SC Tryz.prog 70 [.ptr 2001 0, .sl 2010 (seen.map eInt).length, .pv (ints ts)] (gHr 2010 l g seen) (fun _ => False) (.pv (ints (gEach l seen ts g).1)) (gHr 2010 l (gEach l seen ts g).2 seen) := SC.sw 2003 2010 (sc_gEach l seen ts g hs hb hsl)
theorem sc_gSimpleA (l : List UInt8) (seen : List Int) (g : Gn) (hs : InR g.types seen) (hb : g.pos ≤ 999980) (hbt : g.types.length ≤ 999990) (hsl : seen.length ≤ 1000000) : SC Tryz.prog 68 [.ptr 2001 0, .sl 2010 (seen.map eInt).length] (gHr 2010 l g seen) (fun _ => False) (.pv (ndv (gSimple l seen g).1)) (gHr 2010 l (gSimple l seen g).2 seen) := SC.sw 2003 2010 (sc_gSimple l seen g hs hb hbt hsl)
theorem sc_gEndA (l : List UInt8) (seen : List Int) (p : Plc) (g : Gn) (hs : InR g.types seen) (hb : g.pos ≤ 999980) (hsl : seen.length ≤ 1000000) (hp : p.small) : SC Tryz.prog 72 [.ptr 2001 0, .sl 2010 (seen.map eInt).length, .pv (plcv p)] (gHr 2010 l g seen) (fun _ => False) (.pv (ndv (gEnd l seen p g).1)) (gHr 2010 l (gEnd l seen p g).2 seen) := SC.sw 2003 2010 (sc_gEnd l seen p g hs hb hsl hp.1 hp.2.1 hp.2.2)
def LSCg (l : List UInt8) (d : Nat) : Prop := ∀ (seen : List Int) (p : Plc) (g : Gn), InR g.types seen → p.small → g.pos + 60 * g.left ≤ 900000 → g.types.length + 10 * g.left ≤ 900000 → seen.length + 10 * g.left ≤ 900000 →
  SC Tryz.prog 45 [.ptr 2001 0, .sl 2003 (seen.map eInt).length, .pv (plcv p), iInt (d : Int)] (gHs l g seen) (fun _ => False) (.pv (nodes (gList l d seen p g).1)) (gHs l (gList l d seen p g).2 seen)
theorem LSCg.at2010 {l : List UInt8} {d : Nat} (h : LSCg l d) (seen : List Int) (p : Plc) (g : Gn) (h1 : InR g.types seen) (h2 : p.small) (h3 : g.pos + 60 * g.left ≤ 900000) (h4 : g.types.length + 10 * g.left ≤ 900000) (h5 : seen.length + 10 * g.left ≤ 900000) :
    SC Tryz.prog 45 [.ptr 2001 0, .sl 2010 (seen.map eInt).length, .pv (plcv p), iInt (d : Int)] (gHr 2010 l g seen) (fun _ => False) (.pv (nodes (gList l d seen p g).1)) (gHr 2010 l (gList l d seen p g).2 seen) := SC.sw 2003 2010 (h seen p g h1 h2 h3 h4 h5)
theorem LSCg.at2019 {l : List UInt8} {d : Nat} (h : LSCg l d) (seen : List Int) (p : Plc) (g : Gn) (h1 : InR g.types seen) (h2 : p.small) (h3 : g.pos + 60 * g.left ≤ 900000) (h4 : g.types.length + 10 * g.left ≤ 900000) (h5 : seen.length + 10 * g.left ≤ 900000) :
    SC Tryz.prog 45 [.ptr 2001 0, .sl 2019 (seen.map eInt).length, .pv (plcv p), iInt (d : Int)] (gHr 2019 l g seen) (fun _ => False) (.pv (nodes (gList l d seen p g).1)) (gHr 2019 l (gList l d seen p g).2 seen) := SC.sw 2003 2019 (h seen p g h1 h2 h3 h4 h5)
theorem sc_gList0 (l : List UInt8) (d : Nat) (hd3 : d ≤ 100) (ih : ∀ m, d = m + 1 → LSCg l m) (seen : List Int) (p : Plc) (g : Gn) (hs : InR g.types seen) (hp : p.small) (hb1 : g.pos + 60 * g.left ≤ 900000) (hb2 : g.types.length + 10 * g.left ≤ 900000) (hb3 : seen.length + 10 * g.left ≤ 900000) : SC Tryz.prog 45 [.ptr 2001 0, .sl 2003 (seen.map eInt).length, .pv (plcv p), iInt (d : Int)] (gHs l g seen) (fun _ => False) (.pv (nodes (gList l d seen p g).1)) (gHs l (gList l d seen p g).2 seen) := by
  refine SC.of Tryz.func45 rfl (lb rfl) fun F ρ w => ?_
  have h6 : (gPick l 6 g).1 < 6 := gPick_lt (by omega)
  have hsl0 : (seen.map eInt).length = seen.length := by simp
  refine tQ <| tG <| cE rfl (ok_box rfl rfl) <| sm 1 rfl <| nL <| tQ <| tG <| sm 1 rfl <| nL <| tQ <| tG <| sm 1 rfl ?_
  refine nL <| tQ <| Tr.grow (t := 10) (k := 2010) ⟨3, 1⟩ rfl rfl rfl rfl rfl <| tG <| sm 2 rfl ?_
  refine cE rfl (ok_append_row rfl rfl rfl rfl rfl rfl rfl (by simp) Tryz.underlying35 tB3 (by decide) hw_int hone_int (by simp [maxLen]; omega) (by simp; omega)) ?_
  refine sm 1 rfl <| nL <| tQ <| tQ <| Tr.grow (t := 9) (k := 109) ⟨38, 8⟩ rfl rfl rfl rfl rfl <| tG <| sm 1 rfl <| cE rfl (ocr (sc_gPick l 6 g (by omega) (by omega)) ent67 rfl (po2 rfl rfl) rfl (fun k (h : _) => .inr h) rfl rfl) <| sm 1 rfl <| nL <| Tr.block <| Tr.sub (Sub.of (fr' := [(11, iInt (((gPick l 6 g).1 : Nat) : Int)), (10, .sl 2010 (seen.map eInt).length), (9, .sl 109 (([] : List Nd).map Nd.enc).length), (6, .pv (.ept [vBool p.If, vBool p.Loop, ints p.Yield, ints p.Next, ints p.Left] 0)), (0, .ptr 2001 0), (3, iInt (d : Int))]) ⟨rfl, congrArg (fun z => some (IV.sl _ z)) (by simp), rfl, rfl, rfl, rfl, trivial⟩) ?_
  refine Tr.heap (σ' := look [(109, some (.row ⟨38, 8⟩ (([] : List Nd).map Nd.enc))), (2010, some (rowI seen)), (2001, some (genBox l (gPick l 6 g).2)), (2002, some (rowI (gPick l 6 g).2.types)), (2003, some (rowI seen))]) (lkq [109, 2010, 2001, 2002, 2003] rfl rfl ⟨rfl, (congrArg (fun z => some (HO.row _ z)) (by simp)), rfl, rfl, rfl, trivial⟩) ?_
  refine Tr.loop (fun fr σ m => ∃ (n : Nat) (out : List Nd) (all : List Int) (g1 : Gn), (gNodes l (gRec l d) p n out all g1 = gList l d seen p g) ∧ (InR g1.types all) ∧ (g1.pos + 60 * g1.left ≤ 900001) ∧ (g1.types.length + 10 * g1.left ≤ 900000) ∧ (all.length + 10 * g1.left ≤ 900000) ∧ (out.length + n ≤ 5) ∧ fr = [(11, iInt ((n : Nat) : Int)), (10, .sl 2010 (all.map eInt).length), (9, .sl 109 (out.map Nd.enc).length), (6, .pv (.ept [vBool p.If, vBool p.Loop, ints p.Yield, ints p.Next, ints p.Left] 0)), (0, .ptr 2001 0), (3, iInt (d : Int))] ∧ σ = look [(109, some (.row ⟨38, 8⟩ (out.map Nd.enc))), (2010, some (rowI all)), (2001, some (genBox l g1)), (2002, some (rowI g1.types)), (2003, some (rowI seen))] ∧ m = n + 1) (n := (gPick l 6 g).1 + 1) ?_ ?_
  ·exact ⟨(gPick l 6 g).1, ([] : List Nd), seen, (gPick l 6 g).2, (gList_eq l d seen p g).symm, hs, (by simp only [gPick]; omega), hb2, hb3, (by simp; omega), rfl, rfl, rfl⟩
  rintro fr σ m ⟨n, out, all, g1, hI, hIn, hIp, hIt, hIa, hIo, rfl, rfl, rfl⟩
  refine tQ <| tQ <| tG <| sm 3 rfl ?_
  refine wS 27 rfl (fun hb27 => ?_) fun hb27 => ?_
  ·refine sm 1 rfl <| yV rfl rfl (ok_nilCheck rfl rfl rfl) <| sm 4 rfl <| nL ?_
   refine tC rfl (fun hc33 => ?_) fun hc33 => ?_
   ·refine Tr.skip <| tQ <| Tr.block <| tQ ?_
    have hn0 : 0 < n := by simpa using hb27
    obtain ⟨n1, rfl⟩ : ∃ n1, n = n1 + 1 := ⟨n - 1, by omega⟩
    have hl0 : 0 < g1.left := by simpa using hc33
    have hleft : ¬ g1.left = 0 := by omega
    obtain ⟨m1, hm1⟩ : ∃ m1, g1.left = m1 + 1 := ⟨g1.left - 1, by omega⟩
    have hXb := bd_any l (gRec_bd l d) all p hp g1 hl0
    have hXo := any_outs l (rec := gRec l d) all p g1
    have hXl : (gAny l (gRec l d) all p g1).2.left + 1 ≤ g1.left := any_left l (gRec_bd l d) all p hp g1 hl0
    refine tG <| sm 2 rfl <| cV rfl (ok_nilCheck rfl rfl rfl) <| sm 2 rfl <| cV rfl (oB rfl rfl (i64_sub rfl (by omega))) <| cV rfl (ok_nilCheck rfl rfl rfl) <| sm 1 rfl <| c0 (ok_store_box rfl rfl rfl rfl ((fun h => h)) tS3 (rfl) (lb rfl)) <| nL <| tQ <| Tr.heap (σ' := look [(109, some (.row ⟨38, 8⟩ (out.map Nd.enc))), (2010, some (rowI all)), (2001, some (genBox l { g1 with left := m1 })), (2002, some (rowI { g1 with left := m1 }.types)), (2003, some (rowI seen))]) (lkq [2001, 109, 2010, 2002, 2003] rfl rfl ⟨(by exact congrArg (fun z => some (HO.box [.pv (bts l), iInt (g1.pos : Int), .sl 2002 (g1.types.map eInt).length, iInt z])) (by show (g1.left : Int) - 1 = (m1 : Int); omega)), rfl, rfl, rfl, rfl, trivial⟩) <| tG ?_
    refine sm 2 rfl <| cE rfl (ocr (sc_gSimpleA l all { g1 with left := m1 } hIn (by show g1.pos ≤ 999980; omega) (by show g1.types.length ≤ 999990; omega) (by omega)) ent68 rfl (po3 rfl rfl rfl) rfl (fun k (h : _) => .inr h) rfl rfl) <| cE rfl (ok_alloc (k := 112) rfl tZ38 rfl rfl rfl rfl) <| c0 (ok_store_box_agg rfl rfl rfl rfl rfl ((fun h => h)) tS38 (firmL_ok rfl) (lb rfl)) <| nL <| tQ ?_
    have e2 : ({ g1 with left := g1.left - 1 } : Gn) = { g1 with left := m1 } := by rw [hm1]; rfl
    have hSb : Bd 4 1 { g1 with left := m1 } (qS l all g1 m1).2 := bd_simple l all { g1 with left := m1 }
    have hS1 := hSb.ps
    have hS2 := hSb.t1
    have hS3 := hSb.t2
    have hS4 := hSb.lf
    have hKb : Bd 1 0 (qS l all g1 m1).2 (qK l all g1 m1).2 := bd_pick l 6 (qS l all g1 m1).2
    have hK1 := hKb.ps
    have hK2 := hKb.t1
    have hK3 := hKb.t2
    have hK4 := hKb.lf
    dsimp only at hS1 hS2 hS3 hS4
    refine tG <| sm 1 rfl <| cE rfl (ocr (sc_gPick l 6 (qS l all g1 m1).2 (by omega) (by omega)) ent67 rfl (po2 rfl rfl) rfl (fun k (h : _) => .inr h) rfl rfl) <| sm 1 rfl <| nL <| tQ ?_
    refine Tr.cut (fr' := [(12, .ptr 112 0), (11, iInt ((n1 + 1 : Nat) : Int)), (10, .sl 2010 (all.map eInt).length), (9, .sl 109 (out.map Nd.enc).length), (6, .pv (.ept [vBool p.If, vBool p.Loop, ints p.Yield, ints p.Next, ints p.Left] 0)), (0, .ptr 2001 0), (3, iInt (d : Int))]) (σ' := look [(112, some (.box [.pv (vInt (gAny l (gRec l d) all p g1).1.kind), .pv (vInt (gAny l (gRec l d) all p g1).1.op), .pv (vInt (gAny l (gRec l d) all p g1).1.n), .pv (vStr (gAny l (gRec l d) all p g1).1.name), .pv (ints (gAny l (gRec l d) all p g1).1.args), .pv (ints (gAny l (gRec l d) all p g1).1.outs), .pv (ints (gAny l (gRec l d) all p g1).1.params), .pv (kids (gAny l (gRec l d) all p g1).1.kids)])), (109, some (.row ⟨38, 8⟩ (out.map Nd.enc))), (2010, some (rowI all)), (2001, some (genBox l (gAny l (gRec l d) all p g1).2)), (2002, some (rowI (gAny l (gRec l d) all p g1).2.types)), (2003, some (rowI seen))]) ?_ ?_
    ·refine Tr.block <| tQ <| tG <| sm 3 rfl ?_
     refine wS 52 rfl (fun hb52 => ?_) fun hb52 => ?_
     ·refine sm 4 rfl <| nL ?_
      refine tC rfl (fun hc49 => ?_) fun hc49 => ?_
      ·have hk0 : (gPick l 6 (qS l all g1 m1).2).1 = 0 := by simp at hb52; omega
       obtain ⟨m, rfl⟩ : ∃ m, d = m + 1 := ⟨d - 1, by simp at hc49; omega⟩
       obtain ⟨hTb, hTl⟩ : Bd 3 0 (qK l all g1 m1).2 (qT l all g1 m1).2 ∧ (qT l all g1 m1).1.length ≤ 2 := bd_types l (qK l all g1 m1).2
       have hT1 := hTb.ps
       have hT2 := hTb.t1
       have hT3 := hTb.t2
       have hT4 := hTb.lf
       have hXP : Plc.small (qP l all g1 m1 p) := ⟨hTl, hp.2.1, hp.2.2⟩
       have hCb : Bd 1 0 (qT l all g1 m1).2 (qC l all g1 m1).2 := bd_each l all [2] (qT l all g1 m1).2
       have hC1 := hCb.ps
       have hC2 := hCb.t1
       have hC3 := hCb.t2
       have hC4 := hCb.lf
       have hAb : Bd 4 0 (qC l all g1 m1).2 (qA l m all p g1 m1).2 := bd_list l m all (qP l all g1 m1 p) (qC l all g1 m1).2 hXP
       have hA1 := hAb.ps
       have hA2 := hAb.t1
       have hA3 := hAb.t2
       have hA4 := hAb.lf
       have hBb : Bd 4 0 (qA l m all p g1 m1).2 (qB l m all p g1 m1).2 := bd_list l m all (qP l all g1 m1 p) (qA l m all p g1 m1).2 hXP
       have hB1 := hBb.ps
       have hB2 := hBb.t1
       have hB3 := hBb.t2
       have hB4 := hBb.lf
       refine tQ <| tG <| sm 1 rfl <| cE rfl (ocr (sc_gTypes l (qK l all g1 m1).2 (by omega)) ent69 rfl (po2 rfl rfl) rfl (fun k (h : _) => .inr h) rfl rfl) <| sm 1 rfl <| nL <| tQ <| tG <| sm 7 rfl <| cV rfl (ok_build_pure rfl rfl tZ86 tP86 rfl (firmB_ok rfl) rfl) <| cE rfl (ok_alloc (k := 115) rfl tZ86 rfl rfl rfl rfl) <| c0 (ok_store_box_agg rfl rfl rfl rfl rfl ((fun h => h)) tS86 (firmL_ok rfl) (lb rfl)) ?_
       refine nL <| tQ <| Tr.freezeBox (t := 15) (k := 115) rfl rfl rfl <| tG <| sm 2 rfl <| cE rfl (ok_buildSlice rfl rfl Tryz.underlying35 tZ3 tS3 rfl rfl rfl rfl (firmB_ok rfl) rfl) ?_
       refine cE rfl (ocr (sc_gEachA l all [2] (qT l all g1 m1).2 (hIn.mono (by omega)) (by simp only [List.length_cons, List.length_nil]; omega) (by omega)) ent70 rfl (po3 rfl rfl rfl) rfl (fun k (h : _) => .inr h) rfl rfl) ?_
       refine cV rfl (ok_build_pure rfl rfl tZ38 tP38 rfl (firmB_ok rfl) rfl) <| c0 (ok_store_box_agg rfl rfl rfl rfl rfl ((fun h => h)) tS38 (firmL_ok rfl) (lb rfl)) <| nL <| tQ <| Tr.fixNil (k := 112) rfl (fun h => h) <| tG <| sm 2 rfl <| cV rfl (ok_load_ept_agg rfl rfl Tryz.underlying86 rfl tS86 (lb rfl)) <| sm 1 rfl <| cV rfl (oB rfl rfl (i64_sub rfl (by omega))) <| cE rfl (ok_callr ((ih m rfl).at2010 all (qP l all g1 m1 p) (qC l all g1 m1).2 (hIn.mono (by omega)) hXP (by omega) (by omega) (by omega)) ent45 rfl rfl (Subs.same rfl (Subs.same rfl (Subs.same rfl (Subs.same (congrArg (fun z => iInt z) (by omega)) Subs.nil)))) (po3 rfl rfl rfl) (by rfl) (fun k (h : _) => .inr h) rfl (by rfl)) <| sm 1 rfl ?_
       refine nL <| tQ <| tG <| sm 3 rfl <| cV rfl (ok_load_ept_agg rfl rfl Tryz.underlying86 rfl tS86 (lb rfl)) <| sm 1 rfl <| cV rfl (oB rfl rfl (i64_sub rfl (by omega))) <| cE rfl (ok_callr ((ih m rfl).at2010 all (qP l all g1 m1 p) (qA l m all p g1 m1).2 (hIn.mono (by omega)) hXP (by omega) (by omega) (by omega)) ent45 rfl rfl (Subs.same rfl (Subs.same rfl (Subs.same rfl (Subs.same (congrArg (fun z => iInt z) (by omega)) Subs.nil)))) (po3 rfl rfl rfl) (by rfl) (fun k (h : _) => .inr h) rfl (by rfl)) <| cE rfl (ok_buildSlice rfl rfl Tryz.underlying36 tZ39 tS39 rfl rfl rfl rfl (firmB_ok rfl) rfl) <| sm 1 rfl <| c0 (ok_store_box rfl rfl rfl rfl ((fun h => h)) tS36 (rfl) (lb rfl)) <| nL ?_
       refine tQ <| tG <| cV rfl (ok_load_box_pure rfl rfl rfl Tryz.underlying38 rfl tS38 (lb rfl) rfl trivial) <| cE rfl (ocq (sc_r8Closed (.mk 10 0 0 nName (qC l all g1 m1).1 [] [] [(qA l m all p g1 m1).1, (qB l m all p g1 m1).1] : Nd)) ent71 rfl rfl) <| sm 1 rfl <| nL ?_
       refine tC rfl (fun hc88 => ?_) fun hc88 => ?_
       ·have hX : gAny l (gRec l (m + 1)) all p g1 = ((.mk 10 0 0 nName (qC l all g1 m1).1 (gOuts (qT l all g1 m1).1 (qB l m all p g1 m1).2).1 [] [(qA l m all p g1 m1).1, (qB l m all p g1 m1).1] : Nd), (gOuts (qT l all g1 m1).1 (qB l m all p g1 m1).2).2) := by
          have hcl : r8Closed (.mk 10 0 0 nName (qC l all g1 m1).1 [] [] [(qA l m all p g1 m1).1, (qB l m all p g1 m1).1] : Nd) = false := by simpa using hc88
          unfold gAny
          simp only [gRec, e2]
          exact (if_pos hk0).trans (if_neg (fun h => Bool.noConfusion (hcl.symm.trans h)))
        refine tG <| sm 2 rfl <| cE rfl (ocr (sc_gOuts l (qT l all g1 m1).1 (qB l m all p g1 m1).2 (by omega)) ent43 rfl (po2 rfl rfl) rfl (fun k (h : _) => .inr h) rfl rfl) <| sm 1 rfl <| c0 (ok_store_box rfl rfl rfl rfl ((fun h => h)) tS35 (rfl) (lb rfl)) <| nL ?_
        refine ⟨rfl, Sub.of ⟨rfl, rfl, rfl, rfl, rfl, rfl, rfl, trivial⟩, funext (lkq [112, 109, 2010, 2001, 2002, 2003, 115, 2019] rfl rfl ⟨(by first | rfl | (rw [hX]; rfl)), rfl, rfl, (by first | rfl | (rw [hX]; rfl)), (by first | rfl | (rw [hX]; rfl)), rfl, rfl, rfl, trivial⟩)⟩
       have hX : gAny l (gRec l (m + 1)) all p g1 = ((.mk 10 0 0 nName (qC l all g1 m1).1 [] [] [(qA l m all p g1 m1).1, (qB l m all p g1 m1).1] : Nd), (qB l m all p g1 m1).2) := by
         have hcl : r8Closed (.mk 10 0 0 nName (qC l all g1 m1).1 [] [] [(qA l m all p g1 m1).1, (qB l m all p g1 m1).1] : Nd) = true := by simpa using hc88
         unfold gAny
         simp only [gRec, e2]
         exact (if_pos hk0).trans (if_pos hcl)
       refine Tr.skip ?_
       refine ⟨rfl, Sub.of ⟨rfl, rfl, rfl, rfl, rfl, rfl, rfl, trivial⟩, funext (lkq [112, 109, 2010, 2001, 2002, 2003, 115, 2019] rfl rfl ⟨(by first | rfl | (rw [hX]; rfl)), rfl, rfl, (by first | rfl | (rw [hX]; rfl)), (by first | rfl | (rw [hX]; rfl)), rfl, rfl, rfl, trivial⟩)⟩
      refine tQ <| tG <| sm 3 rfl ?_
      refine wS 96 rfl (fun hb96 => ?_) fun hb96 => ?_
      ·refine sm 4 rfl <| nL ?_
       refine tC rfl (fun hc93 => ?_) fun hc93 => ?_
       ·have hk1 : (gPick l 6 (qS l all g1 m1).2).1 = 1 := by simp at hb96; omega
        obtain ⟨m, rfl⟩ : ∃ m, d = m + 1 := ⟨d - 1, by simp at hc93; omega⟩
        obtain ⟨hTb, hTl⟩ : Bd 3 0 (qK l all g1 m1).2 (qT l all g1 m1).2 ∧ (qT l all g1 m1).1.length ≤ 2 := bd_types l (qK l all g1 m1).2
        have hT1 := hTb.ps
        have hT2 := hTb.t1
        have hT3 := hTb.t2
        have hT4 := hTb.lf
        obtain ⟨hOb, hOl⟩ : Bd 3 0 (qT l all g1 m1).2 (qO l all g1 m1).2 ∧ (qO l all g1 m1).1.length ≤ 2 := bd_types l (qT l all g1 m1).2
        have hO1 := hOb.ps
        have hO2 := hOb.t1
        have hO3 := hOb.t2
        have hO4 := hOb.lf
        have hLP : Plc.small (qL l all g1 m1) := ⟨by simp [qL], hTl, hOl⟩
        have hCb : Bd (qT l all g1 m1).1.length 0 (qO l all g1 m1).2 (qE l all g1 m1).2 := bd_each l all (qT l all g1 m1).1 (qO l all g1 m1).2
        have hC1 := hCb.ps
        have hC2 := hCb.t1
        have hC3 := hCb.t2
        have hC4 := hCb.lf
        have hQb : Bd 0 (qT l all g1 m1).1.length (qE l all g1 m1).2 (qQ l all g1 m1).2 := bd_outs (qT l all g1 m1).1 (qE l all g1 m1).2
        have hQ1 := hQb.ps
        have hQ2 := hQb.t1
        have hQ3 := hQb.t2
        have hQ4 := hQb.lf
        have hQl : (qQ l all g1 m1).1.length = (qT l all g1 m1).1.length := (gOuts_st (qT l all g1 m1).1 (qE l all g1 m1).2).2
        have hInQ : InR (qQ l all g1 m1).2.types (all ++ (qQ l all g1 m1).1) := (hIn.mono (by omega)).app (InR.outs _ _)
        have hBb : Bd 4 0 (qQ l all g1 m1).2 (qD l m all g1 m1).2 := bd_list l m (all ++ (qQ l all g1 m1).1) (qL l all g1 m1) (qQ l all g1 m1).2 hLP
        have hB1 := hBb.ps
        have hB2 := hBb.t1
        have hB3 := hBb.t2
        have hB4 := hBb.lf
        have hQl2 : ((qQ l all g1 m1).1.map eInt).length = (qQ l all g1 m1).1.length := by simp
        have hal : (all.map eInt).length = all.length := by simp
        have hQl3 := (gOuts_st (qT l all g1 m1).1 (qE l all g1 m1).2).2
        refine tQ <| tG <| sm 1 rfl <| cE rfl (ocr (sc_gTypes l (qK l all g1 m1).2 (by omega)) ent69 rfl (po2 rfl rfl) rfl (fun k (h : _) => .inr h) rfl rfl) <| sm 1 rfl <| cE rfl (ocr (sc_gTypes l (qT l all g1 m1).2 (by omega)) ent69 rfl (po2 rfl rfl) rfl (fun k (h : _) => .inr h) rfl rfl) <| sm 2 rfl <| nL <| tQ <| tG <| sm 3 rfl <| cE rfl (ocr (sc_gEachA l all (qT l all g1 m1).1 (qO l all g1 m1).2 (hIn.mono (by omega)) (by omega) (by omega)) ent70 rfl (po3 rfl rfl rfl) rfl (fun k (h : _) => .inr h) rfl rfl) ?_
        refine sm 2 rfl <| cE rfl (ocr (sc_gOuts l (qT l all g1 m1).1 (qE l all g1 m1).2 (by omega)) ent43 rfl (po2 rfl rfl) rfl (fun k (h : _) => .inr h) rfl rfl) <| cV rfl (ok_build_pure rfl rfl tZ38 tP38 rfl (firmB_ok rfl) rfl) <| c0 (ok_store_box_agg rfl rfl rfl rfl rfl ((fun h => h)) tS38 (firmL_ok rfl) (lb rfl)) <| nL <| tQ <| Tr.fixNil (k := 112) rfl (fun h => h) <| tG <| sm 1 rfl <| nL <| tQ <| Tr.grow (t := 19) (k := 2019) ⟨3, 1⟩ rfl rfl rfl rfl rfl ?_
        refine tG <| sm 2 rfl ?_
        refine cE rfl (ok_append_row rfl rfl rfl rfl rfl rfl rfl (by simp) Tryz.underlying35 tB3 (by decide) hw_int hone_int (by simp [maxLen]; omega) (by simp; omega)) ?_
        refine sm 1 rfl <| nL <| tQ <| tG <| sm 3 rfl ?_
        refine cE rfl (ok_append rfl rfl rfl rfl (by (simp; done)) ((fun h => h)) Tryz.underlying35 tB3 (by decide) (hw_int) (hone_int) (by simp [maxLen, chunks]; omega) (by simp [chunks]; omega)) ?_
        refine sm 1 rfl <| nL <| tQ ?_
        refine Tr.heap (σ' := look [(2019, some (rowI (all ++ (qQ l all g1 m1).1))), (112, some (.box [.pv (vInt (.mk 11 0 0 nName (qE l all g1 m1).1 [] (qQ l all g1 m1).1 [] : Nd).kind), .pv (vInt (.mk 11 0 0 nName (qE l all g1 m1).1 [] (qQ l all g1 m1).1 [] : Nd).op), .pv (vInt (.mk 11 0 0 nName (qE l all g1 m1).1 [] (qQ l all g1 m1).1 [] : Nd).n), .pv (vStr (.mk 11 0 0 nName (qE l all g1 m1).1 [] (qQ l all g1 m1).1 [] : Nd).name), .pv (ints (.mk 11 0 0 nName (qE l all g1 m1).1 [] (qQ l all g1 m1).1 [] : Nd).args), .pv (ints (.mk 11 0 0 nName (qE l all g1 m1).1 [] (qQ l all g1 m1).1 [] : Nd).outs), .pv (ints (.mk 11 0 0 nName (qE l all g1 m1).1 [] (qQ l all g1 m1).1 [] : Nd).params), .pv (kids (.mk 11 0 0 nName (qE l all g1 m1).1 [] (qQ l all g1 m1).1 [] : Nd).kids)])), (109, some (.row ⟨38, 8⟩ (out.map Nd.enc))), (2010, some (rowI all)), (2001, some (genBox l (qQ l all g1 m1).2)), (2002, some (rowI (qQ l all g1 m1).2.types)), (2003, some (rowI seen))]) (lkq [2019, 112, 109, 2010, 2001, 2002, 2003] rfl rfl ⟨(congrArg (fun z => some (HO.row _ z)) (by simp [qQ])), rfl, rfl, rfl, rfl, rfl, rfl, trivial⟩) ?_
        refine tG <| sm 4 rfl <| cV rfl (ok_build_pure rfl rfl tZ86 tP86 rfl (firmB_ok rfl) rfl) <| sm 1 rfl <| cV rfl (oB rfl rfl (i64_sub rfl (by omega))) ?_
        refine cE rfl (ok_callr ((ih m rfl).at2019 (all ++ (qQ l all g1 m1).1) (qL l all g1 m1) (qQ l all g1 m1).2 hInQ hLP (by omega) (by omega) (by rw [List.length_append]; omega)) ent45 rfl rfl (Subs.same rfl (Subs.same (congrArg (fun n => IV.sl 2019 n) (by simp [qQ])) (Subs.cons (fun _ _ _ _ h => sub_pv (q := plcv (qL l all g1 m1)) (PSub.agg (ps := [vBool false, vBool true, .val (.slice none 0 0), ints (qT l all g1 m1).1, ints (qO l all g1 m1).1]) (And.intro (PSub.refl _) (And.intro (PSub.refl _) (And.intro PSub.nil (And.intro (PSub.refl _) (And.intro (PSub.refl _) trivial)))))) h) (Subs.same (congrArg (fun z => iInt z) (by omega)) Subs.nil)))) (po3 rfl rfl rfl) (by rfl) (fun k (h : _) => .inr h) rfl (by rfl)) ?_
        refine cE rfl (ok_buildSlice rfl rfl Tryz.underlying36 tZ39 tS39 rfl rfl rfl rfl (firmB_ok rfl) rfl) <| sm 1 rfl <| c0 (ok_store_box rfl rfl rfl rfl ((fun h => h)) tS36 (rfl) (lb rfl)) <| nL <| tQ <| Tr.drop (k := 2019) <| tG <| cV rfl (ok_load_box_pure rfl rfl rfl Tryz.underlying38 rfl tS38 (lb rfl) rfl trivial) <| cE rfl (ocq (sc_r8Closed (.mk 11 0 0 nName (qE l all g1 m1).1 [] (qQ l all g1 m1).1 [(qD l m all g1 m1).1] : Nd)) ent71 rfl rfl) <| sm 1 rfl <| nL ?_
        refine tC rfl (fun hc131 => ?_) fun hc131 => ?_
        ·have hX : gAny l (gRec l (m + 1)) all p g1 = ((.mk 11 0 0 nName (qE l all g1 m1).1 (gOuts (qO l all g1 m1).1 (qD l m all g1 m1).2).1 (qQ l all g1 m1).1 [(qD l m all g1 m1).1] : Nd), (gOuts (qO l all g1 m1).1 (qD l m all g1 m1).2).2) := by
           have hcl : r8Closed (.mk 11 0 0 nName (qE l all g1 m1).1 [] (qQ l all g1 m1).1 [(qD l m all g1 m1).1] : Nd) = false := by simpa using hc131
           have hk0 : ¬ (gPick l 6 (qS l all g1 m1).2).1 = 0 := by omega
           unfold gAny
           simp only [gRec, e2]
           exact (if_neg hk0).trans ((if_pos hk1).trans (if_neg (fun h => Bool.noConfusion (hcl.symm.trans h))))
         refine tG <| sm 2 rfl <| cE rfl (ocr (sc_gOuts l (qO l all g1 m1).1 (qD l m all g1 m1).2 (by omega)) ent43 rfl (po2 rfl rfl) rfl (fun k (h : _) => .inr h) rfl rfl) <| sm 1 rfl <| c0 (ok_store_box rfl rfl rfl rfl ((fun h => h)) tS35 (rfl) (lb rfl)) <| nL ?_
         refine ⟨rfl, Sub.of ⟨rfl, rfl, rfl, rfl, rfl, rfl, rfl, trivial⟩, funext (lkq [112, 109, 2010, 2001, 2002, 2003, 115, 2019] rfl rfl ⟨(by first | rfl | (rw [hX]; rfl)), rfl, rfl, (by first | rfl | (rw [hX]; rfl)), (by first | rfl | (rw [hX]; rfl)), rfl, rfl, rfl, trivial⟩)⟩
        have hX : gAny l (gRec l (m + 1)) all p g1 = ((.mk 11 0 0 nName (qE l all g1 m1).1 [] (qQ l all g1 m1).1 [(qD l m all g1 m1).1] : Nd), (qD l m all g1 m1).2) := by
          have hcl : r8Closed (.mk 11 0 0 nName (qE l all g1 m1).1 [] (qQ l all g1 m1).1 [(qD l m all g1 m1).1] : Nd) = true := by simpa using hc131
          have hk0 : ¬ (gPick l 6 (qS l all g1 m1).2).1 = 0 := by omega
          unfold gAny
          simp only [gRec, e2]
          exact (if_neg hk0).trans ((if_pos hk1).trans (if_pos hcl))
        refine Tr.skip ?_
        refine ⟨rfl, Sub.of ⟨rfl, rfl, rfl, rfl, rfl, rfl, rfl, trivial⟩, funext (lkq [112, 109, 2010, 2001, 2002, 2003, 115, 2019] rfl rfl ⟨(by first | rfl | (rw [hX]; rfl)), rfl, rfl, (by first | rfl | (rw [hX]; rfl)), (by first | rfl | (rw [hX]; rfl)), rfl, rfl, rfl, trivial⟩)⟩
       have hX : gAny l (gRec l d) all p g1 = ((qS l all g1 m1).1, (qK l all g1 m1).2) := by
         unfold gAny
         simp only [e2]
         cases d with
         | zero => rfl
         | succ m =>
           have hk0 : ¬ (gPick l 6 (qS l all g1 m1).2).1 = 0 := by first | (simp at hb52 <;> omega) | (simp at hc49 <;> omega)
           have hk1 : ¬ (gPick l 6 (qS l all g1 m1).2).1 = 1 := by first | (simp at hb96 <;> omega) | (simp at hc93 <;> omega)
           exact (if_neg hk0).trans (if_neg hk1)
       refine Tr.skip ?_
       refine ⟨rfl, Sub.of ⟨rfl, rfl, rfl, rfl, rfl, rfl, rfl, trivial⟩, funext (lkq [112, 109, 2010, 2001, 2002, 2003, 115, 2019] rfl rfl ⟨(by first | rfl | (rw [hX]; rfl)), rfl, rfl, (by first | rfl | (rw [hX]; rfl)), (by first | rfl | (rw [hX]; rfl)), rfl, rfl, rfl, trivial⟩)⟩
      refine sm 4 rfl <| nL <| Tr.condF rfl ?_
      have hX : gAny l (gRec l d) all p g1 = ((qS l all g1 m1).1, (qK l all g1 m1).2) := by
        unfold gAny
        simp only [e2]
        cases d with
        | zero => rfl
        | succ m =>
          have hk0 : ¬ (gPick l 6 (qS l all g1 m1).2).1 = 0 := by first | (simp at hb52 <;> omega) | (simp at hc49 <;> omega)
          have hk1 : ¬ (gPick l 6 (qS l all g1 m1).2).1 = 1 := by first | (simp at hb96 <;> omega) | (simp at hc93 <;> omega)
          exact (if_neg hk0).trans (if_neg hk1)
      refine Tr.skip ?_
      refine ⟨rfl, Sub.of ⟨rfl, rfl, rfl, rfl, rfl, rfl, rfl, trivial⟩, funext (lkq [112, 109, 2010, 2001, 2002, 2003, 115, 2019] rfl rfl ⟨(by first | rfl | (rw [hX]; rfl)), rfl, rfl, (by first | rfl | (rw [hX]; rfl)), (by first | rfl | (rw [hX]; rfl)), rfl, rfl, rfl, trivial⟩)⟩
     refine sm 4 rfl <| nL <| Tr.condF rfl <| tQ <| tG <| sm 3 rfl ?_
     refine wS 96 rfl (fun hb96 => ?_) fun hb96 => ?_
     ·refine sm 4 rfl <| nL ?_
      refine tC rfl (fun hc93 => ?_) fun hc93 => ?_
      ·have hk1 : (gPick l 6 (qS l all g1 m1).2).1 = 1 := by simp at hb96; omega
       obtain ⟨m, rfl⟩ : ∃ m, d = m + 1 := ⟨d - 1, by simp at hc93; omega⟩
       obtain ⟨hTb, hTl⟩ : Bd 3 0 (qK l all g1 m1).2 (qT l all g1 m1).2 ∧ (qT l all g1 m1).1.length ≤ 2 := bd_types l (qK l all g1 m1).2
       have hT1 := hTb.ps
       have hT2 := hTb.t1
       have hT3 := hTb.t2
       have hT4 := hTb.lf
       obtain ⟨hOb, hOl⟩ : Bd 3 0 (qT l all g1 m1).2 (qO l all g1 m1).2 ∧ (qO l all g1 m1).1.length ≤ 2 := bd_types l (qT l all g1 m1).2
       have hO1 := hOb.ps
       have hO2 := hOb.t1
       have hO3 := hOb.t2
       have hO4 := hOb.lf
       have hLP : Plc.small (qL l all g1 m1) := ⟨by simp [qL], hTl, hOl⟩
       have hCb : Bd (qT l all g1 m1).1.length 0 (qO l all g1 m1).2 (qE l all g1 m1).2 := bd_each l all (qT l all g1 m1).1 (qO l all g1 m1).2
       have hC1 := hCb.ps
       have hC2 := hCb.t1
       have hC3 := hCb.t2
       have hC4 := hCb.lf
       have hQb : Bd 0 (qT l all g1 m1).1.length (qE l all g1 m1).2 (qQ l all g1 m1).2 := bd_outs (qT l all g1 m1).1 (qE l all g1 m1).2
       have hQ1 := hQb.ps
       have hQ2 := hQb.t1
       have hQ3 := hQb.t2
       have hQ4 := hQb.lf
       have hQl : (qQ l all g1 m1).1.length = (qT l all g1 m1).1.length := (gOuts_st (qT l all g1 m1).1 (qE l all g1 m1).2).2
       have hInQ : InR (qQ l all g1 m1).2.types (all ++ (qQ l all g1 m1).1) := (hIn.mono (by omega)).app (InR.outs _ _)
       have hBb : Bd 4 0 (qQ l all g1 m1).2 (qD l m all g1 m1).2 := bd_list l m (all ++ (qQ l all g1 m1).1) (qL l all g1 m1) (qQ l all g1 m1).2 hLP
       have hB1 := hBb.ps
       have hB2 := hBb.t1
       have hB3 := hBb.t2
       have hB4 := hBb.lf
       have hQl2 : ((qQ l all g1 m1).1.map eInt).length = (qQ l all g1 m1).1.length := by simp
       have hal : (all.map eInt).length = all.length := by simp
       have hQl3 := (gOuts_st (qT l all g1 m1).1 (qE l all g1 m1).2).2
       refine tQ <| tG <| sm 1 rfl <| cE rfl (ocr (sc_gTypes l (qK l all g1 m1).2 (by omega)) ent69 rfl (po2 rfl rfl) rfl (fun k (h : _) => .inr h) rfl rfl) <| sm 1 rfl <| cE rfl (ocr (sc_gTypes l (qT l all g1 m1).2 (by omega)) ent69 rfl (po2 rfl rfl) rfl (fun k (h : _) => .inr h) rfl rfl) <| sm 2 rfl <| nL <| tQ <| tG <| sm 3 rfl <| cE rfl (ocr (sc_gEachA l all (qT l all g1 m1).1 (qO l all g1 m1).2 (hIn.mono (by omega)) (by omega) (by omega)) ent70 rfl (po3 rfl rfl rfl) rfl (fun k (h : _) => .inr h) rfl rfl) ?_
       refine sm 2 rfl <| cE rfl (ocr (sc_gOuts l (qT l all g1 m1).1 (qE l all g1 m1).2 (by omega)) ent43 rfl (po2 rfl rfl) rfl (fun k (h : _) => .inr h) rfl rfl) <| cV rfl (ok_build_pure rfl rfl tZ38 tP38 rfl (firmB_ok rfl) rfl) <| c0 (ok_store_box_agg rfl rfl rfl rfl rfl ((fun h => h)) tS38 (firmL_ok rfl) (lb rfl)) <| nL <| tQ <| Tr.fixNil (k := 112) rfl (fun h => h) <| tG <| sm 1 rfl <| nL <| tQ <| Tr.grow (t := 19) (k := 2019) ⟨3, 1⟩ rfl rfl rfl rfl rfl ?_
       refine tG <| sm 2 rfl ?_
       refine cE rfl (ok_append_row rfl rfl rfl rfl rfl rfl rfl (by simp) Tryz.underlying35 tB3 (by decide) hw_int hone_int (by simp [maxLen]; omega) (by simp; omega)) ?_
       refine sm 1 rfl <| nL <| tQ <| tG <| sm 3 rfl ?_
       refine cE rfl (ok_append rfl rfl rfl rfl (by (simp; done)) ((fun h => h)) Tryz.underlying35 tB3 (by decide) (hw_int) (hone_int) (by simp [maxLen, chunks]; omega) (by simp [chunks]; omega)) ?_
       refine sm 1 rfl <| nL <| tQ ?_
       refine Tr.heap (σ' := look [(2019, some (rowI (all ++ (qQ l all g1 m1).1))), (112, some (.box [.pv (vInt (.mk 11 0 0 nName (qE l all g1 m1).1 [] (qQ l all g1 m1).1 [] : Nd).kind), .pv (vInt (.mk 11 0 0 nName (qE l all g1 m1).1 [] (qQ l all g1 m1).1 [] : Nd).op), .pv (vInt (.mk 11 0 0 nName (qE l all g1 m1).1 [] (qQ l all g1 m1).1 [] : Nd).n), .pv (vStr (.mk 11 0 0 nName (qE l all g1 m1).1 [] (qQ l all g1 m1).1 [] : Nd).name), .pv (ints (.mk 11 0 0 nName (qE l all g1 m1).1 [] (qQ l all g1 m1).1 [] : Nd).args), .pv (ints (.mk 11 0 0 nName (qE l all g1 m1).1 [] (qQ l all g1 m1).1 [] : Nd).outs), .pv (ints (.mk 11 0 0 nName (qE l all g1 m1).1 [] (qQ l all g1 m1).1 [] : Nd).params), .pv (kids (.mk 11 0 0 nName (qE l all g1 m1).1 [] (qQ l all g1 m1).1 [] : Nd).kids)])), (109, some (.row ⟨38, 8⟩ (out.map Nd.enc))), (2010, some (rowI all)), (2001, some (genBox l (qQ l all g1 m1).2)), (2002, some (rowI (qQ l all g1 m1).2.types)), (2003, some (rowI seen))]) (lkq [2019, 112, 109, 2010, 2001, 2002, 2003] rfl rfl ⟨(congrArg (fun z => some (HO.row _ z)) (by simp [qQ])), rfl, rfl, rfl, rfl, rfl, rfl, trivial⟩) ?_
       refine tG <| sm 4 rfl <| cV rfl (ok_build_pure rfl rfl tZ86 tP86 rfl (firmB_ok rfl) rfl) <| sm 1 rfl <| cV rfl (oB rfl rfl (i64_sub rfl (by omega))) ?_
       refine cE rfl (ok_callr ((ih m rfl).at2019 (all ++ (qQ l all g1 m1).1) (qL l all g1 m1) (qQ l all g1 m1).2 hInQ hLP (by omega) (by omega) (by rw [List.length_append]; omega)) ent45 rfl rfl (Subs.same rfl (Subs.same (congrArg (fun n => IV.sl 2019 n) (by simp [qQ])) (Subs.cons (fun _ _ _ _ h => sub_pv (q := plcv (qL l all g1 m1)) (PSub.agg (ps := [vBool false, vBool true, .val (.slice none 0 0), ints (qT l all g1 m1).1, ints (qO l all g1 m1).1]) (And.intro (PSub.refl _) (And.intro (PSub.refl _) (And.intro PSub.nil (And.intro (PSub.refl _) (And.intro (PSub.refl _) trivial)))))) h) (Subs.same (congrArg (fun z => iInt z) (by omega)) Subs.nil)))) (po3 rfl rfl rfl) (by rfl) (fun k (h : _) => .inr h) rfl (by rfl)) ?_
       refine cE rfl (ok_buildSlice rfl rfl Tryz.underlying36 tZ39 tS39 rfl rfl rfl rfl (firmB_ok rfl) rfl) <| sm 1 rfl <| c0 (ok_store_box rfl rfl rfl rfl ((fun h => h)) tS36 (rfl) (lb rfl)) <| nL <| tQ <| Tr.drop (k := 2019) <| tG <| cV rfl (ok_load_box_pure rfl rfl rfl Tryz.underlying38 rfl tS38 (lb rfl) rfl trivial) <| cE rfl (ocq (sc_r8Closed (.mk 11 0 0 nName (qE l all g1 m1).1 [] (qQ l all g1 m1).1 [(qD l m all g1 m1).1] : Nd)) ent71 rfl rfl) <| sm 1 rfl <| nL ?_
       refine tC rfl (fun hc131 => ?_) fun hc131 => ?_
       ·have hX : gAny l (gRec l (m + 1)) all p g1 = ((.mk 11 0 0 nName (qE l all g1 m1).1 (gOuts (qO l all g1 m1).1 (qD l m all g1 m1).2).1 (qQ l all g1 m1).1 [(qD l m all g1 m1).1] : Nd), (gOuts (qO l all g1 m1).1 (qD l m all g1 m1).2).2) := by
          have hcl : r8Closed (.mk 11 0 0 nName (qE l all g1 m1).1 [] (qQ l all g1 m1).1 [(qD l m all g1 m1).1] : Nd) = false := by simpa using hc131
          have hk0 : ¬ (gPick l 6 (qS l all g1 m1).2).1 = 0 := by omega
          unfold gAny
          simp only [gRec, e2]
          exact (if_neg hk0).trans ((if_pos hk1).trans (if_neg (fun h => Bool.noConfusion (hcl.symm.trans h))))
        refine tG <| sm 2 rfl <| cE rfl (ocr (sc_gOuts l (qO l all g1 m1).1 (qD l m all g1 m1).2 (by omega)) ent43 rfl (po2 rfl rfl) rfl (fun k (h : _) => .inr h) rfl rfl) <| sm 1 rfl <| c0 (ok_store_box rfl rfl rfl rfl ((fun h => h)) tS35 (rfl) (lb rfl)) <| nL ?_
        refine ⟨rfl, Sub.of ⟨rfl, rfl, rfl, rfl, rfl, rfl, rfl, trivial⟩, funext (lkq [112, 109, 2010, 2001, 2002, 2003, 115, 2019] rfl rfl ⟨(by first | rfl | (rw [hX]; rfl)), rfl, rfl, (by first | rfl | (rw [hX]; rfl)), (by first | rfl | (rw [hX]; rfl)), rfl, rfl, rfl, trivial⟩)⟩
       have hX : gAny l (gRec l (m + 1)) all p g1 = ((.mk 11 0 0 nName (qE l all g1 m1).1 [] (qQ l all g1 m1).1 [(qD l m all g1 m1).1] : Nd), (qD l m all g1 m1).2) := by
         have hcl : r8Closed (.mk 11 0 0 nName (qE l all g1 m1).1 [] (qQ l all g1 m1).1 [(qD l m all g1 m1).1] : Nd) = true := by simpa using hc131
         have hk0 : ¬ (gPick l 6 (qS l all g1 m1).2).1 = 0 := by omega
         unfold gAny
         simp only [gRec, e2]
         exact (if_neg hk0).trans ((if_pos hk1).trans (if_pos hcl))
       refine Tr.skip ?_
       refine ⟨rfl, Sub.of ⟨rfl, rfl, rfl, rfl, rfl, rfl, rfl, trivial⟩, funext (lkq [112, 109, 2010, 2001, 2002, 2003, 115, 2019] rfl rfl ⟨(by first | rfl | (rw [hX]; rfl)), rfl, rfl, (by first | rfl | (rw [hX]; rfl)), (by first | rfl | (rw [hX]; rfl)), rfl, rfl, rfl, trivial⟩)⟩
      have hX : gAny l (gRec l d) all p g1 = ((qS l all g1 m1).1, (qK l all g1 m1).2) := by
        unfold gAny
        simp only [e2]
        cases d with
        | zero => rfl
        | succ m =>
          have hk0 : ¬ (gPick l 6 (qS l all g1 m1).2).1 = 0 := by first | (simp at hb52 <;> omega) | (simp at hc49 <;> omega)
          have hk1 : ¬ (gPick l 6 (qS l all g1 m1).2).1 = 1 := by first | (simp at hb96 <;> omega) | (simp at hc93 <;> omega)
          exact (if_neg hk0).trans (if_neg hk1)
      refine Tr.skip ?_
      refine ⟨rfl, Sub.of ⟨rfl, rfl, rfl, rfl, rfl, rfl, rfl, trivial⟩, funext (lkq [112, 109, 2010, 2001, 2002, 2003, 115, 2019] rfl rfl ⟨(by first | rfl | (rw [hX]; rfl)), rfl, rfl, (by first | rfl | (rw [hX]; rfl)), (by first | rfl | (rw [hX]; rfl)), rfl, rfl, rfl, trivial⟩)⟩
     refine sm 4 rfl <| nL <| Tr.condF rfl ?_
     have hX : gAny l (gRec l d) all p g1 = ((qS l all g1 m1).1, (qK l all g1 m1).2) := by
       unfold gAny
       simp only [e2]
       cases d with
       | zero => rfl
       | succ m =>
         have hk0 : ¬ (gPick l 6 (qS l all g1 m1).2).1 = 0 := by first | (simp at hb52 <;> omega) | (simp at hc49 <;> omega)
         have hk1 : ¬ (gPick l 6 (qS l all g1 m1).2).1 = 1 := by first | (simp at hb96 <;> omega) | (simp at hc93 <;> omega)
         exact (if_neg hk0).trans (if_neg hk1)
     refine Tr.skip ?_
     refine ⟨rfl, Sub.of ⟨rfl, rfl, rfl, rfl, rfl, rfl, rfl, trivial⟩, funext (lkq [112, 109, 2010, 2001, 2002, 2003, 115, 2019] rfl rfl ⟨(by first | rfl | (rw [hX]; rfl)), rfl, rfl, (by first | rfl | (rw [hX]; rfl)), (by first | rfl | (rw [hX]; rfl)), rfl, rfl, rfl, trivial⟩)⟩
    refine tQ ?_
    have hol : (out.map Nd.enc).length = out.length := by simp
    have hal : (all.map eInt).length = all.length := by simp
    have hxo : ((gAny l (gRec l d) all p g1).1.outs.map eInt).length = (gAny l (gRec l d) all p g1).1.outs.length := by simp
    have hxo2 := hXo.2
    refine tG <| sm 1 rfl <| cV rfl (ok_load_box_pure rfl rfl rfl Tryz.underlying38 rfl tS38 (lb rfl) rfl trivial) <| cE rfl (ok_buildSlice rfl rfl Tryz.underlying39 tZ38 tS38 rfl rfl rfl rfl (firmB_ok rfl) rfl) ?_
    refine cE rfl (ok_append rfl rfl rfl rfl (by rfl) ((fun h => h)) Tryz.underlying39 tB38 (by decide) (by (simp [chunks]; done)) (hone_cells _) (by simp [maxLen, chunks]; omega) (by simp [chunks]; omega)) ?_
    refine sm 1 rfl <| nL <| tQ <| tQ <| tG <| cV rfl (ok_load_box_pure rfl rfl rfl Tryz.underlying38 rfl tS38 (lb rfl) rfl trivial) <| cE rfl (ocq (sc_r8Closed (gAny l (gRec l d) all p g1).1) ent71 rfl rfl) <| nL ?_
    refine tC rfl (fun hc141 => ?_) fun hc141 => ?_
    ·refine tQ ?_
     have hres : gList l d seen p g = (out ++ [(gAny l (gRec l d) all p g1).1], (gAny l (gRec l d) all p g1).2) := by rw [← hI, gNodes, if_neg hleft, if_pos hc141]
     refine tG <| sm 2 rfl <| nL ?_
     refine Tr.freeze (t := 8) (k := 109) rfl rfl (by simp [chunks]) ?_
     refine Tr.ret ?_
     rw [hres]
     refine ret_ok rfl (congrArg (fun z => IV.pv (.seq z)) (by simp [chunks, Nd.enc_eq, Nd.cells_eta])) (po3 rfl rfl rfl)
    refine Tr.skip <| tG <| sm 3 rfl ?_
    refine cE rfl (ok_append rfl rfl rfl rfl (by rfl) ((fun h => h)) Tryz.underlying35 tB3 (by decide) (hw_int) (hone_int) (by simp [maxLen, chunks]; omega) (by simp [chunks]; omega)) ?_
    refine sm 1 rfl <| nL <| Tr.drop (k := 112) <| tG <| sm 1 rfl <| cV rfl (oB rfl rfl (i64_sub rfl (by omega))) <| sm 1 rfl <| nL ?_
    refine ⟨_, _, ?_, Sub.of (fr' := [(11, iInt ((n1 : Nat) : Int)), (10, .sl 2010 ((all ++ (gAny l (gRec l d) all p g1).1.outs).map eInt).length), (9, .sl 109 ((out ++ [(gAny l (gRec l d) all p g1).1]).map Nd.enc).length), (6, .pv (.ept [vBool p.If, vBool p.Loop, ints p.Yield, ints p.Next, ints p.Left] 0)), (0, .ptr 2001 0), (3, iInt (d : Int))]) ⟨congrArg (fun z => some (iInt z)) (by omega), congrArg (fun z => some (IV.sl _ z)) (by simp), congrArg (fun z => some (IV.sl _ z)) (by simp [chunks]), rfl, rfl, rfl, trivial⟩, n1, (out ++ [(gAny l (gRec l d) all p g1).1]), (all ++ (gAny l (gRec l d) all p g1).1.outs), (gAny l (gRec l d) all p g1).2, ?_, ?_, ?_, ?_, ?_, ?_, rfl, (funext (lkq [112, 109, 2010, 2001, 2002, 2003] rfl rfl ⟨rfl, (by first | rfl | exact congrArg (fun z => some (HO.row _ z)) (by simp [chunks, Nd.enc_eq, Nd.cells_eta]) | exact congrArg (fun z => some (HO.row _ z)) (by simp)), (by first | rfl | exact congrArg (fun z => some (HO.row _ z)) (by simp [chunks, Nd.enc_eq, Nd.cells_eta]) | exact congrArg (fun z => some (HO.row _ z)) (by simp)), rfl, rfl, rfl, trivial⟩)), rfl⟩
    ·omega
    ·rw [← hI, gNodes, if_neg hleft, if_neg (by rw [hc141]; decide)]
    ·exact (hIn.mono hXb.t1).app hXo.1
    ·have := hXb.ps; omega
    ·have := hXb.t2; omega
    ·have := hXo.2; rw [List.length_append]; have := hXl; omega
    simp; omega
   refine Tr.exit <| tQ ?_
   have hres : gList l d seen p g = (out ++ [(gEnd l all p g1).1], (gEnd l all p g1).2) := by
     rw [← hI]
     (have h0 : g1.left = 0 := by simpa using hc33
      cases n with
      | zero => rw [gNodes]
      | succ n => rw [gNodes, if_pos h0])
   have hol : (out.map Nd.enc).length = out.length := by simp
   refine tG <| sm 3 rfl <| cV rfl (ok_load_ept_agg rfl rfl Tryz.underlying86 rfl tS86 (lb rfl)) <| cE rfl (ocr (sc_gEndA l all p g1 hIn (by omega) (by omega) hp) ent72 rfl (po3 rfl rfl rfl) rfl (fun k (h : _) => .inr h) rfl rfl) <| cE rfl (ok_buildSlice rfl rfl Tryz.underlying39 tZ38 tS38 rfl rfl rfl rfl (firmB_ok rfl) rfl) ?_
   refine cE rfl (ok_append rfl rfl rfl rfl (by rfl) ((fun h => h)) Tryz.underlying39 tB38 (by decide) (by (simp [chunks]; done)) (hone_cells _) (by simp [maxLen, chunks]; omega) (by simp [chunks]; omega)) ?_
   refine sm 1 rfl <| nL ?_
   refine Tr.freeze (t := 8) (k := 109) rfl rfl (by simp [chunks]) ?_
   refine Tr.ret ?_
   rw [hres]
   refine ret_ok rfl (congrArg (fun z => IV.pv (.seq z)) (by simp [chunks, Nd.enc_eq, Nd.cells_eta])) (po3 rfl rfl rfl)
  refine sm 6 rfl <| nL <| Tr.condF rfl <| Tr.exit <| tQ ?_
  have hres : gList l d seen p g = (out ++ [(gEnd l all p g1).1], (gEnd l all p g1).2) := by
    rw [← hI]
    (have h0 : n = 0 := by simpa using hb27
     rw [h0, gNodes]
     done)
  have hol : (out.map Nd.enc).length = out.length := by simp
  refine tG <| sm 3 rfl <| cV rfl (ok_load_ept_agg rfl rfl Tryz.underlying86 rfl tS86 (lb rfl)) <| cE rfl (ocr (sc_gEndA l all p g1 hIn (by omega) (by omega) hp) ent72 rfl (po3 rfl rfl rfl) rfl (fun k (h : _) => .inr h) rfl rfl) <| cE rfl (ok_buildSlice rfl rfl Tryz.underlying39 tZ38 tS38 rfl rfl rfl rfl (firmB_ok rfl) rfl) ?_
  refine cE rfl (ok_append rfl rfl rfl rfl (by rfl) ((fun h => h)) Tryz.underlying39 tB38 (by decide) (by (simp [chunks]; done)) (hone_cells _) (by simp [maxLen, chunks]; omega) (by simp [chunks]; omega)) ?_
  refine sm 1 rfl <| nL ?_
  refine Tr.freeze (t := 8) (k := 109) rfl rfl (by simp [chunks]) ?_
  refine Tr.ret ?_
  rw [hres]
  refine ret_ok rfl (congrArg (fun z => IV.pv (.seq z)) (by simp [chunks, Nd.enc_eq, Nd.cells_eta])) (po3 rfl rfl rfl)
theorem sc_gList (l : List UInt8) : ∀ d, d ≤ 100 → LSCg l d
  | 0, h => fun seen p g h1 h2 h3 h4 h5 => sc_gList0 l 0 h (fun m e => by omega) seen p g h1 h2 h3 h4 h5
  | d + 1, h => fun seen p g h1 h2 h3 h4 h5 => sc_gList0 l (d + 1) h (fun m e => by obtain rfl : d = m := (by omega); exact sc_gList l d (by omega)) seen p g h1 h2 h3 h4 h5
theorem sc_gList3 (l : List UInt8) (seen : List Int) (p : Plc) (g : Gn) (h1 : InR g.types seen) (h2 : p.small) (h3 : g.pos + 60 * g.left ≤ 900000) (h4 : g.types.length + 10 * g.left ≤ 900000) (h5 : seen.length + 10 * g.left ≤ 900000) :
    SC Tryz.prog 45 [.ptr 2001 0, .sl 2005 (seen.map eInt).length, .pv (plcv p), iInt 3] (gHr 2005 l g seen) (fun _ => False) (.pv (nodes (gList l 3 seen p g).1)) (gHr 2005 l (gList l 3 seen p g).2 seen) := SC.sw 2003 2005 (sc_gList l 3 (by omega) seen p g h1 h2 h3 h4 h5)
def genF (l : List UInt8) (g : Gn) (ty : PV) : HO := .box [.pv (bts l), iInt (g.pos : Int), .pv ty, iInt (g.left : Int)]
theorem plc0_sub : PSub (.agg [vBool false, vBool false, .val (.slice none 0 0), .val (.slice none 0 0), .val (.slice none 0 0)]) (plcv plc0) := nilP_agg [vBool false, vBool false, .val (.slice none 0 0), .val (.slice none 0 0), .val (.slice none 0 0)]
theorem sc_gFlow (l : List UInt8) (name : ByteArray) (params : List Int) (hpl : params.length ≤ 10) (g : Gn) (hb : g.pos ≤ 500000) (ty : PV) : SC Tryz.prog 24 [.ptr 2001 0, iStr name, .pv (ints params)] [(2001, genF l g ty)] (fun _ => False) (.pv (.agg (gFlow l name params g).1.enc)) [(2001, genF l (gFlow l name params g).2 (ints (gFlow l name params g).2.types))] := by
  refine SC.ofC Tryz.func24 rfl (lb rfl) rfl fun F ρ w => ?_
  refine Tr.lenOf (t := 2) rfl (fun hl => ?_)
  simp only [List.length_map] at hl
  have hS := (gOuts_st params { g with types := [], left := 30 }).1
  have hSl := (gOuts_st params { g with types := [], left := 30 }).2
  have hSin := InR.outs params { g with types := [], left := 30 }
  have hst : (gOuts params { g with types := [], left := 30 }).2.types.length = params.length := by rw [hS]; simp
  have hsp : (gOuts params { g with types := [], left := 30 }).2.pos = g.pos ∧ (gOuts params { g with types := [], left := 30 }).2.left = 30 := by rw [hS]; exact ⟨rfl, rfl⟩
  have hbt : (gFresh 2 (gFresh 1 (gOuts params { g with types := [], left := 30 }).2).2).2.types.length = params.length + 2 := by simp [gFresh, hst]
  have hbp : (gFresh 2 (gFresh 1 (gOuts params { g with types := [], left := 30 }).2).2).2.pos = g.pos ∧ (gFresh 2 (gFresh 1 (gOuts params { g with types := [], left := 30 }).2).2).2.left = 30 := hsp
  have hin : InR (gFresh 2 (gFresh 1 (gOuts params { g with types := [], left := 30 }).2).2).2.types ((gOuts params { g with types := [], left := 30 }).1 ++ [(gFresh 1 (gOuts params { g with types := [], left := 30 }).2).1, (gFresh 2 (gFresh 1 (gOuts params { g with types := [], left := 30 }).2).2).1]) := by
    refine (hSin.mono (by omega)).app fun s hs => ?_
    simp only [List.mem_cons, List.not_mem_nil, or_false] at hs
    rcases hs with rfl | rfl
    ·rw [hbt]; simp only [gFresh, hst]; omega
    rw [hbt]; simp only [gFresh, List.length_append, List.length_cons, List.length_nil, hst]; omega
  have hsl2 : ((gOuts params { g with types := [], left := 30 }).1.map eInt).length = (gOuts params { g with types := [], left := 30 }).1.length := by simp
  refine tQ <| tG <| cE rfl (ok_alloc (k := 106) rfl tZ41 rfl rfl rfl rfl) <| nL <| tQ <| tG <| sm 2 rfl <| cV rfl (ok_nilCheck rfl rfl rfl) <| sm 1 rfl <| c0 (ok_store_box rfl rfl rfl rfl ((fun h => h)) tS35 (rfl) (lb rfl)) <| cV rfl (ok_nilCheck rfl rfl rfl) <| sm 1 rfl ?_
  refine c0 (ok_store_box rfl rfl rfl rfl ((fun h => h)) tS3 (rfl) (lb rfl)) <| nL <| tQ <| Tr.growCell (k := 2002) (k2 := 2001) (j := 2) ⟨3, 1⟩ rfl rfl rfl rfl rfl rfl <| Tr.heap (σ' := look [(106, some (.box [.pv (vStr ⟨#[]⟩), iInt 0, iInt 0, .pv (.val (.slice none 0 0)), .pv (.val (.slice none 0 0))])), (2001, some (genBox l { g with types := [], left := 30 })), (2002, some (rowI []))]) (lkq [106, 2001, 2002] rfl rfl ⟨rfl, rfl, rfl, trivial⟩) <| tG <| sm 2 rfl <| cE rfl (ok_calln (k0 := 2005) (sc_gOutsN l params { g with types := [], left := 30 } (by show 0 + params.length ≤ 1000000; omega)) ent43 rfl rfl (Subs.refl _ _) (po2 rfl rfl) rfl rfl rfl rfl rfl (fun k (h : _) => .inr h) rfl (by rfl)) <| sm 1 rfl <| nL <| tQ <| tG ?_
  refine sm 1 rfl <| cE rfl (ocr (sc_gFresh l 1 (gOuts params { g with types := [], left := 30 }).2 (by omega)) ent44 rfl (po2 rfl rfl) rfl (fun k (h : _) => .inr h) rfl rfl) <| sm 1 rfl ?_
  refine cE rfl (ocr (sc_gFresh l 2 (gFresh 1 (gOuts params { g with types := [], left := 30 }).2).2 (by simp only [gFresh, List.length_append, List.length_cons, List.length_nil]; omega)) ent44 rfl (po2 rfl rfl) rfl (fun k (h : _) => .inr h) rfl rfl) ?_
  refine sm 2 rfl <| nL <| tQ <| tG <| sm 1 rfl <| cE rfl (ok_buildSlice rfl rfl Tryz.underlying35 tZ3 tS3 rfl rfl rfl rfl (firmB_ok rfl) rfl) <| cV rfl (ok_build_pure rfl rfl tZ38 tP38 rfl (firmB_ok rfl) rfl) <| WL.sub (Sub.cons2 (fun _ _ _ _ h => sub_pv (nilP_agg _) h) Sub.rfl') <| sm 1 rfl <| cE rfl (ok_buildSlice rfl rfl Tryz.underlying35 tZ3 tS3 rfl rfl rfl rfl (firmB_ok rfl) rfl) <| cV rfl (ok_build_pure rfl rfl tZ38 tP38 rfl (firmB_ok rfl) rfl) <| WL.sub (Sub.cons2 (fun _ _ _ _ h => sub_pv (nilP_agg _) h) Sub.rfl') ?_
  refine cE rfl (ok_buildSliceOwn (k := 110) rfl rfl Tryz.underlying39 tZ38 tS38 rfl rfl rfl rfl (firmB_ok rfl) rfl rfl rfl rfl rfl) <| sm 1 rfl <| nL <| tQ <| tG <| sm 3 rfl <| cE rfl (ok_buildSlice rfl rfl Tryz.underlying35 tZ3 tS3 rfl rfl rfl rfl (firmB_ok rfl) rfl) ?_
  refine cE rfl (ok_append rfl rfl rfl rfl (by rfl) (by simp) Tryz.underlying35 tB3 (by decide) (by simp [chunks]) (hone_int (l := [(gFresh 1 (gOuts params { g with types := [], left := 30 }).2).1, (gFresh 2 (gFresh 1 (gOuts params { g with types := [], left := 30 }).2).2).1])) (by simp [maxLen, chunks]; omega) (by simp [chunks]; omega)) ?_
  refine sm 1 rfl <| nL <| tQ ?_
  refine Tr.heap (σ' := look [(106, some (.box [.pv (vStr ⟨#[]⟩), iInt 0, iInt 0, .pv (.val (.slice none 0 0)), .pv (.val (.slice none 0 0))])), (110, some (.row ⟨38, 8⟩ ((gBegin (gFresh 1 (gOuts params { g with types := [], left := 30 }).2).1 (gFresh 2 (gFresh 1 (gOuts params { g with types := [], left := 30 }).2).2).1).map Nd.enc))), (2005, some (rowI ((gOuts params { g with types := [], left := 30 }).1 ++ [(gFresh 1 (gOuts params { g with types := [], left := 30 }).2).1, (gFresh 2 (gFresh 1 (gOuts params { g with types := [], left := 30 }).2).2).1]))), (2001, some (genBox l (gFresh 2 (gFresh 1 (gOuts params { g with types := [], left := 30 }).2).2).2)), (2002, some (rowI (gFresh 2 (gFresh 1 (gOuts params { g with types := [], left := 30 }).2).2).2.types))]) (lkq [106, 110, 2005, 2001, 2002] rfl rfl ⟨rfl, rfl, (congrArg (fun z => some (HO.row _ z)) (by simp [chunks, eInt])), rfl, rfl, trivial⟩) ?_
  refine tG <| sm 3 rfl <| cV rfl (ok_build_pure rfl rfl tZ86 tP86 rfl (firmB_ok rfl) rfl) ?_
  have hli := bd_list l 3 ((gOuts params { g with types := [], left := 30 }).1 ++ [(gFresh 1 (gOuts params { g with types := [], left := 30 }).2).1, (gFresh 2 (gFresh 1 (gOuts params { g with types := [], left := 30 }).2).2).1]) plc0 (gFresh 2 (gFresh 1 (gOuts params { g with types := [], left := 30 }).2).2).2 ⟨by simp [plc0], by simp [plc0], by simp [plc0]⟩
  have hrl := gList_len l 3 ((gOuts params { g with types := [], left := 30 }).1 ++ [(gFresh 1 (gOuts params { g with types := [], left := 30 }).2).1, (gFresh 2 (gFresh 1 (gOuts params { g with types := [], left := 30 }).2).2).1]) plc0 (gFresh 2 (gFresh 1 (gOuts params { g with types := [], left := 30 }).2).2).2
  refine cE rfl (ok_callr (sc_gList3 l ((gOuts params { g with types := [], left := 30 }).1 ++ [(gFresh 1 (gOuts params { g with types := [], left := 30 }).2).1, (gFresh 2 (gFresh 1 (gOuts params { g with types := [], left := 30 }).2).2).1]) plc0 (gFresh 2 (gFresh 1 (gOuts params { g with types := [], left := 30 }).2).2).2 hin ⟨by simp [plc0], by simp [plc0], by simp [plc0]⟩ (by omega) (by omega) (by simp; omega)) ent45 rfl rfl (Subs.same rfl (Subs.same (congrArg (fun n => IV.sl 2005 n) (by simp [chunks_length])) (Subs.cons (fun _ _ _ _ h => sub_pv plc0_sub h) (Subs.same rfl Subs.nil)))) (po3 rfl rfl rfl) (by rfl) (fun k (h : _) => .inr h) rfl (by rfl)) ?_
  refine cE rfl (ok_append rfl rfl rfl rfl (by rfl) ((fun h => h)) Tryz.underlying39 tB38 (by decide) (hw_node) (hone_node) (by simp [maxLen, chunks]; omega) (by simp [chunks]; omega)) ?_
  refine sm 1 rfl <| nL <| tQ ?_
  refine Tr.freeze (t := 10) (k := 110) rfl rfl (by simp [chunks, gBegin]; omega) ?_
  refine Tr.freezeCell (k := 2002) (k2 := 2001) (j := 2) (n := ((gList l 3 ((gOuts params { g with types := [], left := 30 }).1 ++ [(gFresh 1 (gOuts params { g with types := [], left := 30 }).2).1, (gFresh 2 (gFresh 1 (gOuts params { g with types := [], left := 30 }).2).2).1]) plc0 (gFresh 2 (gFresh 1 (gOuts params { g with types := [], left := 30 }).2).2).2).2.types.map eInt).length) rfl rfl rfl rfl (by decide) <| tG <| sm 2 rfl <| cV rfl (oSm Tryz.underlying35 rfl) <| sm 1 rfl <| cV rfl (ok_nilCheck rfl rfl rfl) <| sm 3 rfl <| cV rfl (ok_build_pure rfl rfl tZ41 tP41 rfl (firmB_ok rfl) rfl) <| c0 (ok_store_box_agg rfl rfl rfl rfl rfl ((fun h => h)) tS41 (firmL_ok rfl) (lb rfl)) <| nL <| Tr.ret <| retC_ok (.inl rfl) (fun _ _ ho => ok_load_box_pure ho rfl rfl Tryz.underlying41 rfl tS41 (lb rfl) rfl trivial) ?_ (po1 rfl)
  rfl
set_option maxRecDepth 20000
set_option maxHeartbeats 2000000
theorem sc_made (l : List UInt8) : SC Tryz.prog 11 [.pv (bts l)] [] (fun _ => False) (.pv (made l).enc) [] := by
  refine SC.anyR (SC.vc tb { ids := [(7, 2001)], gh := [(5, [.fzC 104 1 116])] } [] Tryz.func11 rfl rfl ?_)
  have hb1 : (gFlow l mainName [] ⟨0, [], 0⟩).2.pos ≤ 2000 := gFlow_pos l mainName [] ⟨0, [], 0⟩ (by simp) (by simp)
  have h1 := sc_gFlow l mainName [] (by simp) ⟨0, [], 0⟩ (by simp) (.val (.slice none 0 0))
  have h2 := sc_gFlow l fName [1, 2] (by simp) (gFlow l mainName [] ⟨0, [], 0⟩).2 (by omega) (ints (gFlow l mainName [] ⟨0, [], 0⟩).2.types)
  exact ⟨[], h1, SubA.same (SubA.same (SubA.cons sN sR)), ⟨rfl, trivial⟩, rfl, rfl, flat1 rfl, by simp, rfl, [], h2, sR, ⟨rfl, trivial⟩, rfl, rfl, flat1 rfl, by simp, rfl, rfl, sI, trivial⟩
section
section
variable (l : List UInt8)
theorem wt_gNode (kind op n : Int) (name : ByteArray) (seen ins outs : List Int) (g : Gn) : wtN (gNode l kind op n name seen ins outs g).1 = ins.length + outs.length + name.size := by
  rw [wtN_eq]
  show (gEach l seen ins g).1.length + (gOuts outs _).1.length + 0 + name.size + 0 = _
  rw [(gEach_st l seen ins g).2, (gOuts_st outs _).2]
  omega
theorem wt_simple (seen : List Int) (g : Gn) : wtN (gSimple l seen g).1 ≤ 4 := by
  unfold gSimple
  simp only
  have hn : nName.size = 0 := rfl
  have ha : aName.size = 1 := rfl
  have hf : fName.size = 1 := rfl
  repeat' split
  all_goals (rw [wt_gNode]; simp only [List.length_cons, List.length_nil, hn, ha, hf]; omega)
theorem wt_end (seen : List Int) (p : Plc) (hp : p.small) (g : Gn) : wtN (gEnd l seen p g).1 ≤ 2 := by
  obtain ⟨h1, h2, h3⟩ := hp
  unfold gEnd
  simp only
  have hn : nName.size = 0 := rfl
  repeat' split
  all_goals (rw [wt_gNode]; simp only [List.length_cons, List.length_nil, hn]; omega)
def RecWt (N : Nat) (rec : GRec) : Prop := ∀ seen p g, p.small → wtL (rec seen p g).1 ≤ N ∧ (rec seen p g).1.length ≤ 6
theorem wt_shut (x : List Int → Nd) (t : List Int) (ht : t.length ≤ 2) (g : Gn) (N : Nat) (hx : ∀ o, wtN (x o) = o.length + N) : wtN (gShut x t g).1 ≤ N + 2 := by
  unfold gShut
  split
  ·rw [hx]; simp
  rw [hx, (gOuts_st t g).2]; omega
theorem wt_if {N : Nat} {rec : GRec} (hr : RecWt N rec) (all : List Int) (p : Plc) (hp : p.small) (g : Gn) : wtN (gIf l rec all p g).1 ≤ 2 * N + 20 := by
  unfold gIf
  simp only
  obtain ⟨_, h2⟩ := bd_types l g
  have hsm : Plc.small ⟨true, p.Loop, (gTypes l g).1, p.Next, p.Left⟩ := ⟨h2, hp.2.1, hp.2.2⟩
  refine Nat.le_trans (wt_shut _ _ h2 _ (1 + (1 + ((rec all ⟨true, p.Loop, (gTypes l g).1, p.Next, p.Left⟩ (gEach l all [2] (gTypes l g).2).2).1.length + wtL (rec all ⟨true, p.Loop, (gTypes l g).1, p.Next, p.Left⟩ (gEach l all [2] (gTypes l g).2).2).1) + (1 + ((rec all ⟨true, p.Loop, (gTypes l g).1, p.Next, p.Left⟩ (rec all ⟨true, p.Loop, (gTypes l g).1, p.Next, p.Left⟩ (gEach l all [2] (gTypes l g).2).2).2).1.length + wtL (rec all ⟨true, p.Loop, (gTypes l g).1, p.Next, p.Left⟩ (rec all ⟨true, p.Loop, (gTypes l g).1, p.Next, p.Left⟩ (gEach l all [2] (gTypes l g).2).2).2).1)))) fun o => ?_) ?_
  ·simp only [wtN, wtK, (gEach_st l all [2] (gTypes l g).2).2, show nName.size = 0 from rfl, List.length_cons, List.length_nil]
   omega
  have h3 := hr all _ (gEach l all [2] (gTypes l g).2).2 hsm
  have h4 := hr all _ (rec all ⟨true, p.Loop, (gTypes l g).1, p.Next, p.Left⟩ (gEach l all [2] (gTypes l g).2).2).2 hsm
  omega
theorem wt_loop {N : Nat} {rec : GRec} (hr : RecWt N rec) (all : List Int) (g : Gn) : wtN (gLoop l rec all g).1 ≤ 2 * N + 20 := by
  unfold gLoop
  simp only
  obtain ⟨_, h2⟩ := bd_types l g
  obtain ⟨_, h4⟩ := bd_types l (gTypes l g).2
  generalize hA : gEach l all (gTypes l g).1 (gTypes l (gTypes l g).2).2 = A
  have hAl : A.1.length ≤ 2 := by rw [← hA, (gEach_st l all _ _).2]; exact h2
  generalize hQ : gOuts (gTypes l g).1 A.2 = Q
  have hQl : Q.1.length ≤ 2 := by rw [← hQ, (gOuts_st _ _).2]; exact h2
  have h5 := hr (all ++ Q.1) ⟨false, true, [], (gTypes l g).1, (gTypes l (gTypes l g).2).1⟩ Q.2 ⟨by simp, h2, h4⟩
  generalize hB : rec (all ++ Q.1) ⟨false, true, [], (gTypes l g).1, (gTypes l (gTypes l g).2).1⟩ Q.2 = B at h5
  refine Nat.le_trans (wt_shut _ _ h4 _ (A.1.length + Q.1.length + (1 + (B.1.length + wtL B.1))) fun o => ?_) ?_
  ·simp only [wtN, wtK, show nName.size = 0 from rfl]
   omega
  omega
theorem wt_any {N : Nat} {rec : Option GRec} (hr : ∀ r, rec = some r → RecWt N r) (all : List Int) (p : Plc) (hp : p.small) (g : Gn) : wtN (gAny l rec all p g).1 ≤ 2 * N + 20 := by
  have hs := wt_simple l all { g with left := g.left - 1 }
  unfold gAny
  simp only
  cases rec with
  | none => exact Nat.le_trans hs (by omega)
  | some r =>
    simp only
    split
    ·exact wt_if l (hr r rfl) all p hp _
    split
    ·exact wt_loop l (hr r rfl) all _
    exact Nat.le_trans hs (by omega)
theorem wt_nodes {N : Nat} {rec : Option GRec} (hr : ∀ r, rec = some r → RecWt N r) (p : Plc) (hp : p.small) : ∀ (i : Nat) (out : List Nd) (all : List Int) (g : Gn), wtL (gNodes l rec p i out all g).1 ≤ wtL out + (i + 1) * (2 * N + 20)
  | 0, out, all, g => by
    have := wt_end l all p hp g
    simp only [gNodes, wtL_app, wtL]
    omega
  | i + 1, out, all, g => by
    have he := wt_end l all p hp g
    have hx := wt_any l hr all p hp g
    have e : (i + 1 + 1) * (2 * N + 20) = (i + 1) * (2 * N + 20) + (2 * N + 20) := Nat.succ_mul _ _
    unfold gNodes
    split
    ·simp only [wtL_app, wtL]; omega
    simp only
    split
    ·simp only [wtL_app, wtL]; omega
    have := wt_nodes hr p hp i (out ++ [(gAny l rec all p g).1]) (all ++ (gAny l rec all p g).1.outs) (gAny l rec all p g).2
    simp only [wtL_app, wtL] at this ⊢
    omega
def wtMax : Nat → Nat
  | 0 => 120
  | d + 1 => 6 * (2 * wtMax d + 20)
theorem wtMax_succ (d : Nat) : wtMax (d + 1) = 6 * (2 * wtMax d + 20) := rfl
theorem wt_gList (d : Nat) : RecWt (wtMax d) (gList l d) := by
  induction d with
  | zero =>
    intro seen p g hp
    refine ⟨?_, gList_len l 0 seen p g⟩
    have h6 : (gPick l 6 g).1 < 6 := gPick_lt (by omega)
    have := wt_nodes l (N := 0) (rec := none) (fun r h => by cases h) p hp (gPick l 6 g).1 [] seen (gPick l 6 g).2
    rw [gList_eq]
    show wtL (gNodes l none p (gPick l 6 g).1 [] seen (gPick l 6 g).2).1 ≤ wtMax 0
    generalize wtL (gNodes l none p (gPick l 6 g).1 [] seen (gPick l 6 g).2).1 = z at this
    generalize (gPick l 6 g).1 = k at *
    have e : wtMax 0 = 120 := rfl
    simp only [wtL, Nat.zero_add, Nat.mul_zero] at this
    rw [e]
    omega
  | succ d ih =>
    intro seen p g hp
    refine ⟨?_, gList_len l (d + 1) seen p g⟩
    have h6 : (gPick l 6 g).1 < 6 := gPick_lt (by omega)
    have := wt_nodes l (N := wtMax d) (rec := some (gList l d)) (fun r h => by cases h; exact ih) p hp (gPick l 6 g).1 [] seen (gPick l 6 g).2
    rw [gList_eq]
    rw [show gRec l (d + 1) = some (gList l d) from rfl, wtMax_succ]
    generalize wtL (gNodes l (some (gList l d)) p (gPick l 6 g).1 [] seen (gPick l 6 g).2).1 = z at this
    generalize (gPick l 6 g).1 = k at *
    generalize wtMax d = m at *
    have h7 : (k + 1) * (2 * m + 20) ≤ 6 * (2 * m + 20) := Nat.mul_le_mul_right _ (by omega)
    simp only [wtL, Nat.zero_add] at this
    exact Nat.le_trans this h7
theorem wt_flow (name : ByteArray) (params : List Int) (hp : params.length ≤ 10) (g : Gn) : (gFlow l name params g).1.types.length ≤ 1000 ∧ r8nodes (gFlow l name params g).1.body ≤ 1000000 := by
  have hs : plc0.small := ⟨by simp [plc0], by simp [plc0], by simp [plc0]⟩
  have hS := (gOuts_st params { g with types := [], left := 30 }).1
  generalize hB : (gFresh 2 (gFresh 1 (gOuts params { g with types := [], left := 30 }).2).2).2 = B
  generalize hE : (gOuts params { g with types := [], left := 30 }).1 ++ [(gFresh 1 (gOuts params { g with types := [], left := 30 }).2).1, (gFresh 2 (gFresh 1 (gOuts params { g with types := [], left := 30 }).2).2).1] = E
  have h1 : B.types.length = params.length + 2 := by rw [← hB, hS]; simp [gFresh]
  have h2 : B.left = 30 := by rw [← hB, hS]; rfl
  have hb := (bd_list l 3 E plc0 B hs).t2
  have hw := wt_gList l 3 E plc0 B hs
  have e : gFlow l name params g = (⟨name, 1, params.length, (gList l 3 E plc0 B).2.types, gBegin (gFresh 1 (gOuts params { g with types := [], left := 30 }).2).1 (gFresh 2 (gFresh 1 (gOuts params { g with types := [], left := 30 }).2).2).1 ++ (gList l 3 E plc0 B).1⟩, (gList l 3 E plc0 B).2) := by
    unfold gFlow
    simp only [hB, hE]
  rw [e]
  refine ⟨by simp only; omega, ?_⟩
  simp only [r8nodes, List.length_append, wtL_app]
  have h3 : wtL (gBegin (gFresh 1 (gOuts params { g with types := [], left := 30 }).2).1 (gFresh 2 (gFresh 1 (gOuts params { g with types := [], left := 30 }).2).2).1) = 2 := rfl
  have h4 : (gBegin (gFresh 1 (gOuts params { g with types := [], left := 30 }).2).1 (gFresh 2 (gFresh 1 (gOuts params { g with types := [], left := 30 }).2).2).1).length = 2 := rfl
  have h5 : wtMax 3 ≤ 500000 := by simp only [wtMax]; omega
  omega
theorem wt_made : r8Weight (made l) ≤ 536870912 := by
  have h1 := wt_flow l mainName [] (by simp) ⟨0, [], 0⟩
  have h2 := wt_flow l fName [1, 2] (by simp) (gFlow l mainName [] ⟨0, [], 0⟩).2
  have e1 : (gFlow l mainName [] ⟨0, [], 0⟩).1.name.size = 4 := rfl
  have e2 : (gFlow l fName [1, 2] (gFlow l mainName [] ⟨0, [], 0⟩).2).1.name.size = 1 := rfl
  have e3 : aName.size = 1 := rfl
  simp only [r8Weight, made, wtA, wtF, List.length_cons, List.length_nil, e1, e2, e3]
  omega
end
end
section
def PxT (g : Gn) (T : List Int) : Prop := ∃ q, T = g.types ++ q
theorem PxT.of {a b : Gn} {T : List Int} (h : Px a b) (h' : PxT b T) : PxT a T := by
  obtain ⟨q, e⟩ := h
  obtain ⟨r, e'⟩ := h'
  exact ⟨q ++ r, by rw [e', e, List.append_assoc]⟩
theorem PxT.len {a : Gn} {T : List Int} (h : PxT a T) : a.types.length ≤ T.length := by obtain ⟨q, e⟩ := h; rw [e]; simp
theorem PxT.getD {a : Gn} {T : List Int} (h : PxT a T) {n : Nat} (hn : n < a.types.length) : a.types.getD n 0 = T.getD n 0 := by
  obtain ⟨q, rfl⟩ := h
  simp [List.getD, List.getElem?_append_left hn]
structure Sn (T : List Int) (n : Nat) (seen : List Int) : Prop where
  zero : (0 : Int) ∈ seen
  one : ∃ s ∈ seen, T.getD s.toNat 0 = 1
  two : ∃ s ∈ seen, T.getD s.toNat 0 = 2
  inr : ∀ s ∈ seen, 0 ≤ s ∧ s.toNat < n
theorem Sn.mono {T : List Int} {n m : Nat} {seen : List Int} (h : Sn T n seen) (hm : n ≤ m) : Sn T m seen := ⟨h.zero, h.one, h.two, fun s hs => ⟨(h.inr s hs).1, Nat.lt_of_lt_of_le (h.inr s hs).2 hm⟩⟩
theorem Sn.app {T : List Int} {n m : Nat} {seen new : List Int} (h : Sn T n seen) (hm : n ≤ m) (hn : ∀ s ∈ new, 0 ≤ s ∧ s.toNat < m) : Sn T m (seen ++ new) := by
  obtain ⟨s, h1, h2⟩ := h.one
  obtain ⟨s', h3, h4⟩ := h.two
  exact ⟨List.mem_append_left _ h.zero, ⟨s, List.mem_append_left _ h1, h2⟩, ⟨s', List.mem_append_left _ h3, h4⟩, fun v hv => (List.mem_append.1 hv).elim ((h.mono hm).inr v) (hn v)⟩
theorem gS1_mem {tys seen : List Int} {t : Int} : ∀ (r : List Int) (b : Bool) (k v : Int), (∀ s ∈ r, s ∈ seen) → v ∈ seen → gS1 tys t b k v r ∈ seen
  | [], _, _, _, _, hv => hv
  | s :: r, b, k, v, h, hv => by
    unfold gS1
    have hr : ∀ x ∈ r, x ∈ seen := fun x hx => h x (.tail _ hx)
    split
    ·exact gS1_mem r _ _ _ hr (h s (.head _))
    exact gS1_mem r _ _ _ hr hv
theorem gS2_mem {tys seen : List Int} {t : Int} : ∀ (r : List Int) (v : Int), (∀ s ∈ r, s ∈ seen) → v ∈ seen → gS2 tys t v r ∈ seen
  | [], _, _, hv => hv
  | s :: r, v, h, hv => by
    unfold gS2
    have hr : ∀ x ∈ r, x ∈ seen := fun x hx => h x (.tail _ hx)
    split
    ·split
     ·exact gS2_mem r _ hr (h s (.head _))
     exact gS2_mem r _ hr hv
    exact hv
theorem gS2_keep {tys : List Int} {t : Int} {r : List Int} {v : Int} (h : tys.getD v.toNat 0 = t) : gS2 tys t v r = v := by
  cases r with
  | nil => rfl
  | cons s r => unfold gS2; rw [if_neg (by rw [h]; simp)]
theorem gS2_ty {tys : List Int} {t : Int} : ∀ (r : List Int) (v : Int), (∃ s ∈ r, tys.getD s.toNat 0 = t) → tys.getD (gS2 tys t v r).toNat 0 = t
  | [], v, h => by obtain ⟨s, hs, _⟩ := h; simp at hs
  | s :: r, v, h => by
    by_cases hv : tys.getD v.toNat 0 = t
    ·rw [gS2_keep hv]; exact hv
    unfold gS2
    rw [if_pos (by simpa using hv)]
    by_cases hs : tys.getD s.toNat 0 = t
    ·rw [if_pos (by simpa using hs), gS2_keep hs]; exact hs
    rw [if_neg (by simpa using hs)]
    refine gS2_ty r v ?_
    obtain ⟨x, hx, hxt⟩ := h
    rcases List.mem_cons.1 hx with rfl | hx
    ·exact absurd hxt hs
    exact ⟨x, hx, hxt⟩
def Ty12 (ts : List Int) : Prop := ∀ t ∈ ts, t = 1 ∨ t = 2
theorem Ty12.ne {ts : List Int} (h : Ty12 ts) : ∀ t ∈ ts, t ≠ 0 := fun t ht => by rcases h t ht with rfl | rfl <;> decide
section
variable (l : List UInt8)
theorem some_ok {g : Gn} {T seen : List Int} {t : Int} (h : PxT g T) (hs : Sn T g.types.length seen) (ht : t = 1 ∨ t = 2) : (gSome l seen t g).1 ∈ seen ∧ T.getD (gSome l seen t g).1.toNat 0 = t := by
  have hm : (gSome l seen t g).1 ∈ seen := gS2_mem seen _ (fun _ h => h) (gS1_mem seen _ _ _ (fun _ h => h) hs.zero)
  refine ⟨hm, ?_⟩
  rw [← h.getD (hs.inr _ hm).2]
  refine gS2_ty seen _ ?_
  obtain ⟨s, h1, h2⟩ : ∃ s ∈ seen, T.getD s.toNat 0 = t := by
    rcases ht with rfl | rfl
    ·exact hs.one
    exact hs.two
  exact ⟨s, h1, by rw [h.getD (hs.inr s h1).2]; exact h2⟩
theorem use_ok {T seen : List Int} {n : Nat} {v w : Int} (hs : Sn T n seen) (hn : n ≤ T.length) (hv : v ∈ seen) (hw : w = 0 ∨ T.getD v.toNat 0 = w) : r8use T seen v w = true := by
  obtain ⟨h1, h2⟩ := hs.inr v hv
  unfold r8use
  have e1 : decide (v < 0) = false := by simp; omega
  have e2 : decide (v ≥ T.length) = false := by simp; omega
  have e3 : seen.contains v = true := by simpa using hv
  have e4 : (w != 0 && (T.getD v.toNat 0 != w)) = false := by
    rcases hw with rfl | h
    ·rfl
    rw [h]; simp
  rw [e1, e2, e3, e4]; rfl
theorem each_ok {T seen : List Int} : ∀ (ts : List Int) {g : Gn}, PxT g T → Sn T g.types.length seen → Ty12 ts → r8types T seen (gEach l seen ts g).1 ts = true ∧ (∀ v ∈ (gEach l seen ts g).1, v ∈ seen) ∧ (gEach l seen ts g).1.map (fun v => T.getD v.toNat 0) = ts
  | [], g, _, _, _ => ⟨rfl, fun v hv => by simp [gEach] at hv, rfl⟩
  | t :: r, g, h, hs, ht => by
    obtain ⟨h1, h2⟩ := some_ok l h hs (ht t (.head _))
    obtain ⟨i1, i2, i3⟩ := each_ok (seen := seen) r (g := (gSome l seen t g).2) h hs (fun x hx => ht x (.tail _ hx))
    simp only [r8types, Bool.and_eq_true] at i1
    refine ⟨?_, fun v hv => ?_, ?_⟩
    ·simp only [gEach, r8types, r8typesGo, Bool.and_eq_true, List.length_cons]
     refine ⟨?_, use_ok hs h.len h1 (.inr h2), i1.2⟩
     have := i1.1
     simp only [beq_iff_eq] at this ⊢
     omega
    ·simp only [gEach, List.mem_cons] at hv
     rcases hv with rfl | hv
     ·exact h1
     exact i2 v hv
    simp only [gEach, List.map_cons, h2, i3]
theorem outs_ok {T : List Int} : ∀ (ts : List Int) (g : Gn), PxT (gOuts ts g).2 T → vOuts T (gOuts ts g).1 ts = true
  | [], _, _ => rfl
  | t :: r, g, h => by
    have ih := outs_ok r (gFresh t g).2 h
    have hg : PxT (gFresh t g).2 T := PxT.of (px_outs r (gFresh t g).2) h
    obtain ⟨q, e⟩ := hg
    have e2 : T = (g.types ++ [t]) ++ q := e
    simp only [gOuts, vOuts, Bool.and_eq_true]
    refine ⟨?_, ih⟩
    simp only [shVal, Bool.and_eq_true, Bool.or_eq_true, beq_iff_eq, gFresh]
    refine ⟨⟨decide_eq_true (by omega), decide_eq_true ?_⟩, .inr ?_⟩
    ·rw [e2]; simp only [List.length_append, List.length_cons, List.length_nil]; omega
    rw [e2]
    simp [List.getD]
theorem vOuts_zer {T : List Int} : ∀ {l ts : List Int}, vOuts T l ts = true → vOuts T l (zer l) = true
  | [], [], _ => rfl
  | [], _ :: _, h => by simp [vOuts] at h
  | _ :: _, [], h => by simp [vOuts] at h
  | v :: r, t :: ts, h => by
    simp only [vOuts, Bool.and_eq_true] at h
    have ih := vOuts_zer h.2
    have h1 := h.1
    simp only [shVal, Bool.and_eq_true] at h1
    show (shVal T v 0 && vOuts T r (zer r)) = true
    rw [ih]
    simp [shVal, h1.1.1, h1.1.2]
theorem vOuts_of {T : List Int} : ∀ {l ts : List Int}, vOuts T l ts = true → (∀ t ∈ ts, t ≠ 0) → l.all (r8inr T) = true ∧ l.map (fun v => T.getD v.toNat 0) = ts
  | [], [], _, _ => ⟨rfl, rfl⟩
  | [], _ :: _, h, _ => by simp [vOuts] at h
  | _ :: _, [], h, _ => by simp [vOuts] at h
  | v :: r, t :: ts, h, hn => by
    simp only [vOuts, Bool.and_eq_true] at h
    obtain ⟨i1, i2⟩ := vOuts_of h.2 (fun x hx => hn x (.tail _ hx))
    have h1 := h.1
    simp only [shVal, Bool.and_eq_true, Bool.or_eq_true, beq_iff_eq] at h1
    have ht : T.getD v.toNat 0 = t := h1.2.resolve_left (hn t (.head _))
    refine ⟨?_, ?_⟩
    ·simp only [List.all_cons, Bool.and_eq_true]
     exact ⟨by simp only [r8inr, Bool.and_eq_true]; exact h1.1, i1⟩
    simp only [List.map_cons, ht, i2]
theorem of_outs {T : List Int} {ts : List Int} {g : Gn} (h : PxT (gOuts ts g).2 T) (ht : Ty12 ts) : r8of T (gOuts ts g).1 = ts := by
  obtain ⟨h1, h2⟩ := vOuts_of (outs_ok ts g h) ht.ne
  unfold r8of
  rw [if_pos h1, h2]
theorem tyN_12 : ∀ (n : Nat) (g : Gn), Ty12 (gTyN l n g).1
  | 0, _ => fun t ht => by simp [gTyN] at ht
  | n + 1, g => fun t ht => by
    have h2 : (gPick l 2 g).1 < 2 := gPick_lt (by omega)
    simp only [gTyN, List.mem_cons] at ht
    rcases ht with rfl | ht
    ·omega
    exact tyN_12 n _ t ht
theorem types_12 (g : Gn) : Ty12 (gTypes l g).1 := tyN_12 l _ _
structure Env (u : Un) (f : Fl) : Prop where
  ty : f.ty = 1
  ar : r8Array aName u.arrays 0 ≥ 0
  fl : r8Place fName u.flows 0 ≥ 0
  flw : ∃ g, u.flows[(r8Place fName u.flows 0).toNat]? = some g ∧ g.types.take g.params.toNat = [1, 2] ∧ g.ty = 1
end
end
section
theorem bare_leaf {kind op n : Int} {name : ByteArray} {args outs : List Int} (ho : (kind = 3 ∨ kind = 4) ∨ op = 0) (hn : (kind = 1 ∨ kind = 2) ∨ n = 0) (hm : (kind = 5 ∨ kind = 6 ∨ kind = 7) ∨ name = nName) (h10 : kind ≠ 10) (h11 : kind ≠ 11) :
    r8bare (.mk kind op n name args outs [] []) = true := by
  have e0 : nName.toList = [] := ba_toList nName
  have hm2 : (kind = 5 ∨ kind = 6 ∨ kind = 7) ∨ name.toList = [] := hm.imp id fun h => by rw [h, e0]
  simp only [r8bare, r8op, r8num, r8name, r8kn, Nd.kind, Nd.op, Nd.n, Nd.name, Nd.kids, Nd.params, Bool.and_eq_true, Bool.or_eq_true, beq_iff_eq, List.length_nil]
  refine ⟨⟨⟨⟨ho, hn⟩, ?_⟩, ?_⟩, .inr rfl⟩
  ·rcases hm2 with (h | h | h) | h
   ·exact .inl (.inl (.inl h))
   ·exact .inl (.inl (.inr h))
   ·exact .inl (.inr h)
   exact .inr h
  rw [if_neg h11, if_neg h10]; rfl
section
variable (l : List UInt8) {u : Un} {f : Fl} {seen : List Int} {w : Wh} {deep : Int}
def Leaf (u : Un) (f : Fl) (seen : List Int) (w : Wh) (x : Nd) : Prop := r8bare x = true ∧ (x.kind == 10) = false ∧ (x.kind == 11) = false ∧ (sForm u f x seen w).ok f.types x.outs = true
theorem Leaf.ok {x : Nd} (h : Leaf u f seen w x) : vNode u f deep w seen x = true := by
  rw [vNode_simple u f deep w seen h.1 h.2.1 h.2.2.1]; exact h.2.2.2
theorem closed_leaf {x : Nd} (h1 : (x.kind == 10) = false) (h2 : (x.kind == 11) = false) : r8Closed x = r8Ender x.kind := by
  unfold r8Closed
  rw [h1, h2]; rfl
section
variable {A O : List Int} {op n : Int} {name : ByteArray}
theorem sF1 : sForm u f (.mk 1 op n name A O [] []) seen w = ⟨r8types f.types seen A [], some [1]⟩ := rfl
theorem sF2 : sForm u f (.mk 2 op n name A O [] []) seen w = ⟨(n == 0 || n == 1) && r8types f.types seen A [], some [2]⟩ := rfl
theorem sF3 : sForm u f (.mk 3 op n name A O [] []) seen w = ⟨r1IsOne op && r8types f.types seen A [(r5Operand op).1], some [(r5Operand op).2]⟩ := rfl
theorem sF4 : sForm u f (.mk 4 op n name A O [] []) seen w = ⟨r1IsTwo op && r8types f.types seen A [(r5Operand op).1, (r5Operand op).1] && f.types.getD (A.getD 0 0).toNat 0 == f.types.getD (A.getD 1 0).toNat 0, some [(r5Operand op).2]⟩ := rfl
theorem sF5 : sForm u f (.mk 5 op n name A O [] []) seen w = ⟨decide (r8Array name u.arrays 0 ≥ 0) && r8types f.types seen A [1], some [1]⟩ := rfl
theorem sF6 : sForm u f (.mk 6 op n name A O [] []) seen w = ⟨decide (r8Array name u.arrays 0 ≥ 0) && r8types f.types seen A [1, 1], none⟩ := rfl
theorem sF7 {g : Fl} (h : r8Place name u.flows 0 ≥ 0) (hg : u.flows[(r8Place name u.flows 0).toNat]? = some g) : sForm u f (.mk 7 op n name A O [] []) seen w = ⟨r8types f.types seen A (g.types.take g.params.toNat), some [g.ty]⟩ := by
  have e : sForm u f (.mk 7 op n name A O [] []) seen w = (if decide (r8Place name u.flows 0 ≥ 0) = true then match u.flows[(r8Place name u.flows 0).toNat]? with
      | some g => ⟨r8types f.types seen A (g.types.take g.params.toNat), some [g.ty]⟩
      | none => ⟨false, none⟩
    else ⟨false, none⟩) := rfl
  rw [e, if_pos (decide_eq_true h), hg]
theorem sF8 : sForm u f (.mk 8 op n name A O [] []) seen w = ⟨(A.length : Int) == 0, some [1]⟩ := rfl
theorem sF9 : sForm u f (.mk 9 op n name A O [] []) seen w = ⟨r8types f.types seen A [1], none⟩ := rfl
theorem sF12 : sForm u f (.mk 12 op n name A O [] []) seen w = ⟨w.If && r8types f.types seen A w.Yield, none⟩ := rfl
theorem sF13 : sForm u f (.mk 13 op n name A O [] []) seen w = ⟨w.Loop && r8types f.types seen A w.Next, none⟩ := rfl
theorem sF14 : sForm u f (.mk 14 op n name A O [] []) seen w = ⟨w.Loop && r8types f.types seen A w.Left, none⟩ := rfl
theorem sF15 : sForm u f (.mk 15 op n name A O [] []) seen w = ⟨r8types f.types seen A [f.ty], none⟩ := rfl
theorem leaf1 (hO : vOuts f.types O [1] = true) : Leaf u f seen w (.mk 1 0 n nName [] O [] []) :=
  ⟨bare_leaf (.inr rfl) (.inl (.inl rfl)) (.inr rfl) (by decide) (by decide), rfl, rfl, by
    rw [sF1]; simpa [SForm.ok, r8types, r8typesGo, Nd.outs] using hO⟩
theorem leaf2 (hn : n = 0 ∨ n = 1) (hO : vOuts f.types O [2] = true) : Leaf u f seen w (.mk 2 0 n nName [] O [] []) :=
  ⟨bare_leaf (.inr rfl) (.inl (.inr rfl)) (.inr rfl) (by decide) (by decide), rfl, rfl, by
    have h1 : (n == 0 || n == 1) = true := by rcases hn with rfl | rfl <;> rfl
    rw [sF2]; simp only [SForm.ok, h1, Nd.outs, hO]; rfl⟩
theorem leaf3 {a b : Int} (h1 : r1IsOne op = true) (h2 : r5Operand op = (a, b)) (hA : r8types f.types seen A [a] = true) (hO : vOuts f.types O [b] = true) : Leaf u f seen w (.mk 3 op 0 nName A O [] []) :=
  ⟨bare_leaf (.inl (.inl rfl)) (.inr rfl) (.inr rfl) (by decide) (by decide), rfl, rfl, by
    rw [sF3]; simp only [SForm.ok, h1, h2, Nd.outs, hA, hO]; rfl⟩
theorem leaf4 {a b : Int} (h1 : r1IsTwo op = true) (h2 : r5Operand op = (a, b)) (hA : r8types f.types seen A [a, a] = true) (ht : f.types.getD (A.getD 0 0).toNat 0 = f.types.getD (A.getD 1 0).toNat 0) (hO : vOuts f.types O [b] = true) : Leaf u f seen w (.mk 4 op 0 nName A O [] []) :=
  ⟨bare_leaf (.inl (.inr rfl)) (.inr rfl) (.inr rfl) (by decide) (by decide), rfl, rfl, by
    rw [sF4]; simp only [SForm.ok, h1, h2, Nd.outs, hA, hO, ht, Bool.true_and, Bool.and_true, beq_self_eq_true]⟩
theorem leaf5 (E : Env u f) (hA : r8types f.types seen A [1] = true) (hO : vOuts f.types O [1] = true) : Leaf u f seen w (.mk 5 0 0 aName A O [] []) :=
  ⟨bare_leaf (.inr rfl) (.inr rfl) (.inl (.inl rfl)) (by decide) (by decide), rfl, rfl, by
    rw [sF5]; simp only [SForm.ok, decide_eq_true E.ar, Nd.outs, hA, hO]; rfl⟩
theorem leaf6 (E : Env u f) (hA : r8types f.types seen A [1, 1] = true) : Leaf u f seen w (.mk 6 0 0 aName A [] [] []) :=
  ⟨bare_leaf (.inr rfl) (.inr rfl) (.inl (.inr (.inl rfl))) (by decide) (by decide), rfl, rfl, by
    rw [sF6]; simp only [SForm.ok, decide_eq_true E.ar, hA]; rfl⟩
theorem leaf7 (E : Env u f) (hA : r8types f.types seen A [1, 2] = true) (hO : vOuts f.types O [1] = true) : Leaf u f seen w (.mk 7 0 0 fName A O [] []) :=
  ⟨bare_leaf (.inr rfl) (.inr rfl) (.inl (.inr (.inr rfl))) (by decide) (by decide), rfl, rfl, by
    obtain ⟨g, h1, h2, h3⟩ := E.flw
    rw [sF7 E.fl h1]; simp only [SForm.ok, h2, h3, Nd.outs, hA, hO]; rfl⟩
theorem leaf8 (hO : vOuts f.types O [1] = true) : Leaf u f seen w (.mk 8 0 0 nName [] O [] []) :=
  ⟨bare_leaf (.inr rfl) (.inr rfl) (.inr rfl) (by decide) (by decide), rfl, rfl, by
    rw [sF8]; simp only [SForm.ok, Nd.outs, hO]; rfl⟩
theorem leaf9 (hA : r8types f.types seen A [1] = true) : Leaf u f seen w (.mk 9 0 0 nName A [] [] []) :=
  ⟨bare_leaf (.inr rfl) (.inr rfl) (.inr rfl) (by decide) (by decide), rfl, rfl, by
    rw [sF9]; simp only [SForm.ok, hA]; rfl⟩
theorem leafE {k : Int} {want : List Int} (hk : (k = 12 ∧ w.If = true ∧ want = w.Yield) ∨ (k = 13 ∧ w.Loop = true ∧ want = w.Next) ∨ (k = 14 ∧ w.Loop = true ∧ want = w.Left) ∨ (k = 15 ∧ want = [f.ty])) (hA : r8types f.types seen A want = true) : Leaf u f seen w (.mk k 0 0 nName A [] [] []) := by
  have hb : r8bare (.mk k 0 0 nName A [] [] []) = true := bare_leaf (.inr rfl) (.inr rfl) (.inr rfl) (by omega) (by omega)
  rcases hk with ⟨rfl, h1, rfl⟩ | ⟨rfl, h1, rfl⟩ | ⟨rfl, h1, rfl⟩ | ⟨rfl, rfl⟩
  ·exact ⟨hb, rfl, rfl, by rw [sF12]; simp only [SForm.ok, h1, hA]; rfl⟩
  ·exact ⟨hb, rfl, rfl, by rw [sF13]; simp only [SForm.ok, h1, hA]; rfl⟩
  ·exact ⟨hb, rfl, rfl, by rw [sF14]; simp only [SForm.ok, h1, hA]; rfl⟩
  exact ⟨hb, rfl, rfl, by rw [sF15]; simp only [SForm.ok, hA]; rfl⟩
end
theorem simple_ok (E : Env u f) {g : Gn} (h : PxT (gSimple l seen g).2 f.types) (hs : Sn f.types g.types.length seen) : Leaf u f seen w (gSimple l seen g).1 ∧ r8Ender (gSimple l seen g).1.kind = false := by
  have key : ∀ (kind op n : Int) (name : ByteArray) (ins outs : List Int) (g' : Gn), g'.types = g.types → PxT (gNode l kind op n name seen ins outs g').2 f.types → Ty12 ins →
      (∀ A O, r8types f.types seen A ins = true → A.map (fun v => f.types.getD v.toNat 0) = ins → vOuts f.types O outs = true → Leaf u f seen w (.mk kind op n name A O [] [])) → r8Ender kind = false →
      Leaf u f seen w (gNode l kind op n name seen ins outs g').1 ∧ r8Ender (gNode l kind op n name seen ins outs g').1.kind = false := by
    intro kind op n name ins outs g' hg hp hi hL hk
    have hp1 : PxT (gEach l seen ins g').2 f.types := PxT.of (px_outs outs _) hp
    have hp0 : PxT g' f.types := PxT.of (px_each l seen ins g') hp1
    obtain ⟨a1, _, a3⟩ := each_ok l (seen := seen) ins hp0 (by rw [hg]; exact hs) hi
    exact ⟨hL _ _ a1 a3 (outs_ok outs _ hp), hk⟩
  have i1 : Ty12 [1] := by intro t ht; simp at ht; omega
  have i2 : Ty12 [2] := by intro t ht; simp at ht; omega
  have i11 : Ty12 [1, 1] := by intro t ht; simp at ht; omega
  have i12 : Ty12 [1, 2] := by intro t ht; simp at ht; omega
  have i0 : Ty12 [] := by intro t ht; simp at ht
  have nilA : ∀ {A : List Int}, A.map (fun v => f.types.getD v.toNat 0) = [] → A = [] := fun h => by simpa using h
  have twoA : ∀ {A : List Int} {t : Int}, A.map (fun v => f.types.getD v.toNat 0) = [t, t] → f.types.getD (A.getD 0 0).toNat 0 = f.types.getD (A.getD 1 0).toNat 0 := by
    intro A t hA
    rcases A with _ | ⟨a, _ | ⟨b, _ | ⟨c, A⟩⟩⟩
    ·simp at hA
    ·simp at hA
    ·simp only [List.map_cons, List.map_nil, List.cons.injEq, and_true] at hA
     show f.types.getD a.toNat 0 = f.types.getD b.toNat 0
     rw [hA.1, hA.2]
    simp at hA
  have two00 : ∀ {A : List Int}, r8types f.types seen A [1, 1] = true → r8types f.types seen A [0, 0] = true := by
    intro A hA
    rcases A with _ | ⟨a, _ | ⟨b, _ | ⟨c, A⟩⟩⟩
    ·simp [r8types] at hA
    ·simp [r8types] at hA
    ·simp only [r8types, r8typesGo, r8use, Bool.and_eq_true, Bool.not_eq_true', Bool.or_eq_false_iff] at hA ⊢
     simp_all
    simp [r8types] at hA
    omega
  unfold gSimple at h ⊢
  simp only at h ⊢
  split
  ·rename_i hk; simp only [hk, if_true] at h
   exact key 1 0 _ nName [] [1] _ rfl h i0 (fun A O _ h2 h3 => by rw [nilA h2]; exact leaf1 h3) rfl
  rename_i n0; rw [if_neg n0] at h
  split
  ·rename_i hk; rw [if_pos hk] at h
   have h2 : (gPick l 2 (gPick l 12 g).2).1 < 2 := gPick_lt (by omega)
   exact key 2 0 _ nName [] [2] _ rfl h i0 (fun A O _ h2 h3 => by rw [nilA h2]; exact leaf2 (by omega) h3) rfl
  rename_i n1; rw [if_neg n1] at h
  split
  ·rename_i hk; rw [if_pos hk] at h
   have h4 : (gPick l 4 (gPick l 12 g).2).1 < 4 := gPick_lt (by omega)
   generalize (gPick l 4 (gPick l 12 g).2).1 = z at *
   have hz : gOnes.getD z 0 = 20 ∨ gOnes.getD z 0 = 21 ∨ gOnes.getD z 0 = 23 ∨ gOnes.getD z 0 = 27 := by
     have h5 : z = 0 ∨ z = 1 ∨ z = 2 ∨ z = 3 := by omega
     rcases h5 with rfl | rfl | rfl | rfl
     ·exact .inl rfl
     ·exact .inr (.inl rfl)
     ·exact .inr (.inr (.inl rfl))
     exact .inr (.inr (.inr rfl))
   exact key 3 _ 0 nName [1] [1] _ rfl h i1 (fun A O h1 _ h3 => leaf3 (by rcases hz with e | e | e | e <;> rw [e] <;> rfl) (by rcases hz with e | e | e | e <;> rw [e] <;> rfl) h1 h3) rfl
  rename_i n2; rw [if_neg n2] at h
  split
  ·rename_i hk; rw [if_pos hk] at h
   exact key 3 22 0 nName [2] [2] _ rfl h i2 (fun A O h1 _ h3 => leaf3 rfl rfl h1 h3) rfl
  rename_i n3; rw [if_neg n3] at h
  split
  ·rename_i hk; rw [if_pos hk] at h
   have h11 : (gPick l 11 (gPick l 12 g).2).1 < 11 := gPick_lt (by omega)
   exact key 4 _ 0 nName [1, 1] [1] _ rfl h i11 (fun A O h1 h2 h3 => leaf4 (a := 1) (b := 1) (by simp [r1IsTwo]; omega) (by
     unfold r5Operand
     rw [if_neg (by simp; omega), if_neg (by simp; omega), if_neg (by simp; omega)]) h1 (twoA h2) h3) rfl
  rename_i n4; rw [if_neg n4] at h
  split
  ·rename_i hk; rw [if_pos hk] at h
   have h6 : (gPick l 6 (gPick l 12 g).2).1 < 6 := gPick_lt (by omega)
   refine key 4 _ 0 nName [1, 1] [2] _ rfl h i11 (fun A O h1 h2 h3 => ?_) rfl
   by_cases hz : (gPick l 6 (gPick l 12 g).2).1 < 4
   ·exact leaf4 (a := 1) (b := 2) (by simp [r1IsTwo]; omega) (by
      unfold r5Operand
      rw [if_neg (by simp; omega), if_neg (by simp; omega), if_pos (by simp; omega)]) h1 (twoA h2) h3
   exact leaf4 (a := 0) (b := 2) (by simp [r1IsTwo]; omega) (by
     unfold r5Operand
     rw [if_neg (by simp; omega), if_pos (by simp; omega)]) (two00 h1) (twoA h2) h3
  rename_i n5; rw [if_neg n5] at h
  split
  ·rename_i hk; rw [if_pos hk] at h
   exact key 5 0 0 aName [1] [1] _ rfl h i1 (fun A O h1 _ h3 => leaf5 E h1 h3) rfl
  rename_i n6; rw [if_neg n6] at h
  split
  ·rename_i hk; rw [if_pos hk] at h
   exact key 6 0 0 aName [1, 1] [] _ rfl h i11 (fun A O h1 _ h3 => by
     cases O with
     | nil => exact leaf6 E h1
     | cons _ _ => simp [vOuts] at h3) rfl
  rename_i n7; rw [if_neg n7] at h
  split
  ·rename_i hk; rw [if_pos hk] at h
   exact key 7 0 0 fName [1, 2] [1] _ rfl h i12 (fun A O h1 _ h3 => leaf7 E h1 h3) rfl
  rename_i n8; rw [if_neg n8] at h
  split
  ·rename_i hk; rw [if_pos hk] at h
   exact key 8 0 0 nName [] [1] _ rfl h i0 (fun A O _ h2 h3 => by rw [nilA h2]; exact leaf8 h3) rfl
  rename_i hk; rw [if_neg hk] at h
  exact key 9 0 0 nName [1] [] _ rfl h i1 (fun A O h1 _ h3 => by
    cases O with
    | nil => exact leaf9 h1
    | cons _ _ => simp [vOuts] at h3) rfl
end
end
section
structure Plc.T12 (p : Plc) : Prop where
  y : Ty12 p.Yield
  n : Ty12 p.Next
  v : Ty12 p.Left
structure Wr (p : Plc) (w : Wh) (L : List Nd) : Prop where
  i : p.If = true → w.If = true
  lp : p.Loop = true → w.Loop = true ∧ w.Next = p.Next
  y : r8last L = 12 → w.Yield = p.Yield
  lv : r8Leaves L = true → w.Left = p.Left
section
variable (l : List UInt8) {u : Un} {f : Fl}
theorem gEnd_ok (E : Env u f) {seen : List Int} {p : Plc} {g : Gn} {w : Wh} (h : PxT (gEnd l seen p g).2 f.types) (hs : Sn f.types g.types.length seen) (hp : p.T12) (W : Wr p w [(gEnd l seen p g).1]) :
    Leaf u f seen w (gEnd l seen p g).1 ∧ r8Ender (gEnd l seen p g).1.kind = true := by
  have key : ∀ (k : Int) (ins : List Int) (g' : Gn), g'.types = g.types → PxT (gNode l k 0 0 nName seen ins [] g').2 f.types → Ty12 ins →
      ((k = 12 ∧ w.If = true ∧ ins = w.Yield) ∨ (k = 13 ∧ w.Loop = true ∧ ins = w.Next) ∨ (k = 14 ∧ w.Loop = true ∧ ins = w.Left) ∨ (k = 15 ∧ ins = [f.ty])) →
      Leaf u f seen w (gNode l k 0 0 nName seen ins [] g').1 ∧ r8Ender (gNode l k 0 0 nName seen ins [] g').1.kind = true := by
    intro k ins g' hg hp' hi hk
    have hp0 : PxT g' f.types := PxT.of (px_each l seen ins g') hp'
    obtain ⟨a1, _, _⟩ := each_ok l (seen := seen) ins hp0 (by rw [hg]; exact hs) hi
    refine ⟨leafE hk a1, ?_⟩
    show (decide (k ≥ 12) && decide (k ≤ 15)) = true
    rw [decide_eq_true (by omega), decide_eq_true (by omega)]; rfl
  unfold gEnd at h W ⊢
  simp only at h W ⊢
  split
  ·rename_i hk; rw [if_pos hk] at h W
   exact key 12 p.Yield _ rfl h hp.y (.inl ⟨rfl, W.i hk.1, (W.y rfl).symm⟩)
  rename_i n1; rw [if_neg n1] at h W
  split
  ·rename_i hk; rw [if_pos hk] at h W
   exact key 13 p.Next _ rfl h hp.n (.inr (.inl ⟨rfl, (W.lp hk.1).1, (W.lp hk.1).2.symm⟩))
  rename_i n2; rw [if_neg n2] at h W
  split
  ·rename_i hk; rw [if_pos hk] at h W
   exact key 14 p.Left _ rfl h hp.v (.inr (.inr (.inl ⟨rfl, (W.lp hk).1, (W.lv rfl).symm⟩)))
  rename_i hk; rw [if_neg hk] at h W
  exact key 15 [1] _ rfl h (by intro t ht; simp at ht; omega) (.inr (.inr (.inr ⟨rfl, by rw [E.ty]⟩)))
def RecOk (u : Un) (f : Fl) (d : Nat) (rec : GRec) : Prop := ∀ (seen : List Int) (p : Plc) (g : Gn) (w : Wh) (deep : Int), PxT (rec seen p g).2 f.types → Sn f.types g.types.length seen → p.T12 → Wr p w (rec seen p g).1 → deep + d ≤ 100 → vList u f deep w seen (rec seen p g).1 = true
theorem if_ok {d : Nat} {rec : GRec} (hr : RecOk u f d rec) (hpx : RecPx rec) {all : List Int} {p : Plc} {g : Gn} {w : Wh} {deep : Int} (h : PxT (gIf l rec all p g).2 f.types) (hs : Sn f.types g.types.length all) (hp : p.T12)
    (hlp : p.Loop = true → w.Loop = true ∧ w.Next = p.Next) (hlv : r8LeavesN (gIf l rec all p g).1 = true → w.Left = p.Left) (hd : deep + 1 + d ≤ 100) : vNode u f deep w all (gIf l rec all p g).1 = true := by
  unfold gIf at h hlv ⊢
  simp only at h hlv ⊢
  have t12 := types_12 l g
  generalize hT : gTypes l g = T at *
  generalize hC : gEach l all [2] T.2 = C at *
  have eT : T.2.types = g.types := by rw [← hT, (gTypes_st l g).1]
  have eC : C.2.types = g.types := by rw [← hC, (gEach_st l all [2] T.2).1]; exact eT
  have hA := fun w' deep' => hr all ⟨true, p.Loop, T.1, p.Next, p.Left⟩ C.2 w' deep'
  have pA := hpx all ⟨true, p.Loop, T.1, p.Next, p.Left⟩ C.2
  generalize rec all ⟨true, p.Loop, T.1, p.Next, p.Left⟩ C.2 = A at *
  have hB := fun w' deep' => hr all ⟨true, p.Loop, T.1, p.Next, p.Left⟩ A.2 w' deep'
  have pB := hpx all ⟨true, p.Loop, T.1, p.Next, p.Left⟩ A.2
  generalize rec all ⟨true, p.Loop, T.1, p.Next, p.Left⟩ A.2 = B at *
  have xB : PxT B.2 f.types := PxT.of (px_shut _ _ _) h
  have xA : PxT A.2 f.types := PxT.of pB xB
  have xC : PxT C.2 f.types := PxT.of pA xA
  have sC : Sn f.types C.2.types.length all := by rw [eC]; exact hs
  have sA : Sn f.types A.2.types.length all := sC.mono pA.len
  have xT : PxT T.2 f.types := by obtain ⟨q, e⟩ := xC; exact ⟨q, by rw [e, eC, eT]⟩
  have hCt : r8types f.types all C.1 [2] = true := by
    have := (each_ok l (seen := all) [2] xT (by rw [eT]; exact hs) (by intro t ht; simp at ht; omega)).1
    rw [hC] at this; exact this
  have p12 : Plc.T12 ⟨true, p.Loop, T.1, p.Next, p.Left⟩ := ⟨t12, hp.n, hp.v⟩
  -- a node with such outs
  have key : ∀ o : List Int, vOuts f.types o (zer o) = true → (r8Closed (.mk 10 0 0 nName C.1 o [] [A.1, B.1]) = true → o = []) → (r8last A.1 = 12 → r8of f.types o = T.1) → (r8last B.1 = 12 → r8of f.types o = T.1) →
      (r8LeavesN (.mk 10 0 0 nName C.1 o [] [A.1, B.1]) = true → w.Left = p.Left) → vNode u f deep w all (.mk 10 0 0 nName C.1 o [] [A.1, B.1]) = true := by
    intro o ho hc hyA hyB hl
    have e0 : nName.toList = [] := ba_toList nName
    have hb : r8bare (.mk 10 0 0 nName C.1 o [] [A.1, B.1]) = true := by
      simp [r8bare, r8op, r8num, r8name, r8kn, Nd.kind, Nd.op, Nd.n, Nd.name, Nd.kids, Nd.params, e0]
    rw [vNode_if u f deep w all hb rfl rfl]
    have hl2 : ∀ q, q ∈ [A.1, B.1] → r8Leaves q = true → w.Left = p.Left := by
      intro q hq hq2
      refine hl ?_
      simp only [r8LeavesN, r8LeavesK, Bool.or_false]
      simp only [List.mem_cons, List.not_mem_nil, or_false] at hq
      rcases hq with rfl | rfl
      ·rw [hq2]; rfl
      rw [hq2]; simp
    have vA := hA (w1 w f (.mk 10 0 0 nName C.1 o [] [A.1, B.1])) (deep + 1) xA sC p12 ⟨fun _ => rfl, hlp, hyA, hl2 _ (.head _)⟩ hd
    have vB := hB (w1 w f (.mk 10 0 0 nName C.1 o [] [A.1, B.1])) (deep + 1) xB sA p12 ⟨fun _ => rfl, hlp, hyB, hl2 _ (.tail _ (.head _))⟩ hd
    have ho2 : outOk (.mk 10 0 0 nName C.1 o [] [A.1, B.1]) = true := by
      unfold outOk
      cases hcl : r8Closed (.mk 10 0 0 nName C.1 o [] [A.1, B.1]) with
      | false => simp
      | true => rw [hc hcl]; rfl
    simp only [Bool.and_eq_true]
    exact ⟨⟨⟨⟨hCt, vA⟩, vB⟩, ho2⟩, ho⟩
  unfold gShut at h hlv ⊢
  split
  ·rename_i hcl
   rw [if_pos hcl] at hlv
   have hcl2 : (r8last A.1 != 12 && r8last B.1 != 12) = true := hcl
   simp only [Bool.and_eq_true, bne_iff_ne] at hcl2
   exact key [] rfl (fun _ => rfl) (fun e => absurd e hcl2.1) (fun e => absurd e hcl2.2) hlv
  rename_i hcl
  rw [if_neg hcl] at h hlv
  have ho := of_outs (T := f.types) h t12
  exact key _ (vOuts_zer (outs_ok _ _ h)) (fun hc => absurd hc hcl) (fun _ => ho) (fun _ => ho) hlv
theorem loop_ok {d : Nat} {rec : GRec} (hr : RecOk u f d rec) (hpx : RecPx rec) {all : List Int} {g : Gn} {w : Wh} {deep : Int} (h : PxT (gLoop l rec all g).2 f.types) (hs : Sn f.types g.types.length all) (hd : deep + 1 + d ≤ 100) : vNode u f deep w all (gLoop l rec all g).1 = true := by
  unfold gLoop at h ⊢
  simp only at h ⊢
  have t12 := types_12 l g
  generalize hT : gTypes l g = T at *
  have o12 := types_12 l T.2
  generalize hO : gTypes l T.2 = O at *
  generalize hA : gEach l all T.1 O.2 = A at *
  have eT : T.2.types = g.types := by rw [← hT, (gTypes_st l g).1]
  have eO : O.2.types = g.types := by rw [← hO, (gTypes_st l T.2).1]; exact eT
  have eA : A.2.types = g.types := by rw [← hA, (gEach_st l all T.1 O.2).1]; exact eO
  generalize hQ : gOuts T.1 A.2 = Q at *
  have hB := fun w' deep' => hr (all ++ Q.1) ⟨false, true, [], T.1, O.1⟩ Q.2 w' deep'
  have pB := hpx (all ++ Q.1) ⟨false, true, [], T.1, O.1⟩ Q.2
  generalize rec (all ++ Q.1) ⟨false, true, [], T.1, O.1⟩ Q.2 = B at *
  have xB : PxT B.2 f.types := PxT.of (px_shut _ _ _) h
  have xQ : PxT Q.2 f.types := PxT.of pB xB
  have pQ : Px A.2 Q.2 := by rw [← hQ]; exact px_outs T.1 A.2
  have xA : PxT A.2 f.types := PxT.of pQ xQ
  have xO : PxT O.2 f.types := by obtain ⟨q, e⟩ := xA; exact ⟨q, by rw [e, eA, eO]⟩
  have hAt : r8types f.types all A.1 T.1 = true := by
    have := (each_ok l (seen := all) T.1 xO (by rw [eO]; exact hs) t12).1
    rw [hA] at this; exact this
  have hQo : vOuts f.types Q.1 T.1 = true := by have := outs_ok (T := f.types) T.1 A.2 (by rw [hQ]; exact xQ); rw [hQ] at this; exact this
  have hQt : r8of f.types Q.1 = T.1 := by have := of_outs (T := f.types) (g := A.2) (ts := T.1) (by rw [hQ]; exact xQ) t12; rw [hQ] at this; exact this
  have sQ : Sn f.types Q.2.types.length (all ++ Q.1) := by
    have hin := InR.outs T.1 A.2
    rw [hQ] at hin
    exact hs.app (by have := pQ.len; rw [eA] at this; exact this) hin
  have key : ∀ o : List Int, vOuts f.types o (zer o) = true → (r8Closed (.mk 11 0 0 nName A.1 o Q.1 [B.1]) = true → o = []) → (r8Leaves B.1 = true → r8of f.types o = O.1) → vNode u f deep w all (.mk 11 0 0 nName A.1 o Q.1 [B.1]) = true := by
    intro o ho hc hl
    have e0 : nName.toList = [] := ba_toList nName
    have hb : r8bare (.mk 11 0 0 nName A.1 o Q.1 [B.1]) = true := by
      simp [r8bare, r8op, r8num, r8name, r8kn, Nd.kind, Nd.op, Nd.n, Nd.name, Nd.kids, Nd.params, e0]
    rw [vNode_loop u f deep w all hb rfl rfl]
    have vB := hB (w2 f (.mk 11 0 0 nName A.1 o Q.1 [B.1])) (deep + 1) xB sQ ⟨fun t ht => (by simp at ht), t12, o12⟩ ⟨fun e => (by cases e), fun _ => ⟨rfl, hQt⟩, fun _ => rfl, hl⟩ hd
    have ho2 : outOk (.mk 11 0 0 nName A.1 o Q.1 [B.1]) = true := by
      unfold outOk
      cases hcl : r8Closed (.mk 11 0 0 nName A.1 o Q.1 [B.1]) with
      | false => simp
      | true => rw [hc hcl]; rfl
    simp only [Bool.and_eq_true]
    refine ⟨⟨⟨⟨?_, vOuts_zer hQo⟩, vB⟩, ho2⟩, ho⟩
    show r8types f.types all A.1 (r8of f.types Q.1) = true
    rw [hQt]; exact hAt
  unfold gShut at h ⊢
  split
  ·rename_i hcl
   have hcl2 : (!r8Leaves B.1) = true := hcl
   exact key [] rfl (fun _ => rfl) (fun e => by rw [e] at hcl2; cases hcl2)
  rename_i hcl
  rw [if_neg hcl] at h
  have ho := of_outs (T := f.types) h o12
  exact key _ (vOuts_zer (outs_ok _ _ h)) (fun hc => absurd hc hcl) (fun _ => ho)
theorem any_ok (E : Env u f) {d : Nat} {rec : Option GRec} (hr : ∀ r, rec = some r → RecOk u f d r ∧ RecPx r) {all : List Int} {p : Plc} {g : Gn} {w : Wh} {deep : Int} (h : PxT (gAny l rec all p g).2 f.types) (hs : Sn f.types g.types.length all) (hp : p.T12)
    (hlp : p.Loop = true → w.Loop = true ∧ w.Next = p.Next) (hlv : r8LeavesN (gAny l rec all p g).1 = true → w.Left = p.Left) (hd : deep + 1 + d ≤ 100) : vNode u f deep w all (gAny l rec all p g).1 = true := by
  have hs' : Sn f.types ({ g with left := g.left - 1 } : Gn).types.length all := hs
  have ps := px_simple l all { g with left := g.left - 1 }
  have sS := hs'.mono ps.len
  unfold gAny at h hlv ⊢
  simp only at h hlv ⊢
  cases rec with
  | none => exact (simple_ok l E (w := w) h hs').1.ok
  | some r =>
    simp only at h hlv ⊢
    split
    ·rename_i hk; rw [if_pos hk] at h hlv
     exact if_ok l (hr r rfl).1 (hr r rfl).2 h sS hp hlp hlv hd
    rename_i n0; rw [if_neg n0] at h hlv
    split
    ·rename_i hk; rw [if_pos hk] at h hlv
     exact loop_ok l (hr r rfl).1 (hr r rfl).2 h sS hd
    rename_i n1; rw [if_neg n1] at h
    exact (simple_ok l E (w := w) h hs').1.ok
theorem last_cons {x : Nd} {q : List Nd} (h : q ≠ []) : r8last (x :: q) = r8last q := by
  cases q with
  | nil => exact absurd rfl h
  | cons y r => unfold r8last; rw [List.getLast?_cons_cons]
theorem tail_ok (E : Env u f) {d : Nat} {rec : Option GRec} (hr : ∀ r, rec = some r → RecOk u f d r ∧ RecPx r) {p : Plc} (hp : p.T12) {w : Wh} {deep : Int} (hd : deep + 1 + d ≤ 100) (hd0 : deep ≤ 100) : ∀ (i : Nat) (all : List Int) (g : Gn), PxT (gTail l rec p i all g).2 f.types → Sn f.types g.types.length all → Wr p w (gTail l rec p i all g).1 →
    vGo u f deep w all (gTail l rec p i all g).1 = true := by
  have e100 : (!decide (deep > 100)) = true := by rw [decide_eq_false (by omega)]; rfl
  have fin : ∀ (all : List Int) (g : Gn), PxT (gEnd l all p g).2 f.types → Sn f.types g.types.length all → Wr p w [(gEnd l all p g).1] → vGo u f deep w all [(gEnd l all p g).1] = true := by
    intro all g h hs W
    obtain ⟨h1, h2⟩ := gEnd_ok l E h hs hp W
    have hc : r8Closed (gEnd l all p g).1 = true := by rw [closed_leaf h1.2.1 h1.2.2.1]; exact h2
    simp only [vGo, e100, h1.ok (deep := deep), hc, List.isEmpty_nil, Bool.and_true]
    rfl
  intro i
  induction i with
  | zero => intro all g h hs W; exact fin all g h hs W
  | succ i ih =>
    intro all g h hs W
    unfold gTail at h W ⊢
    split
    ·rename_i hk; rw [if_pos hk] at h W
     exact fin all g h hs W
    rename_i n0; rw [if_neg n0] at h W
    split
    ·rename_i hc; rw [if_pos hc] at h W
     have hv := any_ok l E hr (deep := deep) h hs hp W.lp (fun e => W.lv (by simp only [r8Leaves, e, Bool.true_or])) hd
     simp only [vGo, e100, hv, hc, List.isEmpty_nil, Bool.and_true]
     rfl
    rename_i hc; rw [if_neg hc] at h W
    have hne := gTail_ne l rec p i (all ++ (gAny l rec all p g).1.outs) (gAny l rec all p g).2
    have px1 : PxT (gAny l rec all p g).2 f.types := PxT.of (px_tail l (fun r e => (hr r e).2) p i _ _) h
    have hv := any_ok l E hr (deep := deep) px1 hs hp W.lp (fun e => W.lv (by simp only [r8Leaves, e, Bool.true_or])) hd
    have hcf : r8Closed (gAny l rec all p g).1 = false := by simpa using hc
    have hem : (gTail l rec p i (all ++ (gAny l rec all p g).1.outs) (gAny l rec all p g).2).1.isEmpty = false := by
      cases hq : (gTail l rec p i (all ++ (gAny l rec all p g).1.outs) (gAny l rec all p g).2).1 with
      | nil => exact absurd hq hne
      | cons _ _ => rfl
    have pg := (px_any l (fun r e => (hr r e).2) all p g).len
    have ho := (any_outs l (rec := rec) all p g).1
    have hgo := ih _ _ h (hs.app pg ho) ⟨W.i, W.lp, fun e => W.y (by rw [last_cons hne]; exact e), fun e => W.lv (by simp only [r8Leaves, e, Bool.or_true])⟩
    simp only [vGo, e100, hv, hcf, hem, hgo, Bool.and_true]
    rfl
theorem list_ok (E : Env u f) (d : Nat) : RecOk u f (d + 1) (gList l d) := by
  induction d with
  | zero =>
    intro seen p g w deep h hs hp W hd
    rw [gList_tail] at h W ⊢
    have := tail_ok l E (d := 0) (rec := gRec l 0) (fun r h => by cases h) hp (w := w) (deep := deep) (by simpa using hd) (by omega) _ _ _ h hs W
    have hne := gTail_ne l (gRec l 0) p (gPick l 6 g).1 seen (gPick l 6 g).2
    simp only [vList, this, Bool.and_true]
    cases hq : (gTail l (gRec l 0) p (gPick l 6 g).1 seen (gPick l 6 g).2).1 with
    | nil => exact absurd hq hne
    | cons _ _ => rfl
  | succ d ih =>
    intro seen p g w deep h hs hp W hd
    rw [gList_tail] at h W ⊢
    have := tail_ok l E (d := d + 1) (rec := gRec l (d + 1)) (fun r h => by cases h; exact ⟨ih, px_list l d⟩) hp (w := w) (deep := deep) (by omega) (by omega) _ _ _ h hs W
    have hne := gTail_ne l (gRec l (d + 1)) p (gPick l 6 g).1 seen (gPick l 6 g).2
    simp only [vList, this, Bool.and_true]
    cases hq : (gTail l (gRec l (d + 1)) p (gPick l 6 g).1 seen (gPick l 6 g).2).1 with
    | nil => exact absurd hq hne
    | cons _ _ => rfl
end
end
section
def Tx (g g' : Gn) : Prop := Ty12 g.types → Ty12 g'.types
section
variable (l : List UInt8)
theorem tx_each (seen ts : List Int) (g : Gn) : Tx g (gEach l seen ts g).2 := fun h => by rw [(gEach_st l seen ts g).1]; exact h
theorem tx_types (g : Gn) : Tx g (gTypes l g).2 := fun h => by rw [(gTypes_st l g).1]; exact h
theorem tx_outs {ts : List Int} (ht : Ty12 ts) (g : Gn) : Tx g (gOuts ts g).2 := fun h => by
  rw [(gOuts_st ts g).1]
  intro t hx
  rcases List.mem_append.1 hx with hx | hx
  ·exact h t hx
  exact ht t hx
theorem tx_node (kind op n : Int) (name : ByteArray) (seen ins : List Int) {outs : List Int} (ho : Ty12 outs) (g : Gn) : Tx g (gNode l kind op n name seen ins outs g).2 := fun h => tx_outs ho _ (tx_each l seen ins g h)
theorem t12_1 : Ty12 [1] := by intro t ht; simp at ht; omega
theorem t12_2 : Ty12 [2] := by intro t ht; simp at ht; omega
theorem t12_0 : Ty12 [] := by intro t ht; simp at ht
theorem tx_simple (seen : List Int) (g : Gn) : Tx g (gSimple l seen g).2 := by
  intro h
  unfold gSimple
  simp only
  repeat' split
  all_goals first
  | exact tx_node l _ _ _ _ _ _ t12_1 _ h
  | exact tx_node l _ _ _ _ _ _ t12_2 _ h
  | exact tx_node l _ _ _ _ _ _ t12_0 _ h
theorem tx_end (seen : List Int) (p : Plc) (g : Gn) : Tx g (gEnd l seen p g).2 := by
  intro h
  unfold gEnd
  simp only
  repeat' split
  all_goals exact tx_node l _ _ _ _ _ _ t12_0 _ h
def RecTx (rec : GRec) : Prop := ∀ seen p g, Tx g (rec seen p g).2
theorem tx_shut (x : List Int → Nd) {t : List Int} (ht : Ty12 t) (g : Gn) : Tx g (gShut x t g).2 := by
  intro h
  unfold gShut
  split
  ·exact h
  exact tx_outs ht g h
theorem tx_if {rec : GRec} (hr : RecTx rec) (all : List Int) (p : Plc) (g : Gn) : Tx g (gIf l rec all p g).2 := fun h => by
  unfold gIf
  exact tx_shut _ (types_12 l g) _ (hr _ _ _ (hr _ _ _ (tx_each l _ _ _ (tx_types l g h))))
theorem tx_loop {rec : GRec} (hr : RecTx rec) (all : List Int) (g : Gn) : Tx g (gLoop l rec all g).2 := fun h => by
  unfold gLoop
  exact tx_shut _ (types_12 l _) _ (hr _ _ _ (tx_outs (types_12 l g) _ (tx_each l _ _ _ (tx_types l _ (tx_types l g h)))))
theorem tx_any {rec : Option GRec} (hr : ∀ r, rec = some r → RecTx r) (all : List Int) (p : Plc) (g : Gn) : Tx g (gAny l rec all p g).2 := fun h => by
  have hs : Ty12 (gPick l 6 (gSimple l all { g with left := g.left - 1 }).2).2.types := tx_simple l all { g with left := g.left - 1 } h
  unfold gAny
  simp only
  cases rec with
  | none => exact hs
  | some r =>
    simp only
    split
    ·exact tx_if l (hr r rfl) all p _ hs
    split
    ·exact tx_loop l (hr r rfl) all _ hs
    exact hs
theorem tx_tail {rec : Option GRec} (hr : ∀ r, rec = some r → RecTx r) (p : Plc) : ∀ (i : Nat) (all : List Int) (g : Gn), Tx g (gTail l rec p i all g).2
  | 0, all, g => tx_end l all p g
  | i + 1, all, g => fun h => by
    unfold gTail
    split
    ·exact tx_end l all p g h
    split
    ·exact tx_any l hr all p g h
    exact tx_tail hr p i _ _ (tx_any l hr all p g h)
theorem tx_list (d : Nat) : RecTx (gList l d) := by
  induction d with
  | zero =>
    intro seen p g h
    rw [gList_tail]
    exact tx_tail l (rec := gRec l 0) (fun r h => by cases h) p _ _ _ h
  | succ d ih =>
    intro seen p g h
    rw [gList_tail]
    exact tx_tail l (rec := gRec l (d + 1)) (fun r h => by cases h; exact ih) p _ _ _ h
theorem firsts_false {k n : Nat} {v : Int} (h : (k : Int) ≤ v) : (firsts k n).getD v.toNat false = false := by
  unfold firsts
  rw [List.getD]
  rw [List.getElem?_append_right (by simp; omega)]
  cases hq : (List.replicate (n - k) false)[v.toNat - (List.replicate k true).length]? with
  | none => rfl
  | some b => rw [List.eq_of_mem_replicate (List.mem_of_getElem? hq)]; rfl
theorem flow_parts (name : ByteArray) (params : List Int) (hS : (gOuts params ⟨0, [], 0⟩).1 = iota params.length) (g : Gn) : ∃ (B : Gn) (L : List Nd) (R : Gn), (gFlow l name params g).1 = ⟨name, 1, params.length, R.types, gBegin params.length (params.length + 1) ++ L⟩ ∧ (L, R) = gList l 3 (iota params.length ++ [(params.length : Int), ((params.length + 1 : Nat) : Int)]) plc0 B ∧ B.types = params ++ [1, 2] := by
  have hG : ∀ (ts : List Int) (a b : Gn), a.types = b.types → (gOuts ts a).1 = (gOuts ts b).1 := by
    intro ts
    induction ts with
    | nil => intro a b _; rfl
    | cons t r ih =>
      intro a b e
      simp only [gOuts, gFresh, e]
      rw [ih { a with types := b.types ++ [t] } { b with types := b.types ++ [t] } rfl]
  have h1 : (gOuts params { g with types := [], left := 30 }).1 = iota params.length := (hG params { g with types := [], left := 30 } ⟨0, [], 0⟩ rfl).trans hS
  have h2 : (gOuts params { g with types := [], left := 30 }).2.types = params := by rw [(gOuts_st params _).1]; simp
  refine ⟨(gFresh 2 (gFresh 1 (gOuts params { g with types := [], left := 30 }).2).2).2, _, _, ?_, rfl, ?_⟩
  ·unfold gFlow
   simp only [h1]
   simp only [gFresh, h2, List.length_append, List.length_cons, List.length_nil]
   rfl
  simp only [gFresh, h2]; simp
end
section
variable (l : List UInt8) {u : Un}
theorem flow_ok (name : ByteArray) (params : List Int) (hS : (gOuts params ⟨0, [], 0⟩).1 = iota params.length) (hp : Ty12 params) (hpl : params.length ≤ 8) (g : Gn) (E : Env u (gFlow l name params g).1) : r8Flow u (gFlow l name params g).1 = true := by
  have hw := (wt_flow l name params (by omega) g).1
  obtain ⟨B, L, R, e, eL, eB⟩ := flow_parts l name params hS g
  generalize (gFlow l name params g).1 = F at *
  have hFt : F.types = R.types := by rw [e]
  have hFb : F.body = [.mk 1 0 3 nName [] [(params.length : Int)] [] [], .mk 2 0 1 nName [] [((params.length + 1 : Nat) : Int)] [] []] ++ L := by rw [e]; rfl
  have hFp : F.params = params.length := by rw [e]
  clear e
  have pR : Px B R := by have := px_list l 3 (iota params.length ++ [(params.length : Int), ((params.length + 1 : Nat) : Int)]) plc0 B; rw [← eL] at this; exact this
  have hB2 : Ty12 B.types := by
    rw [eB]
    intro t ht
    rcases List.mem_append.1 ht with ht | ht
    ·exact hp t ht
    simp at ht; omega
  have tR : Ty12 F.types := by have := tx_list l 3 (iota params.length ++ [(params.length : Int), ((params.length + 1 : Nat) : Int)]) plc0 B hB2; rw [← eL] at this; rw [hFt]; exact this
  obtain ⟨q, eR⟩ := pR
  rw [← hFt] at eR
  have hBl : B.types.length = params.length + 2 := by rw [eB]; simp
  have hRl : params.length + 2 ≤ F.types.length := by rw [eR, List.length_append, hBl]; omega
  have hxT : PxT B F.types := ⟨q, eR⟩
  have hi : F.types.getD params.length 0 = 1 := by
    rw [← hxT.getD (by omega), eB]; simp [List.getD]
  have hb : F.types.getD (params.length + 1) 0 = 2 := by
    rw [← hxT.getD (by omega), eB]; simp [List.getD]
  -- the list behind the first two nodes
  have hSn : Sn F.types B.types.length (iota params.length ++ [(params.length : Int), ((params.length + 1 : Nat) : Int)]) := by
    refine ⟨?_, ⟨(params.length : Int), by simp, by simpa using hi⟩, ⟨((params.length + 1 : Nat) : Int), by simp, by rw [Int.toNat_natCast]; exact hb⟩, fun s hs => ?_⟩
    ·by_cases h0 : params.length = 0
     ·simp [h0]
     refine List.mem_append_left _ ?_
     simp only [iota, List.mem_map, List.mem_range]
     exact ⟨0, by omega, rfl⟩
    rw [hBl]
    rcases List.mem_append.1 hs with hs | hs
    ·simp only [iota, List.mem_map, List.mem_range] at hs
     obtain ⟨j, hj, rfl⟩ := hs
     omega
    simp only [List.mem_cons, List.not_mem_nil, or_false] at hs
    omega
  have hL := list_ok l E 3 (iota params.length ++ [(params.length : Int), ((params.length + 1 : Nat) : Int)]) plc0 B r8where0 1 (by rw [← eL]; exact ⟨[], by simp [hFt]⟩) hSn ⟨t12_0, t12_0, t12_0⟩ ⟨fun h => (by cases h), fun h => (by cases h), fun _ => rfl, fun _ => rfl⟩ (by omega)
  have hF := fresh_list l 3 (iota params.length ++ [(params.length : Int), ((params.length + 1 : Nat) : Int)]) plc0 B
  rw [← eL] at hL hF
  simp only [vList, Bool.and_eq_true] at hL
  rw [hBl, ← hFt] at hF
  have hn : (firsts params.length F.types.length).length = F.types.length := firsts_length (by omega)
  unfold r8Flow
  rw [hFp, hFb]
  simp only [Bool.and_eq_true, Bool.not_eq_true', decide_eq_false_iff_not, List.all_eq_true, Int.toNat_natCast]
  refine ⟨⟨⟨⟨⟨by omega, by omega⟩, by omega⟩, by omega⟩, fun t ht => ?_⟩, ?_⟩
  ·rcases tR t ht with rfl | rfl <;> rfl
  rw [r8list_iff u _ _ 1 r8where0 _ _ hn]
  have l1 : Leaf u F (iota params.length) r8where0 (.mk 1 0 3 nName [] [(params.length : Int)] [] []) := leaf1 (by
    simp only [vOuts, shVal, Int.toNat_natCast, hi]
    rw [decide_eq_true (by omega), decide_eq_true (by omega)]; rfl)
  have l2 : Leaf u F (iota params.length ++ [(params.length : Int)]) r8where0 (.mk 2 0 1 nName [] [((params.length + 1 : Nat) : Int)] [] []) := leaf2 (.inr rfl) (by
    simp only [vOuts, shVal, Int.toNat_natCast, hb]
    rw [decide_eq_true (by omega), decide_eq_true (by omega)]; rfl)
  have c1 : r8Closed (.mk 1 0 3 nName [] [(params.length : Int)] [] []) = false := rfl
  have c2 : r8Closed (.mk 2 0 1 nName [] [((params.length + 1 : Nat) : Int)] [] []) = false := rfl
  have hD : Fresh params.length F.types.length (dL ([.mk 1 0 3 nName [] [(params.length : Int)] [] [], .mk 2 0 1 nName [] [((params.length + 1 : Nat) : Int)] [] []] ++ L)) := by
    have e1 : dL ([.mk 1 0 3 nName [] [(params.length : Int)] [] [], .mk 2 0 1 nName [] [((params.length + 1 : Nat) : Int)] [] []] ++ L) = [(params.length : Int)] ++ ([((params.length + 1 : Nat) : Int)] ++ dL L) := by simp [dL, dN, dK]
    rw [e1]
    have f1 : Fresh params.length (params.length + 1) [(params.length : Int)] := ⟨by simp, fun v hv => by rw [List.mem_singleton.1 hv]; omega⟩
    have f2 : Fresh (params.length + 1) (params.length + 2) [((params.length + 1 : Nat) : Int)] := ⟨by simp, fun v hv => by rw [List.mem_singleton.1 hv]; omega⟩
    exact f1.app (f2.app hF (Nat.le_refl _) (by omega) hRl) (Nat.le_refl _) (by omega) (by omega)
  refine ⟨?_, hD.1, fun v hv => firsts_false (hD.2 v hv).1⟩
  have hemp : L.isEmpty = false := by simpa using hL.1
  have hgo : vGo u F 1 r8where0 (iota params.length ++ [(params.length : Int)] ++ [((params.length + 1 : Nat) : Int)]) L = true := by
    rw [List.append_assoc]
    exact hL.2
  have d1 : (!decide ((1 : Int) > 100)) = true := rfl
  show (true && (!decide ((1 : Int) > 100) && vNode u F 1 r8where0 (iota params.length) (.mk 1 0 3 nName [] [(params.length : Int)] [] []) && (r8Closed (.mk 1 0 3 nName [] [(params.length : Int)] [] []) == false) &&
    (!decide ((1 : Int) > 100) && vNode u F 1 r8where0 (iota params.length ++ [(params.length : Int)]) (.mk 2 0 1 nName [] [((params.length + 1 : Nat) : Int)] [] []) && (r8Closed (.mk 2 0 1 nName [] [((params.length + 1 : Nat) : Int)] [] []) == L.isEmpty) && vGo u F 1 r8where0 (iota params.length ++ [(params.length : Int)] ++ [((params.length + 1 : Nat) : Int)]) L))) = true
  rw [l1.ok, l2.ok, c1, c2, hemp, hgo]
  rfl
end
theorem made_ok (l : List UInt8) : (r8Check (made l)).1 = 0 := by
  have S0 : (gOuts [] ⟨0, [], 0⟩).1 = iota ([] : List Int).length := rfl
  have S2 : (gOuts [1, 2] ⟨0, [], 0⟩).1 = iota ([1, 2] : List Int).length := rfl
  generalize hm : gFlow l mainName [] ⟨0, [], 0⟩ = m
  have eM : made l = ⟨[⟨aName, 4⟩], [m.1, (gFlow l fName [1, 2] m.2).1]⟩ := by unfold made; simp only [hm]
  obtain ⟨B1, L1, R1, e1, eL1, eB1⟩ := flow_parts l mainName [] S0 ⟨0, [], 0⟩
  obtain ⟨B2, L2, R2, e2, eL2, eB2⟩ := flow_parts l fName [1, 2] S2 m.2
  rw [hm] at e1
  have n1 : m.1.name = mainName := by rw [e1]
  have n2 : (gFlow l fName [1, 2] m.2).1.name = fName := by rw [e2]
  have q11 : eqS mainName mainName = true := by decide +kernel
  have q12 : eqS mainName fName = false := by decide +kernel
  have q22 : eqS fName fName = true := by decide +kernel
  have q21 : eqS fName mainName = false := by decide +kernel
  have qa1 : eqS mainName aName = false := by decide +kernel
  have qa2 : eqS fName aName = false := by decide +kernel
  have pF : r8Place fName (made l).flows 0 = 1 := by rw [eM]; simp [r8Place, n1, n2, q12, q22]
  have pM : r8Place mainName (made l).flows 0 = 0 := by rw [eM]; simp [r8Place, n1, q11]
  have pA : r8Place aName (made l).flows 0 = -1 := by rw [eM]; simp [r8Place, n1, n2, qa1, qa2]
  have aA : r8Array aName (made l).arrays 0 = 0 := by
    rw [eM]
    show r8Array aName [⟨aName, 4⟩] 0 = 0
    decide +kernel
  have take2 : (gFlow l fName [1, 2] m.2).1.types.take 2 = [1, 2] := by
    rw [e2]
    have pR : Px B2 R2 := by have := px_list l 3 (iota ([1, 2] : List Int).length ++ [(([1, 2] : List Int).length : Int), ((([1, 2] : List Int).length + 1 : Nat) : Int)]) plc0 B2; rw [← eL2] at this; exact this
    obtain ⟨q, eR⟩ := pR
    show R2.types.take 2 = [1, 2]
    rw [eR, eB2]; rfl
  have env : ∀ f : Fl, f.ty = 1 → Env (made l) f := fun f hf => ⟨hf, by rw [aA]; decide, by rw [pF]; decide, ⟨(gFlow l fName [1, 2] m.2).1, by rw [pF, eM]; rfl, by rw [show (gFlow l fName [1, 2] m.2).1.params = 2 by rw [e2]; rfl]; exact take2, by rw [e2]⟩⟩
  rw [check_iff]
  refine ⟨?_, fun f hf => ?_⟩
  ·have z1 : isName mainName = true := by decide +kernel
   have z2 : isName fName = true := by decide +kernel
   have z3 : isName aName = true := by decide +kernel
   have hl2 : 2 ≤ (gFlow l fName [1, 2] m.2).1.types.length := by
     have := congrArg List.length take2
     simp at this; omega
   have ga : r8gA (made l) (made l).arrays 0 = true := by
     have : r8gA (made l) [⟨aName, 4⟩] 0 = true := by
       simp only [r8gA, gArr, z3, aA, pA]; decide
     rw [eM] at this ⊢; exact this
   have gf : r8gF (made l) (made l).flows 0 = true := by
     have : r8gF (made l) [m.1, (gFlow l fName [1, 2] m.2).1] 0 = true := by
       have t1 : m.1.ty = 1 := by rw [e1]
       have t2 : (gFlow l fName [1, 2] m.2).1.ty = 1 := by rw [e2]
       have p1 : m.1.params = 0 := by rw [e1]; rfl
       have p2 : (gFlow l fName [1, 2] m.2).1.params = 2 := by rw [e2]; rfl
       simp only [r8gF, gFlw, n1, n2, z1, z2, pF, pM, t1, t2, p1, p2]
       rw [decide_eq_false (show ¬ (0 : Int) > m.1.types.length by omega), decide_eq_false (show ¬ (2 : Int) > (gFlow l fName [1, 2] m.2).1.types.length by omega)]
       decide
     rw [eM] at this ⊢; exact this
   have gm : r8main (made l) = true := by
     unfold r8main
     rw [pM, eM]
     show (decide ((0 : Int) ≥ 0) && m.1.ty == 1 && m.1.params == 0) = true
     rw [e1]; rfl
   unfold r8globals
   rw [ga, gf, gm]; rfl
  have hf2 : f = m.1 ∨ f = (gFlow l fName [1, 2] m.2).1 := by rw [eM] at hf; simpa using hf
  rcases hf2 with rfl | rfl
  ·rw [← hm]; exact flow_ok l mainName [] S0 t12_0 (by decide) ⟨0, [], 0⟩ (env _ (by rw [hm, e1]))
  exact flow_ok l fName [1, 2] S2 (by intro t ht; simp at ht; omega) (by decide) m.2 (env _ (by rw [e2]))
end
set_option maxRecDepth 20000
set_option maxHeartbeats 4000000
theorem sc_ShowApart (l m : List UInt8) : SC Tryz.prog 6 [.pv (bts l), .pv (bts m)] [] (fun k => k ∈ []) (iBool true) [] := by
  have h1 := sc_showPrint (made l) ⟨wt_made l, made_64 l⟩
  have h2 := sc_showPrint (made m) ⟨wt_made m, made_64 m⟩
  rw [printOf, if_pos (made_ok l)] at h1
  rw [printOf, if_pos (made_ok m)] at h2
  have hS := text_same (made_ok l) (made_ok m)
  have h3 := sc_r8Same (made l) (made m)
  refine SC.vc tb {} [] Tryz.func6 rfl rfl ?_
  refine ⟨[], sc_awake, sR, trivial, rfl, [], sc_made l, sR, trivial, rfl, [], sc_made m, sR, trivial, rfl, [], h1, sR, trivial, rfl, [], h2, sR, trivial, rfl, [], h3, sR, trivial, rfl, sE ?_, trivial⟩
  have e : ((tUnit (made l)).toList == (tUnit (made m)).toList) = r8Same (made l) (made m) := by
    by_cases h : tUnit (made l) = tUnit (made m)
    · rw [hS.1 h, h]; simp
    · have h4 : r8Same (made l) (made m) = false := by
        cases hq : r8Same (made l) (made m) with
        | false => rfl
        | true => exact absurd (hS.2 hq) h
      rw [h4, beq_eq_false_iff_ne]
      exact fun h5 => h (ba_eq h5)
  rw [e]
  simp
section
open Go Go.ChangeShapes Go.WideShapes Go.ChangeAt Go.RowKit
section
variable {H : Type} {enc : TypeId × Value → H} {P : Program} {w : World} {base : Nat} {spare : Nat → Bool} {held : Bool}
def RepEl (own : Nat → Prop) (w : World) (ps : List PV) (cs : List Value) : Prop := ps.length = cs.length ∧ ∀ (j : Nat) p v, ps[j]? = some p → cs[j]? = some v → RepP own w p v
theorem RepEl.nil {own : Nat → Prop} : RepEl own w [] [] := ⟨rfl, fun j p v h => by simp at h⟩
theorem RepEl.cons {own : Nat → Prop} {p : PV} {v : Value} {ps : List PV} {cs : List Value} (h : RepP own w p v) (hr : RepEl own w ps cs) : RepEl own w (p :: ps) (v :: cs) := by
  refine ⟨by simp [hr.1], fun j q x hq hx => ?_⟩
  cases j with
  | zero => simp at hq hx; subst hq; subst hx; exact h
  | succ j => exact hr.2 j q x (by simpa using hq) (by simpa using hx)
theorem choose_els {α : Type} (f : α → List PV) (wt : α → Nat) {own : Nat → Prop} (R : Nat → DataW H × List MemPlace → List Value → Prop)
    (hR : ∀ i y cs, R i y cs → ∃ z : α, RepEl own w (f z) cs ∧ wt z + 1 ≤ Rows.uptoBulk y.1) :
    ∀ (ys : List (DataW H × List MemPlace)) (s : Nat), (∀ i y, ys[i]? = some y → ∃ cs, R (s + i) y cs) →
      ∃ l : List α, l.length = ys.length ∧ (∀ i z, l[i]? = some z → ∃ y cs, ys[i]? = some y ∧ R (s + i) y cs ∧ RepEl own w (f z) cs) ∧ (l.map wt).sum + l.length ≤ Rows.uptoBulkAll (ys.map (·.1))
  | [], _, _ => ⟨[], rfl, fun i z h => by simp at h, by simp [Rows.uptoBulkAll]⟩
  | y :: ys, s, h => by
    obtain ⟨cs, hcs⟩ := h 0 y rfl
    obtain ⟨z, hz, hw⟩ := hR _ _ _ hcs
    obtain ⟨l, hl, hg, hb⟩ := choose_els f wt R hR ys (s + 1) (fun i y' hy => by
      have := h (i + 1) y' (by simpa using hy)
      rwa [show s + 1 + i = s + (i + 1) by omega])
    refine ⟨z :: l, by simp [hl], fun i z' hz' => ?_, ?_⟩
    ·cases i with
     | zero => simp at hz'; subst hz'; exact ⟨y, cs, rfl, hcs, hz⟩
     | succ i =>
       obtain ⟨y', cs', h1, h2, h3⟩ := hg i z' (by simpa using hz')
       exact ⟨y', cs', by simpa using h1, by rwa [show s + (i + 1) = s + 1 + i by omega], h3⟩
    simp only [List.map_cons, List.sum_cons, List.length_cons, Rows.uptoBulkAll]; omega
theorem trod_list {α : Type} (f : α → List PV) (wt : α → Nat) {own : Nat → Prop} (hown : ∀ b, b < w.heap.size → ¬ own b) {t e : TypeId} {fuel : Nat} {cs : List Value} {x : DataW H × List MemPlace} {N : Nat} (ht : P.underlying t = some (.slice e)) (hC : P.cellsOf e = N) (hN : 0 < N)
    (h : DataW.trod enc P w base spare held fuel t cs = some x)
    (hel : ∀ n cs' y, n < fuel → cs'.length = N → DataW.trod enc P w base spare held n e cs' = some y → ∃ z : α, RepEl own w (f z) cs' ∧ wt z + 1 ≤ Rows.uptoBulk y.1) :
    ∃ (l : List α) (v : Value), cs = [v] ∧ RepP own w (.seq (l.map f)) v ∧ (l.map wt).sum + l.length + 1 ≤ Rows.uptoBulk x.1 := by
  rcases DataW.trod_slice ht h with ⟨rfl, rfl⟩ | ⟨a, len, cap, elems, rest, n, rfl, rfl, rfl, hb, hl, hm, hlen, hg, _, _⟩
  ·refine ⟨[], _, rfl, ?_, by simp [Rows.uptoBulk]⟩
   have := RepP.seq (own := own) (w := w) [] none 0 0 0 (fun _ _ => default) (fun h => absurd rfl h) (fun h => absurd rfl h) (Nat.le_refl _) (Nat.zero_le _) (fun i el h => by simp at h) (fun i el h => by simp at h)
   simpa using this
  obtain ⟨l, hll, hat, hsum⟩ := choose_els (w := w) f wt (own := own) (fun i y cs => w.cells? base (a.add (i * P.cellsOf e)) (P.cellsOf e) = some cs ∧ DataW.trod enc P w base spare held n e cs = some y)
    (fun i y cs' hr => hel n cs' y (Nat.lt_succ_self _) (by rw [(World.cells?_some hr.1).2.1, hC]) hr.2) elems 0 (fun i y hy => by
      have hlt : i < len := by rw [← hlen]; exact (List.getElem?_eq_some_iff.1 hy).1
      have h1 := hg i hlt
      rw [hy, Option.bind_eq_some_iff] at h1
      obtain ⟨cs', h2, h3⟩ := h1
      exact ⟨cs', by rw [Nat.zero_add]; exact h2, h3⟩)
  obtain ⟨ab, ao, asp⟩ := a
  have hlen2 : l.length = len := by rw [hll, hlen]
  -- a cell that can be read
  have hsp : l ≠ [] → asp = none ∧ ab < w.heap.size := by
    intro hne
    obtain ⟨z, r, rfl⟩ := List.exists_cons_of_ne_nil hne
    obtain ⟨y, cs', _, hr, hrep⟩ := hat 0 z rfl
    obtain ⟨_, hcl, hcell⟩ := World.cells?_some hr.1
    have h0 := hcell 0 (by rw [hC]; exact hN)
    have hlt : 0 < cs'.length := by rw [hcl, hC]; exact hN
    rw [List.getElem?_eq_getElem hlt] at h0
    unfold World.cell? at h0
    have e0 : (Addr.add (Addr.add ⟨ab, ao, asp⟩ ((0 + 0) * P.cellsOf e)) 0) = ⟨ab, ao, asp⟩ := by simp [Addr.add]
    rw [e0] at h0
    split at h0
    ·rename_i hh
     refine ⟨?_, (Array.getElem?_eq_some_iff.1 hh).1⟩
     cases asp with
     | none => rfl
     | some _ => simp at h0
    cases h0
  refine ⟨l, _, rfl, ?_, ?_⟩
  ·-- the cells of an element
   have key : ∀ i z, l[i]? = some z → ∃ cs', RepEl own w (f z) cs' ∧ cs'.length = N ∧ ∀ j, j < N → w.cell? ⟨ab, ao + i * N + j, none⟩ = cs'[j]? := by
     intro i z hz
     obtain ⟨y, cs', _, hr, hrep⟩ := hat i z hz
     obtain ⟨_, hcl, hcell⟩ := World.cells?_some hr.1
     refine ⟨cs', hrep, hcl.trans hC, fun j hj => ?_⟩
     have h1 := hcell j (by rw [hC]; exact hj)
     have hne : l ≠ [] := by intro e; subst e; simp at hz
     have hs := (hsp hne).1
     subst hs
     rw [← h1, Addr.add_mid, Addr.add_mid, hC, Nat.zero_add]
   have hrep := RepP.seq (own := own) (w := w) (l.map f) (some ⟨ab, ao, asp⟩) cap ab ao (fun i j => (w.cell? ⟨ab, ao + i * N + j, none⟩).getD default)
     (fun hne => by rw [(hsp (by intro e; subst e; exact hne rfl)).1]) (fun hne => by
       have := (hsp (by intro e; subst e; exact hne rfl)).2
       exact ⟨hown _ this, this⟩) (by simp; omega) hm ?_ ?_
   ·rw [List.length_map, hlen2] at hrep; exact hrep
   ·intro i el hi j c hj
    rw [List.getElem?_map, Option.map_eq_some_iff] at hi
    obtain ⟨z, hz, rfl⟩ := hi
    obtain ⟨cs', hrep, hcl, hcell⟩ := key i z hz
    have hjN : j < N := by have := (List.getElem?_eq_some_iff.1 hj).1; rw [hrep.1, hcl] at this; exact this
    have h1 := hcell j hjN
    have hfl : (f z).length = N := by rw [hrep.1, hcl]
    rw [hfl, h1, List.getElem?_eq_getElem (by omega)]
    rfl
   intro i el hi j c hj
   rw [List.getElem?_map, Option.map_eq_some_iff] at hi
   obtain ⟨z, hz, rfl⟩ := hi
   obtain ⟨cs', hrep, hcl, hcell⟩ := key i z hz
   have hjN : j < N := by have := (List.getElem?_eq_some_iff.1 hj).1; rw [hrep.1, hcl] at this; exact this
   have h1 := hcell j hjN
   rw [List.getElem?_eq_getElem (by omega)] at h1
   rw [h1]
   exact hrep.2 j c _ hj (List.getElem?_eq_getElem (by omega))
  simp only [Rows.uptoBulk]; omega
end
end
section
open Go Go.ChangeShapes Go.WideShapes Go.ChangeAt Go.RowKit Go.Deep
theorem Tryz.own : ownKnob Tryz.prog.godebug = none := by kernel_rfl
theorem Tryz.laidOut : laidOutB Tryz.prog = true := by kernel_rfl
section
variable {H : Type} {enc : TypeId × Value → H} {P : Program}
theorem sameAt_of {W W' : World} {p : MemPlace} (h : W'.heap[p.block]? = W.heap[p.block]?) : W.sameAt W' p := by
  cases p <;> simp_all [World.sameAt, MemPlace.block, World.cell?]
theorem trodAll_stays (hl : laidOutB P = true) {W W' : World} (hb : ∀ b, b < W.heap.size → W'.heap[b]? = W.heap[b]?) : ∀ (ts : List TypeId) (vs : List Value) (ds : List (DataW H)) (ps : List MemPlace),
    (∀ t ∈ ts, P.readableRec t = true ∧ t < P.types.size) → DataW.TrodAll enc P W 0 (fun _ => true) true ts vs ds ps → (∀ x ∈ ps, x.block < W.heap.size) →
    DataW.TrodAll enc P W' 0 (fun b => decide (b < W.heap.size)) true ts vs ds ps
  | [], vs, ds, ps, _, h, _ => by
    obtain ⟨rfl, rfl, rfl⟩ := trodAll_nil h
    exact trodAll_mk0
  | t :: ts, vs, ds, ps, hr, h, hp => by
    obtain ⟨v, vs', d, ds', p, q, rfl, rfl, rfl, h1, h2⟩ := trodAll_cons h
    have ht := hr t (.head _)
    refine ⟨p, q, ?_, trodAll_stays hl hb ts vs' ds' q (fun t' h' => hr t' (.tail _ h')) h2 (fun x hx => hp x (List.mem_append_right _ hx)), rfl⟩
    refine WideElems.Trod_stays hl ht.1 ht.2 h1 (fun x hx => ?_) (fun x hx => by simpa using hp x (List.mem_append_left _ hx))
    exact sameAt_of (hb _ (hp x (List.mem_append_left _ hx)))
theorem keptBut_of {W W' : World} (may : MemPlace → Prop) (hos : W'.os = W.os) (hout : W'.output = W.output) (hb : ∀ b, b < W.heap.size → W'.heap[b]? = W.heap[b]?) : W.keptBut W' may := by
  refine ⟨hos, hout, fun i hi => ?_⟩
  rw [hb i hi]
  rcases h : W.heap[i]? with _ | o
  ·trivial
  cases o with
  | cells c t fr => exact ⟨rfl, rfl, rfl, fun _ _ => rfl⟩
  | map es clock => exact .inr ⟨rfl, rfl⟩
  | _ => rfl
theorem post_true {f : Func} {s : ChangeSpec} {apart fresh handsOn : Bool} {W W' : World} {args : Array Value} {ds gs : List (DataW H)} {before : List MemPlace} {tb : TypeId} (hl : laidOutB P = true) (hv0 : s.vars = [])
    (hW : DataW.Whole enc P f.params.toList s.vars apart W args.toList ds gs before) (hrd : ∀ t ∈ f.params.toList, P.readableRec t = true ∧ t < P.types.size) (hres : f.resultTypes = #[tb]) (htb : P.underlying tb = some .bool)
    (hs : s.fn H (ds ++ gs) = { results := [.lit (.bool true)], args := ds }) (hos : W'.os = W.os) (hout : W'.output = W.output) (hb : ∀ b, b < W.heap.size → W'.heap[b]? = W.heap[b]?) :
    s.post enc P f apart fresh handsOn false W args (.bool true) W' := by
  have hlt := hW.lt
  have hW' := hW
  obtain ⟨p, q, hA, hV, rfl, _, _⟩ := hW
  refine ⟨ds, gs, p ++ q, [], p, [], hW', ?_, ?_, ?_, keptBut_of _ hos hout hb, fun h => by cases h⟩
  ·rw [hs, hres]
   exact trodAll_mk1 ⟨1, by simp [DataW.trod, htb, Value.cells]⟩
  ·rw [hs]
   exact trodAll_stays hl hb _ _ _ _ hrd hA (fun x hx => hlt x (List.mem_append_left _ hx))
  rw [hs, hv0]
  exact rfl
end
theorem relH_none {W : World} : RelH (fun _ => False) (fun _ => none) (look (up [])) W where
  inj _ _ _ _ _ h := by cases h
  apart _ _ _ h := by cases h
  old _ h := h.elim
  obj _ _ _ h := by cases h
  real _ _ h := by cases h
theorem call_true {P : Program} {f : FuncId} {args : List IV} {R : Nat → Prop} (hsc : SC P f args [] R (iBool true) []) {W : World} {vs : List Value} (hK : Kept W (owned (fun _ => False) fun _ => none)) (hr : RepL (fun _ => False) (fun _ => none) (look (up [])) W args vs) :
    Calls P f vs.toArray W fun e W' => e = .returned (.bool true) ∧ W'.os = W.os ∧ W'.output = W.output ∧ ∀ b, b < W.heap.size → W'.heap[b]? = W.heap[b]? := by
  refine (hsc (fun _ => False) (fun _ => none) W vs hK relH_none hr).mono ?_
  rintro e W' ⟨ρ', v, rfl, hv, _, t⟩
  refine ⟨?_, t.os, t.output, fun b hb => t.blk b hb fun k c h => by cases h⟩
  cases hv with
  | pv _ _ hp => cases hp; rfl
theorem own_none {b : Nat} : ¬ owned (fun _ => False) (fun _ => none) b := by
  rintro (h | ⟨_, _, h⟩)
  ·exact h
  cases h
end
section
open Go Go.ChangeShapes Go.WideShapes Go.ChangeAt Go.RowKit Go.Deep
section
variable {H : Type} {enc : TypeId × Value → H} {w : World} {base : Nat} {spare : Nat → Bool} {held : Bool}
end
def laidL : List (String × DataW Unit) := Rows.showAnyRow.laid
theorem tab_of {P : Program} {W : World} {name : String} {k : IntKind} {zs : List Int} {rest : List (String × DataW Unit)} {g : Nat} {t e : TypeId} {n : Nat} {ps : List MemPlace}
    (hg : P.globalNamed name = some g) (hty : (P.globals[g]?).map (·.type) = some t) (ht : P.underlying t = some (.array n e)) (he : P.underlying e = some (.int k)) (hce : P.cellsOf e = 1) (hct : P.cellsOf t = n)
    (h : DataW.LaidVars P W ((name, Lib.tabData k zs) :: rest) ps) : W.var? P name = some (zs.map fun z => Value.int k z).toArray := by
  obtain ⟨g', t', cs, fuel, p, q, hg', ht', hvar, hd, _, _⟩ := h
  obtain rfl := Option.some.inj (hg.symm.trans hg')
  obtain rfl := Option.some.inj (hty.symm.trans ht')
  rw [hvar, ← Lib.cells_of_tab ht he hce hct hd]
theorem kept_of {W : World} (h : laidMet Tryz.prog laidL W) : Kept W (owned (fun _ => False) fun _ => none) := by
  obtain ⟨ps, ⟨_, _, _, _, _, _, _, _, _, _, ⟨_, _, _, _, _, _, _, _, _, _, h3, _⟩, _⟩, _⟩ := h
  intro e he
  simp only [tabs, List.mem_singleton] at he
  subst he
  refine ⟨?_, own_none⟩
  have h4 := tab_of (P := Tryz.prog) (name := "internal/strconv.uint64pow10") (k := .u64) (zs := Lib.pow10Tab) (g := 0) (t := 150) (e := 131) (n := 20) (by kernel_rfl) (by kernel_rfl) Tryz.underlying150 Tryz.underlying131 (by kernel_rfl) (by kernel_rfl) h3
  unfold World.var? at h4
  rw [show Tryz.prog.globalNamed "internal/strconv.uint64pow10" = some 0 by kernel_rfl] at h4
  dsimp only [Option.bind_some, Option.bind] at h4
  split at h4
  ·rename_i cs T f hh
   cases h4
   exact ⟨T, f, hh⟩
  cases h4
def setTab (k : IntKind) (zs : List Int) : Obj → Obj
  | .cells _ t frozen => .cells (zs.map fun z => Value.int k z).toArray t frozen
  | o => o
def zsOf : DataW Unit → List Int
  | .agg l => l.map fun
    | .lit (.int _ z) => z
    | _ => 0
  | _ => []
noncomputable def laidWorld (os : Os) : World :=
  let w0 := World.holding Tryz.prog os ⟨#[], #[], []⟩
  { w0 with heap := ((w0.heap.modify 2 (setTab .u8 (zsOf Rows.laid_math_bits_deBruijn32tab))).modify 3 (setTab .u8 (zsOf Rows.laid_math_bits_deBruijn64tab))).modify 0 (setTab .u64 Lib.pow10Tab) }
set_option maxRecDepth 100000 in
theorem laidWorld_met (os : Os) (args : Array Value) : laidMet Tryz.prog laidL ((laidWorld os).forCall (fun _ _ => 0) ⟨#[], args, []⟩).memory :=
  laidMet_of_run' 8 (by kernel_rfl) (by kernel_rfl)
end
end Go.Proofs.YtahpinmlgnfklaaGreatDoor
