/- PART 1 of 3 of a proof: see the last part. -/
import Derived.Deep.Fields
import Derived.Deep.MidRow
import Derived.Ground.GgzProg
import Derived.Ground.SlgmProg
import Derived.JoinedCond
import Derived.Laws.BytesString
import Derived.Laws.Cells
import Derived.Laws.Pointers
import Derived.Lib.AppendZeros
import Derived.MapKept
import Derived.Maps.RangeRun
import Derived.OpenShut
import Derived.OrdersHeld
import Derived.ProofKit
import Derived.Shelf.SlIterI.Sorted
import Derived.Shelf.SlMaps.Clone
import Derived.Shelf.SortM.Plain
import Derived.Shelf.SortM.SortNone
import Derived.Still
import Derived.StillTactics
import Derived.Tactics2
import Derived.Test.YtnpiekoeammkgaaProg
import Derived.Test.YtnpiekoeammkgaaRows
import Derived.WalkKit
import Derived.WideKeyArgs
import Derived.WideKeyRuns
set_option maxRecDepth 8000
set_option maxHeartbeats 2000000
set_option linter.unusedSimpArgs false
set_option linter.unusedVariables false
set_option linter.unusedSectionVars false
namespace Go.Proofs.Ytnpiekoeammkgaa
open Go
theorem kR0 {α:Sort _} {a b:α} (h:a=b:=by kernel_rfl):a=b:=h
theorem oM0 {p:Prop} (h:p:=by omega):p:=h
theorem sI0 {p:Prop} (h:p:=by simp):p:=h
theorem dC0 {p:Prop} (h:p:=by decide):p:=h
theorem h30 {α β γ:Sort _}:α → β → γ → False → False:=fun _ _ _ h=>h
def tabs:List (Nat × Array Value):=[]
inductive PV where
  | val (v:Value)
  | seq (els:List (List PV))
  | agg (cs:List PV)
  | ept (cs:List PV) (off:Nat)
instance:Inhabited PV:=⟨.val default⟩
inductive IV where
  | pv (p:PV)
  | ptr (k off:Nat)
  | sl (k len:Nat)
  | rpt (k len off:Nat)
  | sp (k n len:Nat)
  | bs (k n:Nat)
  | mp (k:Nat)
  | tnil (k T:Nat)
  | agg (cs:List IV)
  | tup (vs:List IV)
  | fn (f:Fn) (first cap:List IV)
instance:Inhabited IV:=⟨.pv default⟩
structure RT where
  e:TypeId
  n:Nat
inductive HO where
  | box (cs:List IV)
  | row (s:RT) (els:List (List PV))
  | map (es:List (Value × PV))
abbrev Heap':=Nat->Option HO
abbrev Loc:=Nat->Option (Nat × Nat)
inductive RepP (own:Nat->Prop) (w:World):PV->Value->Prop where
  | val (v:Value):RepP own w (.val v) v
  | seq (els:List (List PV)) (a:Option Addr) (cap b off:Nat) (u:Nat->Nat->Value)
      (ha:els≠[]->a=some ⟨b,off,none⟩) (hb:els≠[] -> ¬ own b/\b<w.heap.size) (hl:els.length<=cap) (hm:cap<=maxLen)
      (hc:∀ i el,els[i]? = some el->∀ j c,el[j]? = some c->w.cell? ⟨b,off+i*el.length+j,none⟩=some (u i j))
      (hr:∀ i el,els[i]? = some el->∀ j c,el[j]? = some c->RepP own w c (u i j)):RepP own w (.seq els) (.slice a els.length cap)
  | agg (cs:List PV) (vs:Array Value) (u:Nat->Value) (hl:vs.size=cs.length) (hv:∀ j c,cs[j]? = some c->vs[j]? = some (u j))
      (hr:∀ j c,cs[j]? = some c->RepP own w c (u j)):RepP own w (.agg cs) (.agg vs)
  | ept (cs:List PV) (off b o:Nat) (u:Nat->Value) (hb:¬ own b/\b<w.heap.size)
      (hc:∀ j c,cs[j]? = some c->w.cell? ⟨b,o+j,none⟩=some (u j))
      (hr:∀ j c,cs[j]? = some c->RepP own w c (u j)):RepP own w (.ept cs off) (.pointer (some ⟨b,o+off,none⟩))
def owned (F:Nat->Prop) (ρ:Loc) (b:Nat):Prop:=F b∨∃ k c,ρ k=some (b,c)
inductive RepI (F:Nat->Prop) (ρ:Loc) (σ:Heap') (w:World):IV->Value->Prop where
  | tnil (k T:Nat) (v:Value) (h:∀ cs,σ k=some (.box cs)->∃ b,ρ k=some (b,T)/\v = .pointer none):RepI F ρ σ w (.tnil k T) v
  | pv (p:PV) (v:Value) (h:RepP (owned F ρ) w p v):RepI F ρ σ w (.pv p) v
  | ptr (k off:Nat) (v:Value) (h:∀ cs,σ k=some (.box cs)->∃ b c,ρ k=some (b,c)/\v = .pointer (some ⟨b,off,none⟩)):RepI F ρ σ w (.ptr k off) v
  | sl (k len:Nat) (v:Value) (h:∀ s els,σ k=some (.row s els)->len<=els.length/\(els.length=len ->
        (∃ b c,ρ k=some (b,c)/\v = .slice (some ⟨b,0,none⟩) len c)∨(ρ k=none/\len=0/\v = .slice none 0 0))):RepI F ρ σ w (.sl k len) v
  | rpt (k len off:Nat) (v:Value) (h:∀ s els,σ k=some (.row s els)->len<=els.length/\(els.length=len->∃ b c,ρ k=some (b,c)/\v = .pointer (some ⟨b,off,none⟩))):RepI F ρ σ w (.rpt k len off) v
  | sp (k n len:Nat) (v:Value) (h:∀ s els,σ k=some (.row s els)->len<=els.length/\(els.length=len->(n<=len/\∃ b c,ρ k=some (b,c)/\v = .slice (some ⟨b,0,none⟩) n c)∨(ρ k=none/\len=0/\n=0/\v = .slice none 0 0))):RepI F ρ σ w (.sp k n len) v
  | bs (k n:Nat) (v:Value) (h:∀ cs,σ k=some (.box cs)->∃ b c,ρ k=some (b,c)/\n<=c/\c<=maxLen/\v = .slice (some ⟨b,0,none⟩) n c):RepI F ρ σ w (.bs k n) v
  | mp (k:Nat) (v:Value) (h:∀ es,σ k=some (.map es)->∃ b c,ρ k=some (b,c)/\v = .map (some b)):RepI F ρ σ w (.mp k) v
  | agg (cs:List IV) (vs:Array Value) (u:Nat->Value) (hl:vs.size=cs.length) (hv:∀ j c,cs[j]? = some c->vs[j]? = some (u j))
      (hr:∀ j c,cs[j]? = some c->RepI F ρ σ w c (u j)):RepI F ρ σ w (.agg cs) (.agg vs)
  | tup (cs:List IV) (vs:Array Value) (u:Nat->Value) (hl:vs.size=cs.length) (hv:∀ j c,cs[j]? = some c->vs[j]? = some (u j))
      (hr:∀ j c,cs[j]? = some c->RepI F ρ σ w c (u j)):RepI F ρ σ w (.tup cs) (.tuple vs)
  | fn (f:Fn) (xs ys:List IV) (vs ws:Array Value) (u t:Nat->Value) (hl:vs.size=xs.length) (hv:∀ j c,xs[j]? = some c->vs[j]? = some (u j))
      (hr:∀ j c,xs[j]? = some c->RepI F ρ σ w c (u j)) (hl':ws.size=ys.length) (hv':∀ j c,ys[j]? = some c->ws[j]? = some (t j))
      (hr':∀ j c,ys[j]? = some c->RepI F ρ σ w c (t j)):RepI F ρ σ w (.fn f xs ys) (.func f vs ws)
def zg7:Nat:=18446744073709551616
def tyOk (c e n:Nat):Prop:=(zg7<=c->c=zg7+e/\n=2)/\(2<=c->c<=maxLen->c<=n)
theorem tyOk1 (e n:Nat):tyOk 1 e n:=⟨fun h=>absurd h dC0,fun h=>absurd h dC0⟩
inductive RepO (F:Nat->Prop) (ρ:Loc) (σ:Heap') (w:World) (b c:Nat):HO->Prop where
  | box (cs:List IV) (e:TypeId) (a:Array Value) (u:Nat->Value) (h:w.heap[b]? = some (.cells a e (0,0))) (hl:cs.length<=a.size)
      (hv:∀ j x,cs[j]? = some x->a[j]? = some (u j)) (hr:∀ j x,cs[j]? = some x->RepI F ρ σ w x (u j)) (ht:tyOk c e a.size:=by first | exact tyOk1 _ _ | assumption | (simp only [Array.size_setIfInBounds];assumption)):RepO F ρ σ w b c (.box cs)
  | row (s:RT) (els:List (List PV)) (a:Array Value) (u:Nat->Nat->Value) (h:w.heap[b]? = some (.cells a s.e (0,0))) (hs:a.size=c*s.n) (hl:els.length<=c) (hm:c<=maxLen)
      (hw:∀ el∈els,el.length=s.n) (hv:∀ i el,els[i]? = some el->∀ j x,el[j]? = some x->a[i*s.n+j]? = some (u i j))
      (hr:∀ i el,els[i]? = some el->∀ j x,el[j]? = some x->RepP (owned F ρ) w x (u i j)):RepO F ρ σ w b c (.row s els)
  | map (es:List (Value × PV)) (a:Array MapEntry) (t:Nat) (u:Nat->Value) (h:w.heap[b]? = some (.map a t)) (hl:a.size=es.length)
      (hv:∀ i k p,es[i]? = some (k,p)->∃ m:MapEntry,a[i]? = some m/\m.key=k/\m.val=u i)
      (hr:∀ i k p,es[i]? = some (k,p)->RepP (owned F ρ) w p (u i)) (hst:MapKept.Stamped a t:=by first | assumption | exact MapKept.stamped_empty _):RepO F ρ σ w b c (.map es)
structure RelH (F:Nat->Prop) (ρ:Loc) (σ:Heap') (w:World):Prop where
  inj:∀ k k' b c c',ρ k=some (b,c) -> ρ k'=some (b,c')->k=k'
  apart:∀ k b c,ρ k=some (b,c) -> ¬ F b
  old:∀ b,F b->b<w.heap.size
  obj:∀ k b c,ρ k=some (b,c)->∃ o,σ k=some o/\RepO F ρ σ w b c o
  real:∀ k o,σ k=some o -> ρ k=none->∃ s,o = .row s []
theorem RelH.ty {F:Nat->Prop} {ρ:Loc} {σ:Heap'} {w:World} (h:RelH F ρ σ w) {k b cc:Nat} {cs:List IV} {r:Array Value} {e:TypeId} {f:Nat × Nat} (hk:σ k=some (.box cs)) (hρ:ρ k=some (b,cc)) (h3:w.heap[b]? = some (.cells r e f)):tyOk cc e r.size:=by
  obtain ⟨o,h1,h2⟩:=h.obj k b cc hρ
  rw [hk] at h1;cases h1
  cases h2 with
  | box _ e' a u h4 hl hv hr ht=>rw [h3] at h4;cases h4;exact ht
theorem RepO.lt {F:Nat->Prop} {ρ:Loc} {σ:Heap'} {w:World} {b c:Nat} {o:HO} (h:RepO F ρ σ w b c o):b<w.heap.size:=by
  cases h<;>(rename_i h _ _ ; rcases Nat.lt_or_ge b w.heap.size with g | g;exact g;simp [Array.getElem?_eq_none g] at *)
theorem RelH.lt {F:Nat->Prop} {ρ:Loc} {σ:Heap'} {w:World} (h:RelH F ρ σ w) {k b c:Nat} (hk:ρ k=some (b,c)):b<w.heap.size:=by
  obtain ⟨o,_,ho⟩:=h.obj k b c hk
  exact ho.lt
theorem RelH.own_lt {F:Nat->Prop} {ρ:Loc} {σ:Heap'} {w:World} (h:RelH F ρ σ w) {b:Nat} (hb:owned F ρ b):b<w.heap.size:=by
  rcases hb with hb | ⟨k,c,hk⟩
  · exact h.old b hb
  · exact h.lt hk
theorem RepP.keep {own own':Nat->Prop} {w w':World} {p:PV} {v:Value} (h:RepP own w p v) (hs:w.heap.size<=w'.heap.size)
    (hk:∀ b,b<w.heap.size -> ¬ own b->w'.heap[b]? = w.heap[b]? /\ ¬ own' b):RepP own' w' p v:=by
  induction h with
  | val v=>exact .val v
  | seq els a cap b off u ha hb hl hm hc _ ih =>
    refine .seq els a cap b off u ha (fun hne=>⟨(hk b (hb hne).2 (hb hne).1).2,Nat.lt_of_lt_of_le (hb hne).2 hs⟩) hl hm (fun i el hi j c hj=>?_) ih
    have hne:els≠[]:=by intro h0;simp [h0] at hi
    rw [<- hc i el hi j c hj]
    exact World.cell?_of_block (a:=⟨b,_,none⟩) (hk b (hb hne).2 (hb hne).1).1
  | agg cs vs u hl hv _ ih=>exact .agg cs vs u hl hv ih
  | ept cs off b o u hb hc _ ih =>
    refine .ept cs off b o u ⟨(hk b hb.2 hb.1).2,Nat.lt_of_lt_of_le hb.2 hs⟩ (fun j c hj=>?_) ih
    rw [<- hc j c hj]
    exact World.cell?_of_block (a:=⟨b,_,none⟩) (hk b hb.2 hb.1).1
inductive Names (P:Nat->Prop):IV->Prop where
  | ptr {k off:Nat} (h:P k):Names P (.ptr k off)
  | sl {k len:Nat} (h:P k):Names P (.sl k len)
  | rpt {k len off:Nat} (h:P k):Names P (.rpt k len off)
  | sp {k n len:Nat} (h:P k):Names P (.sp k n len)
  | bs {k n:Nat} (h:P k):Names P (.bs k n)
  | mp {k:Nat} (h:P k):Names P (.mp k)
  | tnil {k T:Nat} (h:P k):Names P (.tnil k T)
  | agg {cs:List IV} {c:IV} (hc:c∈cs) (h:Names P c):Names P (.agg cs)
  | tup {cs:List IV} {c:IV} (hc:c∈cs) (h:Names P c):Names P (.tup cs)
  | fn1 {f:Fn} {xs ys:List IV} {c:IV} (hc:c∈xs) (h:Names P c):Names P (.fn f xs ys)
  | fn2 {f:Fn} {xs ys:List IV} {c:IV} (hc:c∈ys) (h:Names P c):Names P (.fn f xs ys)
structure Trans (F:Nat->Prop) (R:Nat->Prop) (ρ:Loc) (σ:Heap') (w:World) (ρ':Loc) (σ':Heap') (w':World):Prop where
  os:w'.os=w.os
  tape:w'.tape=w.tape
  output:w'.output=w.output
  size:w.heap.size<=w'.heap.size
  blk:∀ b,b<w.heap.size->(∀ k c,ρ k=some (b,c)->R k)->w'.heap[b]? = w.heap[b]?
  own:∀ k b c,ρ' k=some (b,c)->b<w.heap.size -> ρ k=some (b,c)∨∃ k0 c0,ρ k0=some (b,c0) /\ ¬ R k0
  box:∀ k cs cs',σ k=some (.box cs) -> σ' k=some (.box cs') -> ρ' k = ρ k
  map:∀ k es es',σ k=some (.map es) -> σ' k=some (.map es') -> ρ' k = ρ k
  row:∀ k s s' els els',σ k=some (.row s els) -> σ' k=some (.row s' els')->els'.length=els.length -> ρ' k = ρ k
  grow:∀ k s s' els els',σ k=some (.row s els) -> σ' k=some (.row s' els')->els.length<=els'.length
  kindB:∀ k cs',σ' k=some (.box cs') -> σ k=none∨∃ cs,σ k=some (.box cs)
  kindM:∀ k es',σ' k=some (.map es') -> σ k=none∨∃ es,σ k=some (.map es)
  kindR:∀ k s els',σ' k=some (.row s els') -> σ k=none∨∃ els,σ k=some (.row s els)
theorem owned.keep {F R:Nat->Prop} {ρ ρ':Loc} {σ σ':Heap'} {w w':World} (t:Trans F R ρ σ w ρ' σ' w') {b:Nat} (hb:b<w.heap.size) (hn:¬ owned F ρ b):w'.heap[b]? = w.heap[b]? /\ ¬ owned F ρ' b:=by
  refine ⟨t.blk b hb fun k c hk=>absurd (.inr ⟨k,c,hk⟩) hn,fun ho=>hn ?_⟩
  rcases ho with ho | ⟨k,c,hk⟩
  · exact .inl ho
  · rcases t.own k b c hk hb with g | ⟨k0,c0,g,_⟩
    · exact .inr ⟨k,c,g⟩
    · exact .inr ⟨k0,c0,g⟩
def Kept (w:World) (own:Nat->Prop):Prop:=∀ e∈tabs,(∃ T f,w.heap[e.1]? = some (.cells e.2 T f)) /\ ¬ own e.1
theorem Kept.nil {w:World} {own:Nat->Prop} (h:tabs=[]):Kept w own:=fun e he=>by rw [h] at he;cases he
theorem Kept.mono {w:World} {own own':Nat->Prop} (h:Kept w own) (hs:∀ b,own' b->own b):Kept w own':=fun e he=>⟨(h e he).1,fun ho=>(h e he).2 (hs _ ho)⟩
theorem Kept.keep {F R:Nat->Prop} {ρ ρ':Loc} {σ σ':Heap'} {w w':World} (h:Kept w (owned F ρ)) (t:Trans F R ρ σ w ρ' σ' w'):Kept w' (owned F ρ'):=fun e he=>by
  obtain ⟨⟨T,f,h1⟩,h2⟩:=h e he
  obtain ⟨k1,k2⟩:=owned.keep t (Array.getElem?_eq_some_iff.1 h1).1 h2
  exact ⟨⟨T,f,by rw [k1];exact h1⟩,k2⟩
theorem Trans.refl (F R:Nat->Prop) (ρ:Loc) (σ:Heap') (w:World):Trans F R ρ σ w ρ σ w where
  os:=rfl
  tape:=rfl
  output:=rfl
  size:=Nat.le_refl _
  blk _ _ _:=rfl
  own _ _ _ h _:=.inl h
  box _ _ _ _ _:=rfl
  map _ _ _ _ _:=rfl
  row _ _ _ _ _ _ _ _:=rfl
  grow k s s' els els' h h':=by rw [h] at h';cases h';exact Nat.le_refl _
  kindB k cs' h:=.inr ⟨_,h⟩
  kindM k es' h:=.inr ⟨_,h⟩
  kindR k s els' h:=.inr ⟨_,h⟩
theorem Trans.trans {F R R':Nat->Prop} {ρ ρ' ρ'':Loc} {σ σ' σ'':Heap'} {w w' w'':World} (t:Trans F R ρ σ w ρ' σ' w') (t':Trans F R' ρ' σ' w' ρ'' σ'' w'')
    (hR:∀ k,R k->R' k) (hnew:∀ k,σ' k=none -> σ'' k≠none -> σ k=none):Trans F R ρ σ w ρ'' σ'' w'' where
  os:=t'.os.trans t.os
  tape:=t'.tape.trans t.tape
  output:=t'.output.trans t.output
  size:=Nat.le_trans t.size t'.size
  blk b hb h:=(t'.blk b (Nat.lt_of_lt_of_le hb t.size) fun k c hk=>(t.own k b c hk hb).elim (fun g=>hR k (h k c g)) fun ⟨k0,c0,g,gn⟩=>absurd (h k0 c0 g) gn).trans (t.blk b hb h)
  own k b c h hb:=(t'.own k b c h (Nat.lt_of_lt_of_le hb t.size)).elim (fun g=>t.own k b c g hb) fun ⟨k0,c0,g,gn⟩=>(t.own k0 b c0 g hb).elim (fun q=>.inr ⟨k0,c0,q,fun r=>gn (hR k0 r)⟩) .inr
  box k cs cs'' h h'':=by
    rcases t'.kindB k cs'' h'' with h0 | ⟨cs',h'⟩
    · rw [hnew k h0 (by simp [h''])] at h;cases h
    · exact (t'.box k cs' cs'' h' h'').trans (t.box k cs cs' h h')
  map k cs cs'' h h'':=by
    rcases t'.kindM k cs'' h'' with h0 | ⟨cs',h'⟩
    · rw [hnew k h0 (by simp [h''])] at h;cases h
    · exact (t'.map k cs' cs'' h' h'').trans (t.map k cs cs' h h')
  row k s s'' els els'' h h'' hl:=by
    rcases t'.kindR k s'' els'' h'' with h0 | ⟨els',h'⟩
    · rw [hnew k h0 (by simp [h''])] at h;cases h
    · have g:=t.grow k _ _ _ _ h h'
      have g':=t'.grow k _ _ _ _ h' h''
      exact (t'.row k _ _ els' els'' h' h'' oM0).trans (t.row k _ _ els els' h h' oM0)
  grow k s s'' els els'' h h'':=by
    rcases t'.kindR k s'' els'' h'' with h0 | ⟨els',h'⟩
    · rw [hnew k h0 (by simp [h''])] at h;cases h
    · exact Nat.le_trans (t.grow k _ _ _ _ h h') (t'.grow k _ _ _ _ h' h'')
  kindB k cs'' h'':=by
    rcases t'.kindB k cs'' h'' with h0 | ⟨cs',h'⟩
    · exact .inl (hnew k h0 (by simp [h'']))
    · exact t.kindB k cs' h'
  kindM k cs'' h'':=by
    rcases t'.kindM k cs'' h'' with h0 | ⟨cs',h'⟩
    · exact .inl (hnew k h0 (by simp [h'']))
    · exact t.kindM k cs' h'
  kindR k s els'' h'':=by
    rcases t'.kindR k s els'' h'' with h0 | ⟨els',h'⟩
    · exact .inl (hnew k h0 (by simp [h'']))
    · exact t.kindR k s els' h'
theorem RepP.trans' {F R:Nat->Prop} {ρ ρ':Loc} {σ σ':Heap'} {w w':World} (t:Trans F R ρ σ w ρ' σ' w') {p:PV} {v:Value} (h:RepP (owned F ρ) w p v):RepP (owned F ρ') w' p v :=
  h.keep t.size fun _ hb hn=>owned.keep t hb hn
theorem RepI.trans' {F R:Nat->Prop} {ρ ρ':Loc} {σ σ':Heap'} {w w':World} (t:Trans F R ρ σ w ρ' σ' w') {x:IV} {v:Value} (h:RepI F ρ σ w x v)
    (hn:¬ Names (fun k=>σ k=none /\ σ' k≠none) x):RepI F ρ' σ' w' x v:=by
  induction h with
  | pv p v h=>exact .pv p v (h.trans' t)
  | tnil k T v h =>
    refine .tnil k T v fun cs' h'=>?_
    rcases t.kindB k cs' h' with h0 | ⟨cs,h0⟩
    · exact absurd (Names.tnil ⟨h0,by simp [h']⟩) hn
    · obtain ⟨b,hk,hv⟩:=h cs h0
      exact ⟨b,(t.box k cs cs' h0 h').trans hk,hv⟩
  | ptr k off v h =>
    refine .ptr k off v fun cs' h'=>?_
    rcases t.kindB k cs' h' with h0 | ⟨cs,h0⟩
    · exact absurd (Names.ptr ⟨h0,by simp [h']⟩) hn
    · obtain ⟨b,c,hk,hv⟩:=h cs h0
      exact ⟨b,c,(t.box k cs cs' h0 h').trans hk,hv⟩
  | sl k len v h =>
    refine .sl k len v fun s els' h'=>?_
    rcases t.kindR k s els' h' with h0 | ⟨els,h0⟩
    · exact absurd (Names.sl ⟨h0,by simp [h']⟩) hn
    · have h1:=h s els h0
      have hg:=t.grow k s s els els' h0 h'
      refine ⟨Nat.le_trans h1.1 hg,fun hl=>?_⟩
      have he:els.length=len:=by have:=h1.1;omega
      have hr:=t.row k s s els els' h0 h' oM0
      rcases h1.2 he with ⟨b,c,hk,hv⟩ | ⟨hk,hz,hv⟩
      · exact .inl ⟨b,c,hr.trans hk,hv⟩
      · exact .inr ⟨hr.trans hk,hz,hv⟩
  | sp k n len v h =>
    refine .sp k n len v fun s els' h'=>?_
    rcases t.kindR k s els' h' with h0 | ⟨els,h0⟩
    · exact absurd (Names.sp ⟨h0,by simp [h']⟩) hn
    · have h1:=h s els h0
      have hg:=t.grow k s s els els' h0 h'
      refine ⟨Nat.le_trans h1.1 hg,fun hl=>?_⟩
      have he:els.length=len:=by have:=h1.1;omega
      have hr:=t.row k s s els els' h0 h' oM0
      rcases h1.2 he with ⟨hnl,b,c,hk,hv⟩ | ⟨hk,hz,hv⟩
      · exact .inl ⟨hnl,b,c,hr.trans hk,hv⟩
      · exact .inr ⟨hr.trans hk,hz,hv⟩
  | rpt k len off v h =>
    refine .rpt k len off v fun s els' h'=>?_
    rcases t.kindR k s els' h' with h0 | ⟨els,h0⟩
    · exact absurd (Names.rpt ⟨h0,by simp [h']⟩) hn
    · have h1:=h s els h0
      have hg:=t.grow k s s els els' h0 h'
      refine ⟨Nat.le_trans h1.1 hg,fun hl=>?_⟩
      have he:els.length=len:=by have:=h1.1;omega
      obtain ⟨b,c,hk,hv⟩:=h1.2 he
      exact ⟨b,c,(t.row k s s els els' h0 h' oM0).trans hk,hv⟩
  | bs k n v h =>
    refine .bs k n v fun cs' h'=>?_
    rcases t.kindB k cs' h' with h0 | ⟨cs,h0⟩
    · exact absurd (Names.bs ⟨h0,by simp [h']⟩) hn
    · obtain ⟨b,c,hk,hv⟩:=h cs h0
      exact ⟨b,c,(t.box k cs cs' h0 h').trans hk,hv⟩
  | mp k v h =>
    refine .mp k v fun cs' h'=>?_
    rcases t.kindM k cs' h' with h0 | ⟨cs,h0⟩
    · exact absurd (Names.mp ⟨h0,by simp [h']⟩) hn
    · obtain ⟨b,c,hk,hv⟩:=h cs h0
      exact ⟨b,c,(t.map k cs cs' h0 h').trans hk,hv⟩
  | agg cs vs u hl hv _ ih=>exact .agg cs vs u hl hv fun j c hj=>ih j c hj fun hc=>hn (.agg (List.mem_of_getElem? hj) hc)
  | tup cs vs u hl hv _ ih=>exact .tup cs vs u hl hv fun j c hj=>ih j c hj fun hc=>hn (.tup (List.mem_of_getElem? hj) hc)
  | fn f xs ys vs ws u t' hl hv _ hl' hv' _ ih ih' =>
    exact .fn f xs ys vs ws u t' hl hv (fun j c hj=>ih j c hj fun hc=>hn (.fn1 (List.mem_of_getElem? hj) hc)) hl' hv' (fun j c hj=>ih' j c hj fun hc=>hn (.fn2 (List.mem_of_getElem? hj) hc))
abbrev Fr:=List (Nat × IV)
def Fr.get:Fr->Nat->Option IV
  | [],_=>none
  | (k,x)::r,t=>bif Nat.beq k t then some x else Fr.get r t
def Fr.put (fr:Fr):Option Nat->IV->Fr
  | some t,x=>(t,x)::fr
  | none,_=>fr
def Fr.ev (fr:Fr):Operand->Option IV
  | .tmp t=>fr.get t
  | .const v=>some (.pv (.val v))
  | .global _=>none
  | .func f=>some (.pv (.val (.func (.func f) #[] #[])))
structure Cx where
  F:Nat->Prop
  R:Nat->Prop
  ρ:Loc
  σ:Heap'
  w:World
  n:Nat
structure All (c:Cx) (ρ:Loc) (σ:Heap') (w:World) (fr:Fr) (a:Act):Prop where
  rel:RelH c.F ρ σ w
  fr:∀ t x,fr.get t=some x->∃ v,a.tmps[t]? = some v/\RepI c.F ρ σ w x v
  tr:Trans c.F c.R c.ρ c.σ c.w ρ σ w
  df:a.defers=[]
  sz:a.tmps.size=c.n
  kk:Kept c.w (owned c.F c.ρ)
theorem All.kept {c:Cx} {ρ:Loc} {σ:Heap'} {w:World} {fr:Fr} {a:Act} (h:All c ρ σ w fr a):Kept w (owned c.F ρ):=h.kk.keep h.tr
theorem All.ev {c:Cx} {ρ:Loc} {σ:Heap'} {w:World} {fr:Fr} {a:Act} (h:All c ρ σ w fr a) {o:Operand} {x:IV} (hx:fr.ev o=some x):RepI c.F ρ σ w x (a.eval o):=by
  cases o with
  | tmp t =>
    obtain ⟨v,hv,hr⟩:=h.fr t x hx
    simpa [Act.eval,hv] using hr
  | const v=>cases hx;exact .pv _ _ (.val v)
  | global g=>cases hx
  | func f=>cases hx;exact .pv _ _ (.val _)
theorem All.step {c:Cx} {ρ ρ':Loc} {σ σ':Heap'} {w w':World} {fr:Fr} {a:Act} {R':Nat->Prop} (h:All c ρ σ w fr a) (t:Trans c.F R' ρ σ w ρ' σ' w') (hR:∀ k,c.R k->R' k)
    (hrel:RelH c.F ρ' σ' w') (hnew:∀ k,σ k=none -> σ' k≠none->c.σ k=none) (hfr:∀ t x,fr.get t=some x -> ¬ Names (fun k=>σ k=none /\ σ' k≠none) x):All c ρ' σ' w' fr a where
  rel:=hrel
  fr t' x hx:=by
    obtain ⟨v,hv,hr⟩:=h.fr t' x hx
    exact ⟨v,hv,hr.trans' t (hfr t' x hx)⟩
  tr:=h.tr.trans t hR hnew
  df:=h.df
  sz:=h.sz
  kk:=h.kk
theorem All.put {c:Cx} {ρ:Loc} {σ:Heap'} {w:World} {fr:Fr} {a:Act} (h:All c ρ σ w fr a) {d:Option Tmp} {x:IV} {v:Value} (hx:RepI c.F ρ σ w x v) (hd:∀ t,d=some t->t<c.n) :
    All c ρ σ w (fr.put d x) (a.put d v):=by
  cases d with
  | none=>exact h
  | some t =>
    refine ⟨h.rel,fun t' x' hx'=>?_,h.tr,h.df,by simp [Act.put,h.sz],h.kk⟩
    simp only [Fr.put,Fr.get] at hx'
    by_cases e:t=t'
    · subst e
      rw [show Nat.beq t t=true from Nat.beq_refl t] at hx'
      simp only [cond_true,Option.some.injEq] at hx'
      subst hx'
      exact ⟨v,by simp [Act.put,h.sz,hd t rfl],hx⟩
    · rw [show Nat.beq t t'=false from by cases hb:Nat.beq t t' with | true=>exact absurd (Nat.eq_of_beq_eq_true hb) e | false=>rfl] at hx'
      obtain ⟨u,hu,hr⟩:=h.fr t' x' hx'
      exact ⟨u,by simp [Act.put,e,hu],hr⟩
theorem All.weaken {c:Cx} {ρ:Loc} {σ:Heap'} {w:World} {fr fr':Fr} {a:Act} (h:All c ρ σ w fr a) (hs:∀ t x,fr'.get t=some x->fr.get t=some x):All c ρ σ w fr' a :=
  ⟨h.rel,fun t x hx=>h.fr t x (hs t x hx),h.tr,h.df,h.sz,h.kk⟩
def Ok (P:Program) (c:Cx) (o:Oper) (fr:Fr) (σ:Heap') (x:IV) (σ':Heap'):Prop :=
  ∀ ρ w a K Q,All c ρ σ w fr a->(∀ ρ' w' v,All c ρ' σ' w' fr a->RepI c.F ρ' σ' w' x v->K (a.put o.dst v) w')->o.wp P a w K Q
def lift (c:Cx) (Q:Exit->Fr->Heap'->Prop) (e:Exit) (a:Act) (w:World):Prop:=∃ ρ σ fr,All c ρ σ w fr a/\Q e fr σ
def WL (P:Program) (c:Cx) (ops:Array Oper) (Q:Exit->Fr->Heap'->Prop) (l:List Oper) (fr:Fr) (σ:Heap'):Prop :=
  ∀ ρ w a,All c ρ σ w fr a->wpList P ops (lift c Q) l a w
def Tr (P:Program) (c:Cx) (code:Code) (fr:Fr) (σ:Heap') (Q:Exit->Fr->Heap'->Prop):Prop :=
  ∀ ρ w a,All c ρ σ w fr a->code.wp P (lift c Q) a w
section
variable {P:Program} {c:Cx} {R1:Nat->Prop} {o:Oper} {fr:Fr} {σ:Heap'}
def SameFor (F R1:Nat->Prop) (ρ:Loc) (w w2:World):Prop:=∀ b,b<w.heap.size->(¬ owned F ρ b∨∃ k cc,R1 k /\ ρ k=some (b,cc))->w2.heap[b]? = w.heap[b]?
theorem SameFor.refl (F R1:Nat->Prop) (ρ:Loc) (w:World):SameFor F R1 ρ w w:=fun _ _ _=>rfl
def OkV (P:Program) (c:Cx) (R1:Nat->Prop) (o:Oper) (fr:Fr) (σ:Heap') (x:IV):Prop :=
  ∀ ρ w a,All c ρ σ w fr a->∃ v,(∀ w2,SameFor c.F R1 ρ w w2->(execOp a.eval o).run P w2 = .ok (.value v) w2)/\RepI c.F ρ σ w x v
theorem OkV.ok {P:Program} {c:Cx} {R1:Nat->Prop} {o:Oper} {fr:Fr} {σ:Heap'} {x:IV} (h:OkV P c R1 o fr σ x):Ok P c o fr σ x σ:=by
  intro ρ w a K Q ha hK
  obtain ⟨v,hr,hv⟩:=h ρ w a ha
  unfold Oper.wp
  rw [hr w (.refl _ _ _ _)]
  exact hK ρ w v ha hv
theorem RepI.val {F:Nat->Prop} {ρ:Loc} {w:World} {v u:Value} (h:RepI F ρ σ w (.pv (.val v)) u):u=v:=by
  cases h with
  | pv _ _ h=>cases h;rfl
theorem z03 {ρ:Loc} {w:World} {a:Act} (h:All c ρ σ w fr a) {y:Operand} {v:Value} (hy:fr.ev y=some (.pv (.val v))):a.eval y=v:=(h.ev hy).val
theorem z0r {F:Nat->Prop} {ρ:Loc} {w:World} (v:Value):RepI F ρ σ w (.pv (.val v)) v:=.pv _ _ (.val v)
theorem ok_move {y:Operand} {x:IV} (ho:o.op = .move y) (hy:fr.ev y=some x):OkV P c R1 o fr σ x :=
  fun ρ w a h=>⟨a.eval y,fun _ _=>by simp [execOp,ho],h.ev hy⟩
theorem ze3 {y:Operand} {x:IV} (ho:o.op = .assign y) (hy:fr.ev y=some x):OkV P c R1 o fr σ x :=
  fun ρ w a h=>⟨a.eval y,fun _ _=>by simp [execOp,ho],h.ev hy⟩
theorem z7m {q x y:Operand} {z:IV} (ho:o.op = .pick q x y) (hq:fr.ev q=some (.pv (.val (.bool true)))) (hy:fr.ev x=some z):OkV P c R1 o fr σ z :=
  fun ρ w a h=>⟨a.eval x,fun _ _=>by simp [execOp,ho,z03 h hq,asBool],h.ev hy⟩
theorem z6r {q x y:Operand} {z:IV} (ho:o.op = .pick q x y) (hq:fr.ev q=some (.pv (.val (.bool false)))) (hy:fr.ev y=some z):OkV P c R1 o fr σ z :=
  fun ρ w a h=>⟨a.eval y,fun _ _=>by simp [execOp,ho,z03 h hq,asBool],h.ev hy⟩
def z1t:BinOp->IntKind->Int->Int->Option Value
  | .add,k,m,n=>some (.int k (k.wrap (m+n)))
  | .sub,k,m,n=>some (.int k (k.wrap (m - n)))
  | .mul,k,m,n=>some (.int k (k.wrap (m*n)))
  | .quo,k,m,n=>if n=0 then none else some (.int k (k.wrap (m.tdiv n)))
  | .rem,k,m,n=>if n=0 then none else some (.int k (m.tmod n))
  | .and,k,m,n=>some (.int k (k.wrap (BitVec.ofInt k.bits m &&& BitVec.ofInt k.bits n).toNat))
  | .or,k,m,n=>some (.int k (k.wrap (BitVec.ofInt k.bits m ||| BitVec.ofInt k.bits n).toNat))
  | .xor,k,m,n=>some (.int k (k.wrap (BitVec.ofInt k.bits m ^^^ BitVec.ofInt k.bits n).toNat))
  | .eql,_,m,n=>some (.bool (m==n))
  | .neq,_,m,n=>some (.bool (m != n))
  | .lss,_,m,n=>some (.bool (decide (m<n)))
  | .leq,_,m,n=>some (.bool (decide (m<=n)))
  | .gtr,_,m,n=>some (.bool (decide (m > n)))
  | .geq,_,m,n=>some (.bool (decide (m ≥ n)))
  | _,_,_,_=>none
theorem za5 {op:BinOp} {k:IntKind} {m n:Int} {v:Value} (h:z1t op k m n=some v) (t:TypeId) (w:World) :
    (binOp op t (.int k m) (.int k n)).run P w = .ok v w:=by
  cases op<;>simp only [z1t] at h<;>first
    | (cases h;done)
    | (split at h<;>cases h;simp [binOp,Op.intDiv, *];done)
    | (cases h;simp [binOp,Op.intArith,Op.intBits,Op.intCmp];done)
theorem z1k {op:BinOp} {t:TypeId} {x y:Operand} {k k':IntKind} {m n:Int} (w:World):(eqGuard op t x y (.int k m) (.int k' n)).run P w = .ok () w:=by
  unfold eqGuard
  split<;>simp
theorem z5z {op:BinOp} {t u:TypeId} {x y:Operand} {k:IntKind} {m n:Int} {v:Value} (ho:o.op = .binOp op t x y u) (hx:fr.ev x=some (.pv (.val (.int k m)))) (hy:fr.ev y=some (.pv (.val (.int k n))))
    (hv:z1t op k m n=some v):OkV P c R1 o fr σ (.pv (.val v)) :=
  fun ρ w a h=>⟨v,fun _ _=>by simp [execOp,ho,z03 h hx,z03 h hy,Sem.run_bind,z1k,za5 hv],z0r v⟩
theorem ok_shl {t u:TypeId} {x y:Operand} {k k':IntKind} {m n:Int} (ho:o.op = .binOp .shl t x y u) (hx:fr.ev x=some (.pv (.val (.int k m)))) (hy:fr.ev y=some (.pv (.val (.int k' n))))
    (hn:0<=n):OkV P c R1 o fr σ (.pv (.val (.int k (k.wrap (m*2 ^ (min n.toNat k.bits)))))) :=
  fun ρ w a h=>⟨_,fun _ _=>by simp [execOp,ho,z03 h hx,z03 h hy,z1k,binOp,Op.shift,show ¬ n<0 by omega],z0r _⟩
theorem ok_shr {t u:TypeId} {x y:Operand} {k k':IntKind} {m n:Int} (ho:o.op = .binOp .shr t x y u) (hx:fr.ev x=some (.pv (.val (.int k m)))) (hy:fr.ev y=some (.pv (.val (.int k' n))))
    (hn:0<=n):OkV P c R1 o fr σ (.pv (.val (.int k (m.fdiv (2 ^ (min n.toNat k.bits)))))) :=
  fun ρ w a h=>⟨_,fun _ _=>by simp [execOp,ho,z03 h hx,z03 h hy,z1k,binOp,Op.shift,show ¬ n<0 by omega],z0r _⟩
def z7x:BinOp->ByteArray->ByteArray->Option Value
  | .add,x,y=>if ((x.size+y.size:Nat):Int) > IntKind.i64.max then none else some (.string (x++y))
  | .eql,x,y=>some (.bool (x.toList==y.toList))
  | .neq,x,y=>some (.bool (!(x.toList==y.toList)))
  | .lss,x,y=>some (.bool (Op.bytesLess x.toList y.toList))
  | .leq,x,y=>some (.bool (Op.bytesLess x.toList y.toList||x.toList==y.toList))
  | .gtr,x,y=>some (.bool (!(Op.bytesLess x.toList y.toList||x.toList==y.toList)))
  | .geq,x,y=>some (.bool (!Op.bytesLess x.toList y.toList))
  | _,_,_=>none
theorem za6 {op:BinOp} {x y:ByteArray} {v:Value} (h:z7x op x y=some v) (t:TypeId) (w:World) :
    (binOp op t (.string x) (.string y)).run P w = .ok v w:=by
  cases op<;>simp only [z7x] at h<;>first
    | (cases h;done)
    | (split at h<;>cases h;simp only [binOp,Op.stringOp];rw [if_neg (by assumption)];rfl)
    | (cases h;simp [binOp,Op.stringOp];done)
theorem z56 {op:BinOp} {t:TypeId} {x y:Operand} {s s':ByteArray} (w:World):(eqGuard op t x y (.string s) (.string s')).run P w = .ok () w:=by
  unfold eqGuard
  split<;>simp
theorem bSt {op:BinOp} {t u:TypeId} {x y:Operand} {s s':ByteArray} {v:Value} (ho:o.op = .binOp op t x y u) (hx:fr.ev x=some (.pv (.val (.string s)))) (hy:fr.ev y=some (.pv (.val (.string s'))))
    (hv:z7x op s s'=some v):OkV P c R1 o fr σ (.pv (.val v)) :=
  fun ρ w a h=>⟨v,fun _ _=>by simp [execOp,ho,z03 h hx,z03 h hy,Sem.run_bind,z56,za6 hv],z0r v⟩
theorem z2a {op:BinOp} {t:TypeId} {x y:Operand} {s s':Bool} (w:World):(eqGuard op t x y (.bool s) (.bool s')).run P w = .ok () w:=by
  unfold eqGuard
  split<;>simp
theorem z7t {t:TypeId} {p q:Bool} {w:World} (hu:P.underlying t=some .bool):(binOp .eql t (.bool p) (.bool q)).run P w = .ok (.bool (p==q)) w:=by
  have h:binOp .eql t (.bool p) (.bool q)=(Op.equalIn (9999+1) t (.bool p) (.bool q) >>= fun r=>pure (.bool r)):=rfl
  rw [h,Sem.run_bind,run_equalIn_bool _ _ _ _ _ hu]
  rfl
theorem z7u {t:TypeId} {p q:Bool} {w:World} (hu:P.underlying t=some .bool):(binOp .neq t (.bool p) (.bool q)).run P w = .ok (.bool (!(p==q))) w:=by
  have h:binOp .neq t (.bool p) (.bool q)=(Op.equalIn (9999+1) t (.bool p) (.bool q) >>= fun r=>pure (.bool (!r))):=rfl
  rw [h,Sem.run_bind,run_equalIn_bool _ _ _ _ _ hu]
  rfl
theorem z8n {t u:TypeId} {x y:Operand} {p q:Bool} (ho:o.op = .binOp .eql t x y u) (hx:fr.ev x=some (.pv (.val (.bool p)))) (hy:fr.ev y=some (.pv (.val (.bool q))))
    (hu:P.underlying t=some .bool):OkV P c R1 o fr σ (.pv (.val (.bool (p==q)))) :=
  fun ρ w a h=>⟨_,fun _ _=>by simp only [execOp,ho,z03 h hx,z03 h hy,Sem.run_bind,z2a,Result.andThen_ok,z7t hu];rfl,z0r _⟩
theorem z8r {t u:TypeId} {x y:Operand} {p q:Bool} (ho:o.op = .binOp .neq t x y u) (hx:fr.ev x=some (.pv (.val (.bool p)))) (hy:fr.ev y=some (.pv (.val (.bool q))))
    (hu:P.underlying t=some .bool):OkV P c R1 o fr σ (.pv (.val (.bool (!(p==q))))) :=
  fun ρ w a h=>⟨_,fun _ _=>by simp only [execOp,ho,z03 h hx,z03 h hy,Sem.run_bind,z2a,Result.andThen_ok,z7u hu];rfl,z0r _⟩
theorem ok_not {t:TypeId} {x:Operand} {p:Bool} (ho:o.op = .unOp .not t x) (hx:fr.ev x=some (.pv (.val (.bool p)))):OkV P c R1 o fr σ (.pv (.val (.bool (!p)))) :=
  fun ρ w a h=>⟨_,fun _ _=>by simp [execOp,ho,z03 h hx,Op.unary],z0r _⟩
theorem ok_neg {t:TypeId} {x:Operand} {k:IntKind} {n:Int} (ho:o.op = .unOp .neg t x) (hx:fr.ev x=some (.pv (.val (.int k n)))):OkV P c R1 o fr σ (.pv (.val (.int k (k.wrap (0 - n))))) :=
  fun ρ w a h=>⟨_,fun _ _=>by simp [execOp,ho,z03 h hx,Op.unary,Op.intArith],z0r _⟩
theorem z8l {s t:TypeId} {x:Operand} {k k':IntKind} {n:Int} (ho:o.op = .convert s t x) (hx:fr.ev x=some (.pv (.val (.int k n)))) (hs:∃ d,P.underlying s=some d) (hu:P.underlying t=some (.int k')) :
    OkV P c R1 o fr σ (.pv (.val (.int k' (k'.wrap n)))):=by
  obtain ⟨d,hd⟩:=hs
  refine fun ρ w a h=>⟨.int k' (k'.wrap n),fun w2 _=>?_,z0r _⟩
  simp only [execOp,ho,z03 h hx,convert,Sem.run_bind,run_underlying hd,run_underlying hu,Result.andThen_ok,Conv.intToInt]
  rfl
theorem RepI.inv_seq {F:Nat->Prop} {ρ:Loc} {w:World} {els:List (List PV)} {v:Value} (h:RepI F ρ σ w (.pv (.seq els)) v):RepP (owned F ρ) w (.seq els) v:=by
  cases h;assumption
theorem RepI.inv_ept {F:Nat->Prop} {ρ:Loc} {w:World} {cs:List PV} {off:Nat} {v:Value} (h:RepI F ρ σ w (.pv (.ept cs off)) v):RepP (owned F ρ) w (.ept cs off) v:=by
  cases h;assumption
theorem z06 {t:TypeId} {n:Nat} (h:(P.info? t).map (·.size)=some n) (w:World):(sizeOf t).run P w = .ok n w:=by
  cases hq:P.info? t with
  | none=>simp [hq] at h
  | some i=>simp [hq] at h;simp [sizeOf,typeInfo,hq,h]
theorem iSq {t e:TypeId} {x y:Operand} {els:List (List PV)} {el:List PV} {k:IntKind} {m:Int} {i:Nat} (ho:o.op = .indexAddr t x y) (hx:fr.ev x=some (.pv (.seq els))) (hy:fr.ev y=some (.pv (.val (.int k m))))
    (hu:P.underlying t=some (.slice e)) (hi:els[i]? = some el) {s:Nat} (he':(P.info? e).map (·.size)=some s) (hs:el.length=s) (hm:m=i):OkV P c R1 o fr σ (.pv (.ept el 0)):=by
  subst hm
  refine fun ρ w a h=>?_
  have he:(P.info? e).map (·.size)=some el.length:=hs ▸ he'
  have hr:=(h.ev hx).inv_seq
  have hlt:i<els.length:=(List.getElem?_eq_some_iff.1 hi).1
  generalize hv:a.eval x=v at hr
  cases hr with
  | seq _ ad cap b off u ha hb hl hm hc hr =>
    have hne:els≠[]:=by intro h0;simp [h0] at hlt
    obtain rfl:=ha hne
    refine ⟨.pointer (some ⟨b,off+i*el.length,none⟩),fun w2 _=>?_,.pv _ _ (.ept el 0 b (off+i*el.length) (u i) (hb hne) (fun j z hj=>hc i el hi j z hj) (fun j z hj=>hr i el hi j z hj))⟩
    simp [execOp,ho,hv,z03 h hy,Instr.indexAt,Sem.run_bind,asIntOf,run_underlying hu,hlt,z06 he,Addr.add_mid]
def z65 (P:Program) (t:TypeId) (f off:Nat):Prop:=∃ fs fd s,P.underlying t=some (.struct fs)/\fs[f]? = some fd/\fd.offset=off/\(P.info? fd.type).map (·.size)=some (s+1)
theorem z7f {t:TypeId} {x:Operand} {f fo:Nat} {cs:List PV} {off:Nat} (ho:o.op = .fieldAddr t x f) (hx:fr.ev x=some (.pv (.ept cs off)))
    (hfo:z65 P t f fo):OkV P c R1 o fr σ (.pv (.ept cs (off+fo))):=by
  refine fun ρ w a h=>?_
  obtain ⟨fs,fd,s,hu,hf,rfl,hs⟩:=hfo
  have hr:=(h.ev hx).inv_ept
  generalize hv:a.eval x=v at hr
  cases hr with
  | ept _ _ b o' u hb hc hr =>
    refine ⟨.pointer (some ⟨b,o'+(off+fd.offset),none⟩),fun w2 _=>?_,.pv _ _ (.ept cs _ b o' u hb hc hr)⟩
    simp [execOp,ho,hv,Instr.fieldAt,Sem.run_bind,run_underlying hu,hf,Instr.sureAddr,fieldPlace,z06 hs,Addr.add_mid,Nat.add_assoc]
theorem z3g {t:TypeId} {d:TypeDesc} (hu:P.underlying t=some d) (w:World):(isAgg t).run P w = .ok d.isRow w:=by
  unfold isAgg
  rw [Sem.run_bind,run_underlying hu w]
  cases d<;>simp
theorem z4w {t:TypeId} {x:Operand} {d:TypeDesc} {cs:List PV} {off:Nat} {z:PV} (ho:o.op = .load t x) (hx:fr.ev x=some (.pv (.ept cs off)))
    (hu:P.underlying t=some d) (hd:d.isRow=false) (hz:cs[off]? = some z):OkV P c R1 o fr σ (.pv z):=by
  refine fun ρ w a h=>?_
  have hr:=(h.ev hx).inv_ept
  generalize hv:a.eval x=v at hr
  cases hr with
  | ept _ _ b o' u hb hc hr =>
    refine ⟨u off,fun w2 h2=>?_,.pv _ _ (hr off z hz)⟩
    have hcell:w2.cell? ⟨b,o'+off,none⟩=some (u off):=(World.cell?_of_block (a:=⟨b,o'+off,none⟩) (h2 b hb.2 (.inl hb.1))).trans (hc off z hz)
    simp [execOp,ho,hv,Instr.loadAt,Instr.sureAddr,loadVar,Sem.run_bind,z3g hu,hd,run_load,hcell]
theorem lEA {t:TypeId} {x:Operand} {d:TypeDesc} {cs:List PV} {off n:Nat} (ho:o.op = .load t x) (hx:fr.ev x=some (.pv (.ept cs off)))
    (hu:P.underlying t=some d) (hd:d.isRow=true) (hs:(P.info? t).map (·.size)=some n) (hn:off+n<=cs.length):OkV P c R1 o fr σ (.pv (.agg ((cs.drop off).take n))):=by
  refine fun ρ w a h=>?_
  have hr:=(h.ev hx).inv_ept
  generalize hv:a.eval x=v at hr
  cases hr with
  | ept _ _ b o' u hb hc hr =>
    have hlen:(((List.range n).map fun j=>u (off+j)):List Value).length=n:=by simp
    have hrow:∀ w2,SameFor c.F R1 ρ w w2->w2.rangeAt b (o'+off) ((List.range n).map fun j=>u (off+j)):=by
      intro w2 h2 j v' hj
      have hjn:j<n:=by have:=(List.getElem?_eq_some_iff.1 hj).1;simpa using this
      have hv':v'=u (off+j):=by simpa [hjn] using hj.symm
      have hcs:cs[off+j]? = some (cs[off+j]'oM0):=List.getElem?_eq_getElem oM0
      rw [hv',Nat.add_assoc]
      exact (World.cell?_of_block (a:=⟨b,_,none⟩) (h2 b hb.2 (.inl hb.1))).trans (hc (off+j) _ hcs)
    refine ⟨_,fun w2 h2=>by simp only [execOp,ho,hv,Sem.run_bind,run_loadAt_mid (P:=P) w2 b (o'+off) t _ d (hrow w2 h2) hu hd (by rw [hlen];exact hs)];rfl,.pv _ _ (.agg _ _ (fun j=>u (off+j)) ?_ ?_ ?_)⟩
    · simp;omega
    · intro j z hj
      have hjn:j<n:=by have:=(List.getElem?_eq_some_iff.1 hj).1;simp at this;omega
      simp [hjn]
    · intro j z hj
      rw [List.getElem?_take] at hj
      split at hj
      · rw [List.getElem?_drop] at hj;exact hr _ z hj
      · cases hj
theorem z9y {t:TypeId} {x:Operand} {e:TypeId} {els:List (List PV)} (ho:o.op = .call { callee:=.builtin .len,args:=#[x],argTypes:=#[t] }) (hx:fr.ev x=some (.pv (.seq els)))
    (hu:P.underlying t=some (.slice e)) {n:Nat} (hn:els.length=n):OkV P c R1 o fr σ (.pv (.val (.int .i64 n))):=by
  subst hn
  refine fun ρ w a h=>?_
  have hr:=(h.ev hx).inv_seq
  generalize hv:a.eval x=v at hr
  cases hr with
  | seq _ ad cap b off u ha hb hl hm hc hr =>
    refine ⟨.int .i64 els.length,fun w2 _=>?_,z0r _⟩
    simp [execOp,ho,hv,resolve,Sem.run_bind,invoke,builtin,Builtin.len_,run_underlying hu,goInt]
end
abbrev Hp:=List (Nat × Option HO)
def look:Hp->Nat->Option HO
  | [],_=>none
  | (k,o)::r,j=>bif Nat.beq k j then o else look r j
theorem z1m {k j:Nat} (h:k≠j):Nat.beq k j=false:=by
  cases hb:Nat.beq k j with
  | true=>exact absurd (Nat.eq_of_beq_eq_true hb) h
  | false=>rfl
theorem z0b {k:Nat} {o:Option HO} {r:Hp}:look ((k,o)::r) k=o:=by simp [look]
theorem z8h {k j:Nat} {o x:Option HO} {r:Hp} (h:k≠j) (hr:look r j=x):look ((k,o)::r) j=x:=by simp [look,z1m h,hr]
theorem z08 {k j:Nat} {o:Option HO} {r:Hp} (h:k≠j):look ((k,o)::r) j=look r j:=z8h h rfl
def z04 (ρ:Loc) (k:Nat) (l:Option (Nat × Nat)):Loc:=fun j=>bif Nat.beq k j then l else ρ j
theorem z00 {ρ:Loc} {k:Nat} {l:Option (Nat × Nat)}:z04 ρ k l k=l:=by simp [z04]
theorem z0i {ρ:Loc} {k j:Nat} {l:Option (Nat × Nat)} (h:k≠j):z04 ρ k l j = ρ j:=by simp [z04,z1m h]
theorem Names.imp {P Q:Nat->Prop} {x:IV} (h:Names P x) (hi:∀ k,P k->Q k):Names Q x:=by
  induction h with
  | ptr h=>exact .ptr (hi _ h)
  | sl h=>exact .sl (hi _ h)
  | rpt h=>exact .rpt (hi _ h)
  | sp h=>exact .sp (hi _ h)
  | bs h=>exact .bs (hi _ h)
  | mp h=>exact .mp (hi _ h)
  | tnil h=>exact .tnil (hi _ h)
  | agg hc _ ih=>exact .agg hc ih
  | tup hc _ ih=>exact .tup hc ih
  | fn1 hc _ ih=>exact .fn1 hc ih
  | fn2 hc _ ih=>exact .fn2 hc ih
theorem Names.some {P:Nat->Prop} {x:IV} (h:Names P x):∃ k,P k:=by
  induction h with
  | ptr h=>exact ⟨_,h⟩
  | sl h=>exact ⟨_,h⟩
  | rpt h=>exact ⟨_,h⟩
  | sp h=>exact ⟨_,h⟩
  | bs h=>exact ⟨_,h⟩
  | mp h=>exact ⟨_,h⟩
  | tnil h=>exact ⟨_,h⟩
  | agg _ _ ih=>exact ih
  | tup _ _ ih=>exact ih
  | fn1 _ _ ih=>exact ih
  | fn2 _ _ ih=>exact ih
def HO.has (o:HO) (x:IV):Prop:=∃ cs,o = .box cs/\x∈cs
theorem RepO.keep {F R:Nat->Prop} {ρ ρ':Loc} {σ σ':Heap'} {w w':World} (t:Trans F R ρ σ w ρ' σ' w') {b c:Nat} {o:HO} (h:RepO F ρ σ w b c o) (hb:w'.heap[b]? = w.heap[b]?)
    (hn:∀ x,o.has x -> ¬ Names (fun k=>σ k=none /\ σ' k≠none) x):RepO F ρ' σ' w' b c o:=by
  cases h with
  | box cs e a u h hl hv hr=>exact .box cs e a u (hb.trans h) hl hv fun j x hj=>(hr j x hj).trans' t (hn x ⟨cs,rfl,List.mem_of_getElem? hj⟩)
  | row s els a u h hs hl hm hw hv hr=>exact .row s els a u (hb.trans h) hs hl hm hw hv fun i el hi j x hj=>(hr i el hi j x hj).trans' t
  | map es a t' u h hl hv hr=>exact .map es a t' u (hb.trans h) hl hv fun i k p hi=>(hr i k p hi).trans' t
def HO.fits:HO->HO->Prop
  | .box _,.box _=>True
  | .row s els,.row s' els'=>s=s'/\els.length<=els'.length
  | .map _,.map _=>True
  | _,_=>False
theorem All.write {c:Cx} {ρ:Loc} {hp:Hp} {w w':World} {fr:Fr} {a:Act} {k b cc:Nat} {o o':HO} (h:All c ρ (look hp) w fr a) (hk:ρ k=some (b,cc)) (hσ:look hp k=some o) (hf:o.fits o') (hR:¬ c.R k)
    (hos:w'.os=w.os) (ht:w'.tape=w.tape) (hout:w'.output=w.output) (hsz:w'.heap.size=w.heap.size) (hblk:∀ j,j≠b->w'.heap[j]? = w.heap[j]?)
    (ho':(∀ x v,RepI c.F ρ (look hp) w x v->RepI c.F ρ (look ((k,some o')::hp)) w' x v)->(∀ x v,RepP (owned c.F ρ) w x v->RepP (owned c.F ρ) w' x v)->RepO c.F ρ (look ((k,some o')::hp)) w' b cc o') :
    All c ρ (look ((k,some o')::hp)) w' fr a:=by
  have hlk:∀ j,j≠k->look ((k,some o')::hp) j=look hp j:=fun j hj=>z08 (Ne.symm hj)
  have hlk':look ((k,some o')::hp) k=some o':=z0b
  have t:Trans c.F (· ≠ k) ρ (look hp) w ρ (look ((k,some o')::hp)) w':=by
    refine ⟨hos,ht,hout,by omega,fun j hj hall=>hblk j fun e=>?_,fun _ _ _ h' _=>.inl h',fun _ _ _ _ _=>rfl,fun _ _ _ _ _=>rfl,fun _ _ _ _ _ _ _ _=>rfl,?_,?_,?_,?_⟩
    · exact hall k cc (e ▸ hk) rfl
    · intro j s s' els els' h1 h2
      by_cases e:j=k
      · subst e
        rw [hσ] at h1;rw [hlk'] at h2
        cases h1;cases h2
        exact hf.2
      · rw [hlk j e,h1] at h2;cases h2;exact Nat.le_refl _
    · intro j cs' h2
      by_cases e:j=k
      · subst e
        rw [hlk'] at h2;cases h2
        cases o with
        | box cs=>exact .inr ⟨cs,hσ⟩
        | row=>exact hf.elim
        | map=>exact hf.elim
      · rw [hlk j e] at h2;exact .inr ⟨_,h2⟩
    · intro j cs' h2
      by_cases e:j=k
      · subst e
        rw [hlk'] at h2;cases h2
        cases o with
        | map cs=>exact .inr ⟨cs,hσ⟩
        | row=>exact hf.elim
        | box=>exact hf.elim
      · rw [hlk j e] at h2;exact .inr ⟨_,h2⟩
    · intro j s cs' h2
      by_cases e:j=k
      · subst e
        rw [hlk'] at h2;cases h2
        cases o with
        | row s' cs=>obtain ⟨rfl,_⟩:=hf;exact .inr ⟨cs,hσ⟩
        | map=>exact hf.elim
        | box=>exact hf.elim
      · rw [hlk j e] at h2;exact .inr ⟨_,h2⟩
  have hnone:∀ j,¬ (look hp j=none/\look ((k,some o')::hp) j≠none):=fun j hj=>by
    by_cases e:j=k
    · subst e;rw [hσ] at hj;cases hj.1
    · rw [hlk j e] at hj;exact hj.2 hj.1
  have hnn:∀ x,¬ Names (fun j=>look hp j=none/\look ((k,some o')::hp) j≠none) x:=fun x hx=>by
    obtain ⟨j,hj⟩:=hx.some
    exact hnone j hj
  refine h.step t (fun j hj e=>hR (e ▸ hj)) ⟨h.rel.inj,h.rel.apart,fun b hb=>by rw [hsz];exact h.rel.old b hb,fun j b' c' hj=>?_,fun j o1 h1 h2=>?_⟩ (fun j h1 h2=>absurd ⟨h1,h2⟩ (hnone j)) fun _ x _=>hnn x
  · by_cases e:j=k
    · subst e
      rw [hk] at hj;cases hj
      exact ⟨o',hlk',ho' (fun x v hx=>hx.trans' t (hnn x)) fun x v hx=>hx.trans' t⟩
    · obtain ⟨o1,h1,h2⟩:=h.rel.obj j b' c' hj
      refine ⟨o1,(hlk j e).trans h1,h2.keep t (hblk b' fun e'=>e ?_) fun x _=>hnn x⟩
      subst e'
      exact h.rel.inj _ _ _ _ _ hj hk
  · by_cases e:j=k
    · subst e;rw [hk] at h2;cases h2
    · rw [hlk j e] at h1;exact h.rel.real j o1 h1 h2
def nm (k:Nat):IV->Bool
  | .pv _=>false
  | .ptr j _=>Nat.beq k j
  | .sl j _=>Nat.beq k j
  | .rpt j _ _=>Nat.beq k j
  | .sp j _ _=>Nat.beq k j
  | .bs j _=>Nat.beq k j
  | .mp j=>Nat.beq k j
  | .tnil j _=>Nat.beq k j
  | .agg cs=>nms k cs
  | .tup cs=>nms k cs
  | .fn _ xs ys=>nms k xs||nms k ys
where nms (k:Nat):List IV->Bool
  | []=>false
  | x::r=>nm k x||nms k r
theorem z0z {k:Nat}:∀ {l:List IV} {x:IV},nm.nms k l=false->x∈l->nm k x=false
  | y::r,x,h,hx=>by
    simp only [nm.nms,Bool.or_eq_false_iff] at h
    rcases List.mem_cons.1 hx with rfl | hx
    · exact h.1
    · exact z0z h.2 hx
theorem z4c {k:Nat} {x:IV} (h:Names (· = k) x):nm k x=true:=by
  induction h with
  | ptr h=>subst h;exact Nat.beq_refl _
  | sl h=>subst h;exact Nat.beq_refl _
  | rpt h=>subst h;exact Nat.beq_refl _
  | sp h=>subst h;exact Nat.beq_refl _
  | bs h=>subst h;exact Nat.beq_refl _
  | mp h=>subst h;exact Nat.beq_refl _
  | tnil h=>subst h;exact Nat.beq_refl _
  | agg hc _ ih =>
    cases hb:nm k (.agg _) with
    | true=>rfl
    | false=>simp only [nm] at hb;rw [z0z hb hc] at ih;cases ih
  | tup hc _ ih =>
    cases hb:nm k (.tup _) with
    | true=>rfl
    | false=>simp only [nm] at hb;rw [z0z hb hc] at ih;cases ih
  | fn1 hc _ ih =>
    cases hb:nm k (.fn _ _ _) with
    | true=>rfl
    | false=>simp only [nm,Bool.or_eq_false_iff] at hb;rw [z0z hb.1 hc] at ih;cases ih
  | fn2 hc _ ih =>
    cases hb:nm k (.fn _ _ _) with
    | true=>rfl
    | false=>simp only [nm,Bool.or_eq_false_iff] at hb;rw [z0z hb.2 hc] at ih;cases ih
def nmFr (k:Nat):Fr->Bool
  | []=>false
  | (_,x)::r=>nm k x||nmFr k r
def nmHp (k:Nat):Hp->Bool
  | []=>false
  | (_,some (.box cs))::r=>nm.nms k cs||nmHp k r
  | (_,_)::r=>nmHp k r
theorem z3b {k:Nat}:∀ {fr:Fr} {t:Nat} {x:IV},nmFr k fr=false->fr.get t=some x->nm k x=false
  | (j,y)::r,t,x,h,hx=>by
    simp only [nmFr,Bool.or_eq_false_iff] at h
    simp only [Fr.get] at hx
    cases hb:Nat.beq j t with
    | true=>rw [hb] at hx;cases hx;exact h.1
    | false=>rw [hb] at hx;exact z3b h.2 hx
theorem z1u {k:Nat}:∀ {hp:Hp} {j:Nat} {cs:List IV},nmHp k hp=false->look hp j=some (.box cs)->nm.nms k cs=false
  | (i,o)::r,j,cs,h,hx=>by
    simp only [look] at hx
    cases hb:Nat.beq i j with
    | true =>
      rw [hb] at hx
      simp only [cond_true] at hx
      subst hx
      simp only [nmHp,Bool.or_eq_false_iff] at h
      exact h.1
    | false =>
      rw [hb] at hx
      refine z1u (j:=j) ?_ hx
      cases o with
      | none=>simpa [nmHp] using h
      | some o=>cases o<;>simp_all [nmHp]
theorem All.alloc {c:Cx} {ρ:Loc} {hp:Hp} {w:World} {fr:Fr} {a:Act} {k:Nat} (h:All c ρ (look hp) w fr a) (hσ:look hp k=none) (hc:c.σ k=none) (hfr:nmFr k fr=false) (hhp:nmHp k hp=false)
    (cc:Nat) (o:HO) (ob:Obj)
    (ho:(∀ x v,RepI c.F ρ (look hp) w x v->nm k x=false->RepI c.F (z04 ρ k (some (w.heap.size,cc))) (look ((k,some o)::hp)) (w.alloc ob) x v) ->
      (∀ x v,RepP (owned c.F ρ) w x v->RepP (owned c.F (z04 ρ k (some (w.heap.size,cc)))) (w.alloc ob) x v) ->
      RepO c.F (z04 ρ k (some (w.heap.size,cc))) (look ((k,some o)::hp)) (w.alloc ob) w.heap.size cc o) :
    All c (z04 ρ k (some (w.heap.size,cc))) (look ((k,some o)::hp)) (w.alloc ob) fr a:=by
  have hlk:∀ j,j≠k->look ((k,some o)::hp) j=look hp j:=fun j hj=>z08 (Ne.symm hj)
  have hlk':look ((k,some o)::hp) k=some o:=z0b
  have hρ:∀ j,j≠k->z04 ρ k (some (w.heap.size,cc)) j = ρ j:=fun j hj=>z0i (Ne.symm hj)
  have hρk:ρ k=none:=by
    cases hk:ρ k with
    | none=>rfl
    | some l=>obtain ⟨o',h',_⟩:=h.rel.obj k l.1 l.2 hk;rw [hσ] at h';cases h'
  have hheap:∀ j,j<w.heap.size->(w.alloc ob).heap[j]? = w.heap[j]?:=fun j hj=>by
    show (w.heap.push ob)[j]? = _
    rw [Array.getElem?_push,if_neg oM0]
  have hne:∀ j x,look hp j=some x->j≠k:=fun j x hj e=>by subst e;rw [hσ] at hj;cases hj
  have t:Trans c.F (fun _=>True) ρ (look hp) w (z04 ρ k (some (w.heap.size,cc))) (look ((k,some o)::hp)) (w.alloc ob):=by
    refine ⟨rfl,rfl,rfl,by simp,fun j hj _=>hheap j hj,?_,fun j _ _ h1 _=>hρ j (hne _ _ h1),fun j _ _ h1 _=>hρ j (hne _ _ h1),fun j _ _ _ _ h1 _ _=>hρ j (hne _ _ h1),?_,?_,?_,?_⟩
    · intro j b c' hj hb
      by_cases e:j=k
      · subst e;rw [z00] at hj;cases hj;omega
      · rw [hρ j e] at hj;exact .inl hj
    · intro j s s' els els' h1 h2
      rw [hlk j (hne _ _ h1),h1] at h2
      cases h2;exact Nat.le_refl _
    all_goals intro j
    · intro cs h2
      by_cases e:j=k
      · subst e;exact .inl hσ
      · rw [hlk j e] at h2;exact .inr ⟨_,h2⟩
    · intro cs h2
      by_cases e:j=k
      · subst e;exact .inl hσ
      · rw [hlk j e] at h2;exact .inr ⟨_,h2⟩
    · intro s cs h2
      by_cases e:j=k
      · subst e;exact .inl hσ
      · rw [hlk j e] at h2;exact .inr ⟨_,h2⟩
  have hnew:∀ j,look hp j=none/\look ((k,some o)::hp) j≠none->j=k:=fun j hj=>Classical.byContradiction fun e=>hj.2 ((hlk j e).trans hj.1)
  have hnn:∀ x,nm k x=false -> ¬ Names (fun j=>look hp j=none/\look ((k,some o)::hp) j≠none) x:=fun x hx hn=>by
    rw [z4c (hn.imp hnew)] at hx;cases hx
  refine h.step t (fun _ _=>trivial) ⟨?_,?_,fun b hb=>Nat.lt_of_lt_of_le (h.rel.old b hb) sI0,fun j b' c' hj=>?_,fun j o1 h1 h2=>?_⟩ (fun j h1 h2=>hnew j ⟨h1,h2⟩ ▸ hc) fun t x hx=>hnn x (z3b hfr hx)
  · intro j j' b c1 c2 h1 h2
    by_cases e:j=k<;>by_cases e':j'=k
    · rw [e,e']
    · subst e
      rw [z00] at h1;rw [hρ j' e'] at h2
      cases h1
      have:=h.rel.lt h2;omega
    · subst e'
      rw [z00] at h2;rw [hρ j e] at h1
      cases h2
      have:=h.rel.lt h1;omega
    · rw [hρ j e] at h1;rw [hρ j' e'] at h2
      exact h.rel.inj _ _ _ _ _ h1 h2
  · intro j b c1 h1 hF
    by_cases e:j=k
    · subst e
      rw [z00] at h1;cases h1
      have:=h.rel.old _ hF;omega
    · rw [hρ j e] at h1;exact h.rel.apart _ _ _ h1 hF
  · by_cases e:j=k
    · subst e
      rw [z00] at hj;cases hj
      exact ⟨o,hlk',ho (fun x v hx hk=>hx.trans' t (hnn x hk)) fun x v hx=>hx.trans' t⟩
    · rw [hρ j e] at hj
      obtain ⟨o1,h1,h2⟩:=h.rel.obj j b' c' hj
      refine ⟨o1,(hlk j e).trans h1,h2.keep t (hheap b' h2.lt) fun x ⟨cs,h3,h4⟩=>hnn x ?_⟩
      subst h3
      exact z0z (z1u hhp h1) h4
  · by_cases e:j=k
    · subst e;rw [z00] at h2;cases h2
    · rw [hlk j e] at h1;rw [hρ j e] at h2;exact h.rel.real j o1 h1 h2
theorem All.drop {c:Cx} {ρ:Loc} {hp:Hp} {w:World} {fr:Fr} {a:Act} {k:Nat} (h:All c ρ (look hp) w fr a):All c (z04 ρ k none) (look ((k,none)::hp)) w fr a:=by
  have hlk:∀ j,j≠k->look ((k,none)::hp) j=look hp j:=fun j hj=>z08 (Ne.symm hj)
  have hlk':look ((k,none)::hp) k=none:=z0b
  have hρ:∀ j,j≠k->z04 ρ k none j = ρ j:=fun j hj=>z0i (Ne.symm hj)
  have hne:∀ j x,look ((k,none)::hp) j=some x->j≠k:=fun j x hj e=>by subst e;rw [hlk'] at hj;cases hj
  have t:Trans c.F (fun _=>True) ρ (look hp) w (z04 ρ k none) (look ((k,none)::hp)) w:=by
    refine ⟨rfl,rfl,rfl,Nat.le_refl _,fun j hj _=>rfl,?_,fun j _ _ _ h1=>hρ j (hne _ _ h1),fun j _ _ _ h1=>hρ j (hne _ _ h1),fun j _ _ _ _ _ h1 _=>hρ j (hne _ _ h1),?_,?_,?_,?_⟩
    · intro j b c' hj hb
      by_cases e:j=k
      · subst e;rw [z00] at hj;cases hj
      · rw [hρ j e] at hj;exact .inl hj
    · intro j s s' els els' h1 h2
      rw [hlk j (hne _ _ h2),h1] at h2
      cases h2;exact Nat.le_refl _
    all_goals intro j
    · intro cs h2
      rw [hlk j (hne _ _ h2)] at h2;exact .inr ⟨_,h2⟩
    · intro cs h2
      rw [hlk j (hne _ _ h2)] at h2;exact .inr ⟨_,h2⟩
    · intro s cs h2
      rw [hlk j (hne _ _ h2)] at h2;exact .inr ⟨_,h2⟩
  have hnone:∀ j,¬ (look hp j=none/\look ((k,none)::hp) j≠none):=fun j hj=>by
    by_cases e:j=k
    · subst e;exact hj.2 hlk'
    · rw [hlk j e] at hj;exact hj.2 hj.1
  have hnn:∀ x,¬ Names (fun j=>look hp j=none/\look ((k,none)::hp) j≠none) x:=fun x hx=>by
    obtain ⟨j,hj⟩:=hx.some
    exact hnone j hj
  refine h.step t (fun _ _=>trivial) ⟨?_,?_,h.rel.old,fun j b' c' hj=>?_,fun j o1 h1 h2=>?_⟩ (fun j h1 h2=>absurd ⟨h1,h2⟩ (hnone j)) fun _ x _=>hnn x
  · intro j j' b c1 c2 h1 h2
    by_cases e:j=k
    · subst e;rw [z00] at h1;cases h1
    · by_cases e':j'=k
      · subst e';rw [z00] at h2;cases h2
      · rw [hρ j e] at h1;rw [hρ j' e'] at h2
        exact h.rel.inj _ _ _ _ _ h1 h2
  · intro j b c1 h1 hF
    by_cases e:j=k
    · subst e;rw [z00] at h1;cases h1
    · rw [hρ j e] at h1;exact h.rel.apart _ _ _ h1 hF
  · by_cases e:j=k
    · subst e;rw [z00] at hj;cases hj
    · rw [hρ j e] at hj
      obtain ⟨o1,h1,h2⟩:=h.rel.obj j b' c' hj
      exact ⟨o1,(hlk j e).trans h1,h2.keep t rfl fun x _=>hnn x⟩
  · have e:=hne _ _ h1
    rw [hlk j e] at h1;rw [hρ j e] at h2;exact h.rel.real j o1 h1 h2
theorem All.rename {c:Cx} {ρ:Loc} {hp:Hp} {w:World} {fr:Fr} {a:Act} {k k' b cc:Nat} {o:HO} (h:All c ρ (look hp) w fr a) (hk:ρ k=some (b,cc)) (hσ:look hp k=some o) (hR:¬ c.R k) (hσ':look hp k'=none) (hc:c.σ k'=none)
    (hfr:nmFr k' fr=false) (hhp:nmHp k' hp=false):All c (z04 (z04 ρ k none) k' (some (b,cc))) (look ((k',some o)::(k,none)::hp)) w fr a:=by
  have hne:k≠k':=fun e=>by subst e;rw [hσ] at hσ';cases hσ'
  have s1:look ((k',some o)::(k,none)::hp) k'=some o:=z0b
  have s2:look ((k',some o)::(k,none)::hp) k=none:=(z08 hne.symm).trans z0b
  have s3:∀ j,j≠k'->j≠k->look ((k',some o)::(k,none)::hp) j=look hp j:=fun j e1 e2=>(z08 (Ne.symm e1)).trans (z08 (Ne.symm e2))
  have r1:z04 (z04 ρ k none) k' (some (b,cc)) k'=some (b,cc):=z00
  have r2:z04 (z04 ρ k none) k' (some (b,cc)) k=none:=(z0i hne.symm).trans z00
  have r3:∀ j,j≠k'->j≠k->z04 (z04 ρ k none) k' (some (b,cc)) j = ρ j:=fun j e1 e2=>(z0i (Ne.symm e1)).trans (z0i (Ne.symm e2))
  have hk'n:ρ k'=none:=by
    cases hr:ρ k' with
    | none=>rfl
    | some p=>obtain ⟨b1,c1⟩:=p;obtain ⟨o1,h1,_⟩:=h.rel.obj k' b1 c1 hr;rw [hσ'] at h1;cases h1
  generalize z04 (z04 ρ k none) k' (some (b,cc)) = ρ' at r1 r2 r3 ⊢
  generalize look ((k',some o)::(k,none)::hp) = σ' at s1 s2 s3 ⊢
  have hs:∀ j o',σ' j=some o'->j≠k'->look hp j=some o' /\ ρ' j = ρ j:=fun j o' hj e1=>by
    by_cases e2:j=k
    · subst e2;rw [s2] at hj;cases hj
    · rw [s3 j e1 e2] at hj;exact ⟨hj,r3 j e1 e2⟩
  have both:∀ j o1 o2,look hp j=some o1 -> σ' j=some o2->look hp j=some o2 /\ ρ' j = ρ j:=fun j o1 o2 h1 h2=>hs j o2 h2 fun e=>by subst e;rw [hσ'] at h1;cases h1
  have t:Trans c.F (· ≠ k) ρ (look hp) w ρ' σ' w:=by
    refine ⟨rfl,rfl,rfl,Nat.le_refl _,fun _ _ _=>rfl,fun j b1 c1 hj _=>?_,fun j cs cs' h1 h2=>(both _ _ _ h1 h2).2,fun j cs cs' h1 h2=>(both _ _ _ h1 h2).2,fun j _ _ _ _ h1 h2 _=>(both _ _ _ h1 h2).2,fun j s s' els els' h1 h2=>?_,fun j cs h2=>?_,fun j cs h2=>?_,fun j s cs h2=>?_⟩
    · by_cases e1:j=k'
      · subst e1;rw [r1] at hj;cases hj;exact .inr ⟨k,cc,hk,fun h=>h rfl⟩
      · by_cases e2:j=k
        · subst e2;rw [r2] at hj;cases hj
        · rw [r3 j e1 e2] at hj;exact .inl hj
    · have:=(both _ _ _ h1 h2).1
      rw [h1] at this;cases this;exact Nat.le_refl _
    all_goals
      by_cases e1:j=k'
      · subst e1;exact .inl hσ'
      · exact .inr ⟨_,(hs j _ h2 e1).1⟩
  have hnew:∀ j,look hp j=none /\ σ' j≠none->j=k':=fun j hj=>Classical.byContradiction fun e=>hj.2 (by
    by_cases e2:j=k
    · subst e2;exact s2
    · rw [s3 j e e2];exact hj.1)
  have hnn:∀ x,nm k' x=false -> ¬ Names (fun j=>look hp j=none /\ σ' j≠none) x:=fun x hx hn=>by
    rw [z4c (hn.imp hnew)] at hx;cases hx
  have hO:∀ j b' c' o',look hp j=some o'->RepO c.F ρ (look hp) w b' c' o'->RepO c.F ρ' σ' w b' c' o':=fun j b' c' o' hj h2=>h2.keep t rfl fun x ⟨cs,h3,h4⟩=>hnn x (by
    subst h3
    exact z0z (z1u hhp hj) h4)
  refine h.step t (fun j hj e=>hR (e ▸ hj)) ⟨?_,?_,h.rel.old,fun j b' c' hj=>?_,fun j o1 h1 h2=>?_⟩ (fun j h1 h2=>hnew j ⟨h1,h2⟩ ▸ hc) fun t x hx=>hnn x (z3b hfr hx)
  · intro j j' b1 c1 c2 h1 h2
    have get:∀ j c1,ρ' j=some (b1,c1)->∃ i,ρ i=some (b1,c1)/\(i=j∨(i=k/\j=k')):=fun j c1 h1=>by
      by_cases e1:j=k'
      · subst e1;rw [r1] at h1;cases h1;exact ⟨k,hk,.inr ⟨rfl,rfl⟩⟩
      · by_cases e2:j=k
        · subst e2;rw [r2] at h1;cases h1
        · rw [r3 j e1 e2] at h1;exact ⟨j,h1,.inl rfl⟩
    have nk:∀ j c1,ρ' j=some (b1,c1)->j≠k:=fun j c1 h1 e=>by subst e;rw [r2] at h1;cases h1
    obtain ⟨i,g1,g2⟩:=get j c1 h1
    obtain ⟨i',g1',g2'⟩:=get j' c2 h2
    have e:=h.rel.inj _ _ _ _ _ g1 g1'
    have n1:=nk j c1 h1
    have n2:=nk j' c2 h2
    rcases g2 with g2 | ⟨g2,g3⟩<;>rcases g2' with g2' | ⟨g2',g3'⟩
    · rw [<- g2,<- g2',e]
    · exact absurd (g2.symm.trans (e.trans g2')) n1
    · exact absurd (g2'.symm.trans (e.symm.trans g2)) n2
    · rw [g3,g3']
  · intro j b1 c1 h1 hF
    by_cases e1:j=k'
    · subst e1;rw [r1] at h1;cases h1;exact h.rel.apart _ _ _ hk hF
    · by_cases e2:j=k
      · subst e2;rw [r2] at h1;cases h1
      · rw [r3 j e1 e2] at h1;exact h.rel.apart _ _ _ h1 hF
  · by_cases e1:j=k'
    · subst e1;rw [r1] at hj;cases hj
      obtain ⟨o1,h1,h2⟩:=h.rel.obj k b cc hk
      rw [hσ] at h1;cases h1
      exact ⟨o,s1,hO k _ _ _ hσ h2⟩
    · by_cases e2:j=k
      · subst e2;rw [r2] at hj;cases hj
      · rw [r3 j e1 e2] at hj
        obtain ⟨o1,h1,h2⟩:=h.rel.obj j b' c' hj
        exact ⟨o1,(s3 j e1 e2).trans h1,hO j _ _ _ h1 h2⟩
  · by_cases e1:j=k'
    · subst e1;rw [r1] at h2;cases h2
    · by_cases e2:j=k
      · subst e2;rw [s2] at h1;cases h1
      · rw [s3 j e1 e2] at h1;rw [r3 j e1 e2] at h2;exact h.rel.real j o1 h1 h2
section
variable {P:Program} {c:Cx} {R1:Nat->Prop} {o:Oper} {fr:Fr} {hp:Hp}
theorem RepO.inv_box {F:Nat->Prop} {ρ:Loc} {σ:Heap'} {w:World} {b cc:Nat} {cs:List IV} (h:RepO F ρ σ w b cc (.box cs)) :
    ∃ (e:TypeId) (a:Array Value) (u:Nat->Value),w.heap[b]? = some (.cells a e (0,0))/\cs.length<=a.size/\(∀ j x,cs[j]? = some x->a[j]? = some (u j))/\∀ j x,cs[j]? = some x->RepI F ρ σ w x (u j):=by
  cases h with
  | box _ e a u h hl hv hr=>exact ⟨e,a,u,h,hl,hv,hr⟩
theorem All.box {ρ:Loc} {w:World} {a:Act} (h:All c ρ (look hp) w fr a) {x:Operand} {k off:Nat} {cs:List IV} (hx:fr.ev x=some (.ptr k off)) (hk:look hp k=some (.box cs)) :
    ∃ (b cc:Nat) (e:TypeId) (r:Array Value) (u:Nat->Value),a.eval x = .pointer (some ⟨b,off,none⟩) /\ ρ k=some (b,cc)/\w.heap[b]? = some (.cells r e (0,0))/\cs.length<=r.size/\(∀ j x,cs[j]? = some x->r[j]? = some (u j))/\∀ j x,cs[j]? = some x->RepI c.F ρ (look hp) w x (u j):=by
  have hr:=h.ev hx
  generalize hv:a.eval x=v at hr
  cases hr with
  | ptr _ _ _ hh =>
    obtain ⟨b,cc,hρ,rfl⟩:=hh cs hk
    obtain ⟨o1,h1,h2⟩:=h.rel.obj k b cc hρ
    rw [hk] at h1;cases h1
    obtain ⟨e,r,u,h3,h4,h5,h6⟩:=h2.inv_box
    exact ⟨b,cc,e,r,u,rfl,hρ,h3,h4,h5,h6⟩
theorem z0w {w:World} {b:Nat} {r:Array Value} {e:TypeId} (h:w.heap[b]? = some (.cells r e (0,0))) (j:Nat):w.cell? ⟨b,j,none⟩=r[j]?:=by simp [World.cell?,h]
theorem z7g {t:TypeId} {x:Operand} {f fo:Nat} {k off:Nat} {cs:List IV} (ho:o.op = .fieldAddr t x f) (hx:fr.ev x=some (.ptr k off)) (hk:look hp k=some (.box cs))
    (hfo:z65 P t f fo):OkV P c R1 o fr (look hp) (.ptr k (off+fo)):=by
  refine fun ρ w a h=>?_
  obtain ⟨fs,fd,s,hu,hf,rfl,hs⟩:=hfo
  obtain ⟨b,cc,e,r,u,hv,hρ,h3,h4,h5,h6⟩:=h.box hx hk
  refine ⟨.pointer (some ⟨b,off+fd.offset,none⟩),fun w2 _=>?_,.ptr _ _ _ fun cs' _=>⟨b,cc,hρ,rfl⟩⟩
  simp [execOp,ho,hv,Instr.fieldAt,Sem.run_bind,run_underlying hu,hf,Instr.sureAddr,fieldPlace,z06 hs,Addr.add_mid]
theorem z4v {t:TypeId} {x:Operand} {d:TypeDesc} {k off:Nat} {cs:List IV} {z:IV} (ho:o.op = .load t x) (hx:fr.ev x=some (.ptr k off)) (hk:look hp k=some (.box cs))
    (hu:P.underlying t=some d) (hd:d.isRow=false) (hz:cs[off]? = some z) (hR1:R1 k):OkV P c R1 o fr (look hp) z:=by
  refine fun ρ w a h=>?_
  obtain ⟨b,cc,e,r,u,hv,hρ,h3,h4,h5,h6⟩:=h.box hx hk
  refine ⟨u off,fun w2 h2=>?_,h6 off z hz⟩
  have h3':w2.heap[b]? = some (.cells r e (0,0)):=(h2 b (h.rel.lt hρ) (.inr ⟨k,cc,hR1,hρ⟩)).trans h3
  simp [execOp,ho,hv,Instr.loadAt,Instr.sureAddr,loadVar,Sem.run_bind,z3g hu,hd,run_load,z0w h3',h5 off z hz]
theorem z7r {w:World} {b:Nat} {r:Array Value} {e:TypeId} (h:w.heap[b]? = some (.cells r e (0,0))) (off n:Nat):w.rangeAt b off ((r.toList.drop off).take n):=by
  intro j v hj
  rw [List.getElem?_take] at hj
  split at hj
  · rw [List.getElem?_drop] at hj
    rw [z0w h]
    simpa using hj
  · cases hj
theorem z1g {t:TypeId} {x:Operand} {d:TypeDesc} {k off n:Nat} {cs:List IV} (ho:o.op = .load t x) (hx:fr.ev x=some (.ptr k off)) (hk:look hp k=some (.box cs))
    (hu:P.underlying t=some d) (hd:d.isRow=true) (hs:(P.info? t).map (·.size)=some n) (hn:off+n<=cs.length) (hR1:R1 k):OkV P c R1 o fr (look hp) (.agg ((cs.drop off).take n)):=by
  refine fun ρ w a h=>?_
  obtain ⟨b,cc,e,r,u,hv,hρ,h3,h4,h5,h6⟩:=h.box hx hk
  have hlen:((r.toList.drop off).take n).length=n:=by simp;omega
  refine ⟨_,fun w2 h2=>by simp only [execOp,ho,hv,Sem.run_bind,run_loadAt_mid (P:=P) w2 b off t _ d (z7r ((h2 b (h.rel.lt hρ) (.inr ⟨k,cc,hR1,hρ⟩)).trans h3) off n) hu hd (by rw [hlen];exact hs)];rfl,.agg _ _ (fun j=>u (off+j)) ?_ ?_ ?_⟩
  · simp;omega
  · intro j z hj
    have hjn:j<n:=by have:=(List.getElem?_eq_some_iff.1 hj).1;simp at this;omega
    rw [List.getElem?_take,if_pos hjn,List.getElem?_drop] at hj
    have:=h5 _ z hj
    simp [hjn]
    simpa using this
  · intro j z hj
    rw [List.getElem?_take] at hj
    split at hj
    · rw [List.getElem?_drop] at hj;exact h6 _ z hj
    · cases hj
def z1j:List IV->Option (List PV)
  | []=>some []
  | .pv p::r=>(z1j r).map (p :: ·)
  | _::_=>none
theorem z1x:∀ {cs:List IV} {ps:List PV},z1j cs=some ps->ps.length=cs.length/\∀ (j:Nat) (p:PV),ps[j]? = some p->cs[j]? = some (IV.pv p)
  | [],ps,h=>by cases h;exact ⟨rfl,fun j p hj=>by simp at hj⟩
  | .pv q::r,ps,h=>by
    simp only [z1j,Option.map_eq_some_iff] at h
    obtain ⟨qs,hq,rfl⟩:=h
    obtain ⟨hl,hg⟩:=z1x hq
    refine ⟨by simp [hl],fun j p hj=>?_⟩
    cases j with
    | zero=>simpa using hj
    | succ j=>exact hg j p (by simpa using hj)
  | .ptr .. :: _,_,h | .sl .. :: _,_,h | .rpt .. :: _,_,h | .sp .. :: _,_,h | .bs .. :: _,_,h | .mp .. :: _,_,h | .agg .. :: _,_,h | .tup .. :: _,_,h | .fn .. :: _,_,h=>by cases h
theorem RepI.purify {F:Nat->Prop} {ρ:Loc} {σ:Heap'} {w:World} {cs:List IV} {ps:List PV} {v:Value} (h:RepI F ρ σ w (.agg cs) v) (hp:z1j cs=some ps):RepI F ρ σ w (.pv (.agg ps)) v:=by
  cases h with
  | agg _ vs u hl hv hr =>
    obtain ⟨h1,h2⟩:=z1x hp
    refine .pv _ _ (.agg ps vs u oM0 (fun j p hj=>hv j _ (h2 j p hj)) fun j p hj=>?_)
    have:=hr j _ (h2 j p hj)
    cases this;assumption
theorem OkV.sub {σ:Heap'} {x y:IV} (h:OkV P c R1 o fr σ x) (hs:∀ F ρ w v,RepI F ρ σ w x v->RepI F ρ σ w y v):OkV P c R1 o fr σ y :=
  fun ρ w a ha=>let ⟨v,hr,hv⟩:=h ρ w a ha;⟨v,hr,hs _ _ _ _ hv⟩
theorem lBP {t:TypeId} {x:Operand} {d:TypeDesc} {k off n:Nat} {cs:List IV} {ps:List PV} (ho:o.op = .load t x) (hx:fr.ev x=some (.ptr k off)) (hk:look hp k=some (.box cs))
    (hu:P.underlying t=some d) (hd:d.isRow=true) (hs:(P.info? t).map (·.size)=some n) (hn:off+n<=cs.length) (hps:z1j ((cs.drop off).take n)=some ps) (hR1:R1 k):OkV P c R1 o fr (look hp) (.pv (.agg ps)) :=
  (z1g ho hx hk hu hd hs hn hR1).sub fun _ _ _ _ h=>h.purify hps
def PV.one:PV->Bool
  | .val v=>v.oneCell'
  | .agg _=>false
  | _=>true
theorem RepP.one {own:Nat->Prop} {w:World} {p:PV} {v:Value} (h:RepP own w p v) (hp:p.one=true):v.oneCell'=true:=by
  cases h<;>first | rfl | exact hp | cases hp
def IV.firm (σ:Heap'):IV->Prop
  | .pv p=>p.one=true
  | .ptr k _=>∃ cs,σ k=some (.box cs)
  | .sl k len=>∃ s els,σ k=some (.row s els)/\els.length=len
  | .rpt k len _=>∃ s els,σ k=some (.row s els)/\els.length=len
  | .sp k _ len=>∃ s els,σ k=some (.row s els)/\els.length=len
  | .bs k _=>∃ cs,σ k=some (.box cs)
  | .mp k=>∃ es,σ k=some (.map es)
  | .tnil _ _=>False
  | .agg _=>False
  | .tup _=>False
  | .fn ..=>True
theorem RepI.one {F:Nat->Prop} {ρ:Loc} {σ:Heap'} {w:World} {x:IV} {v:Value} (h:RepI F ρ σ w x v) (hx:x.firm σ):v.oneCell'=true:=by
  cases h with
  | pv p v h=>exact h.one hx
  | ptr k off v h=>obtain ⟨cs,hk⟩:=hx;obtain ⟨b,cc,_,rfl⟩:=h cs hk;rfl
  | sl k len v h =>
    obtain ⟨s,els,hk,hl⟩:=hx
    rcases (h s els hk).2 hl with ⟨b,cc,_,rfl⟩ | ⟨_,_,rfl⟩<;>rfl
  | rpt k len off v h=>obtain ⟨s,els,hk,hl⟩:=hx;obtain ⟨b,cc,_,rfl⟩:=(h s els hk).2 hl;rfl
  | sp k n len v h =>
    obtain ⟨s,els,hk,hl⟩:=hx
    rcases (h s els hk).2 hl with ⟨_,b,cc,_,rfl⟩ | ⟨_,_,_,rfl⟩<;>rfl
  | bs k n v h=>obtain ⟨cs,hk⟩:=hx;obtain ⟨b,cc,_,cap,_,_,rfl⟩:=h cs hk;rfl
  | mp k v h=>obtain ⟨es,hk⟩:=hx;obtain ⟨b,cc,_,rfl⟩:=h es hk;rfl
  | tnil=>exact hx.elim
  | agg=>exact hx.elim
  | tup=>exact hx.elim
  | fn=>rfl
theorem z4z {σ σ':Heap'} (h:∀ ρ w a,All c ρ σ w fr a->∃ ρ' w',(execOp a.eval o).run P w = .ok .skip w'/\All c ρ' σ' w' fr a):Ok P c o fr σ (.pv (.val undef)) σ':=by
  intro ρ w a K Q ha hK
  obtain ⟨ρ',w',hr,ha'⟩:=h ρ w a ha
  unfold Oper.wp
  rw [hr]
  have:=hK ρ' w' undef ha' (z0r _)
  show K (a.put o.dst undef) w'
  exact this
theorem sBx {t:TypeId} {x y:Operand} {k off:Nat} {cs:List IV} {z:IV} (ho:o.op = .store t x y) (hx:fr.ev x=some (.ptr k off)) (hy:fr.ev y=some z) (hk:look hp k=some (.box cs))
    (hR:¬ c.R k) (hs:(P.info? t).map (·.size)=some 1) (hz:z.firm (look hp)) (hoff:off<cs.length):Ok P c o fr (look hp) (.pv (.val undef)) (look ((k,some (.box (cs.set off z)))::hp)):=by
  refine z4z fun ρ w a h=>?_
  obtain ⟨b,cc,e,r,u,hv,hρ,h3,h4,h5,h6⟩:=h.box hx hk
  have hyv:=h.ev hy
  have h1:=hyv.one hz
  generalize hvy:a.eval y=vy at hyv h1
  have hst:(storeVar t ⟨b,off,none⟩ vy).run P w = .ok () (w.setRow b (r.setIfInBounds off vy)):=by
    have hcells:vy.cells = #[vy]:=by cases vy<;>first | rfl | cases h1
    have:=run_storeCells_at P b off e [vy] 0 r w h3 (by simp;omega) (by simpa using h1)
    simp [storeVar,hcells,Sem.run_bind,z06 hs,this]
    congr 1
    apply Array.ext'
    simp only [Array.toList_setIfInBounds]
    rw [List.set_eq_take_append_cons_drop,if_pos (by simp;omega)]
  refine ⟨ρ,w.setRow b (r.setIfInBounds off vy),by simp [execOp,ho,hv,hvy,Instr.storeAt,Instr.sureAddr,hst],?_⟩
  refine h.write hρ hk trivial hR rfl rfl rfl sI0 (fun j hj=>setRow_other w b j _ hj) fun keep _=>?_
  refine .box _ e (r.setIfInBounds off vy) (fun j=>if j=off then vy else u j) (setRow_heap w b r _ e _ h3) (by simp [h4]) (fun j x hj=>?_) (fun j x hj=>?_) (by have:=h.rel.ty hk hρ h3;simpa using this)
  · by_cases e1:j=off
    · subst e1;simp [show j<r.size by omega]
    · rw [List.getElem?_set_ne (Ne.symm e1)] at hj
      simp [e1,Ne.symm e1,h5 j x hj]
  · by_cases e1:j=off
    · subst e1
      rw [List.getElem?_set_self hoff] at hj
      cases hj
      simpa using keep _ _ hyv
    · rw [List.getElem?_set_ne (Ne.symm e1)] at hj
      simpa [e1] using keep _ _ (h6 j x hj)
def z50 (cs:List IV) (off:Nat) (zs:List IV):List IV:=cs.take off++zs++cs.drop (off+zs.length)
theorem RepI.inv_agg {F:Nat->Prop} {ρ:Loc} {σ:Heap'} {w:World} {cs:List IV} {v:Value} (h:RepI F ρ σ w (.agg cs) v) :
    ∃ (vs:Array Value) (u:Nat->Value),v = .agg vs/\vs.size=cs.length/\(∀ j x,cs[j]? = some x->vs[j]? = some (u j))/\∀ j x,cs[j]? = some x->RepI F ρ σ w x (u j):=by
  cases h with
  | agg _ vs u hl hv hr=>exact ⟨vs,u,rfl,hl,hv,hr⟩
theorem RepI.unpure {F:Nat->Prop} {ρ:Loc} {σ:Heap'} {w:World} {ps:List PV} {v:Value} (h:RepI F ρ σ w (.pv (.agg ps)) v):RepI F ρ σ w (.agg (ps.map .pv)) v:=by
  cases h with
  | pv _ _ h =>
    cases h with
    | agg _ vs u hl hv hr =>
      refine .agg _ vs u (by simp [hl]) (fun j x hj=>?_) fun j x hj=>?_
      · simp only [List.getElem?_map,Option.map_eq_some_iff] at hj
        obtain ⟨p,hp,rfl⟩:=hj
        exact hv j p hp
      · simp only [List.getElem?_map,Option.map_eq_some_iff] at hj
        obtain ⟨p,hp,rfl⟩:=hj
        exact .pv _ _ (hr j p hp)
def IV.parts:IV->Option (List IV)
  | .agg cs=>some cs
  | .pv (.agg ps)=>some (ps.map .pv)
  | _=>none
theorem RepI.parts {F:Nat->Prop} {ρ:Loc} {σ:Heap'} {w:World} {x:IV} {cs:List IV} {v:Value} (h:RepI F ρ σ w x v) (hx:x.parts=some cs):RepI F ρ σ w (.agg cs) v:=by
  unfold IV.parts at hx
  split at hx
  · cases hx;exact h
  · cases hx;exact h.unpure
  · cases hx
theorem sBA {t:TypeId} {x y:Operand} {k off:Nat} {cs zs:List IV} {z:IV} (ho:o.op = .store t x y) (hx:fr.ev x=some (.ptr k off)) (hy:fr.ev y=some z) (hz:z.parts=some zs) (hk:look hp k=some (.box cs))
    (hR:¬ c.R k) (hs:(P.info? t).map (·.size)=some zs.length) (hf:∀ z∈zs,z.firm (look hp)) (hoff:off+zs.length<=cs.length):Ok P c o fr (look hp) (.pv (.val undef)) (look ((k,some (.box (z50 cs off zs)))::hp)):=by
  refine z4z fun ρ w a h=>?_
  obtain ⟨b,cc,e,r,u,hv,hρ,h3,h4,h5,h6⟩:=h.box hx hk
  obtain ⟨vs,t',hvy,hl,hv',hr'⟩:=((h.ev hy).parts hz).inv_agg
  have hone:∀ v∈vs.toList,v.oneCell'=true:=by
    intro v hv
    obtain ⟨j,hj⟩:=List.mem_iff_getElem?.1 hv
    have hlt:j<zs.length:=by have:=(List.getElem?_eq_some_iff.1 hj).1;simp at this;omega
    have hz':zs[j]? = some zs[j]:=List.getElem?_eq_getElem hlt
    have h7:=hv' j _ hz'
    have:v=t' j:=by simp only [Array.getElem?_toList] at hj;rw [h7] at hj;cases hj;rfl
    subst this
    exact (hr' j _ hz').one (hf _ (List.getElem_mem hlt))
  have hst:(storeVar t ⟨b,off,none⟩ (.agg vs)).run P w = .ok () (w.setRow b (r.toList.take off++vs.toList++r.toList.drop (off+vs.size)).toArray):=by
    have:=run_storeCells_at P b off e vs.toList 0 r w h3 (by simp;omega) hone
    simp only [Nat.add_zero,Array.length_toList] at this
    simp [storeVar,Value.cells,Sem.run_bind,z06 hs,hl]
    rw [hl] at this
    simpa using this
  refine ⟨ρ,w.setRow b (r.toList.take off++vs.toList++r.toList.drop (off+vs.size)).toArray,by simp only [execOp,ho,hv,hvy,Instr.storeAt,Instr.sureAddr,Sem.run_bind,Sem.run_pure,Result.andThen_ok,hst],?_⟩
  refine h.write hρ hk trivial hR rfl rfl rfl sI0 (fun j hj=>setRow_other w b j _ hj) fun keep _=>?_
  refine .box _ e _ (fun j=>if off<=j/\j<off+zs.length then t' (j - off) else u j) (setRow_heap w b r _ e _ h3) (by simp [z50];omega) (fun j x hj=>?_) (fun j x hj=>?_) (by have:=h.rel.ty hk hρ h3;have e:(r.toList.take off++vs.toList++r.toList.drop (off+vs.size)).toArray.size=r.size:=(by simp;omega);rw [e];exact this)
  · unfold z50 at hj
    by_cases e1:j<off
    · have:cs[j]? = some x:=by
        rw [List.getElem?_append_left (by simp;omega),List.getElem?_append_left (by simp;omega),List.getElem?_take,if_pos e1] at hj;exact hj
      have:=h5 j x this
      rw [if_neg oM0]
      simp only [List.getElem?_toArray]
      rw [List.getElem?_append_left (by simp;omega),List.getElem?_append_left (by simp;omega),List.getElem?_take,if_pos e1]
      simpa using this
    · by_cases e2:j<off+zs.length
      · have:zs[j - off]? = some x:=by
          rw [List.getElem?_append_left (by simp;omega),List.getElem?_append_right (by simp;omega)] at hj
          simpa [Nat.min_eq_left (show off<=cs.length by omega)] using hj
        have:=hv' _ x this
        rw [if_pos ⟨by omega,e2⟩]
        simp only [List.getElem?_toArray]
        rw [List.getElem?_append_left (by simp;omega),List.getElem?_append_right (by simp;omega)]
        simpa [Nat.min_eq_left (show off<=r.size by omega)] using this
      · have:cs[j]? = some x:=by
          rw [List.getElem?_append_right (by simp;omega)] at hj
          simp only [List.getElem?_drop,List.length_append,List.length_take,Nat.min_eq_left (show off<=cs.length by omega)] at hj
          rwa [show off+zs.length+(j - (off+zs.length))=j by omega] at hj
        have:=h5 j x this
        rw [if_neg oM0]
        simp only [List.getElem?_toArray]
        rw [List.getElem?_append_right (by simp;omega)]
        simp only [List.getElem?_drop,List.length_append,List.length_take,Array.length_toList,Nat.min_eq_left (show off<=r.size by omega)]
        rw [show off+vs.size+(j - (off+vs.size))=j by omega]
        simpa using this
  · unfold z50 at hj
    by_cases e1:j<off
    · have:cs[j]? = some x:=by
        rw [List.getElem?_append_left (by simp;omega),List.getElem?_append_left (by simp;omega),List.getElem?_take,if_pos e1] at hj;exact hj
      rw [if_neg oM0]
      exact keep _ _ (h6 j x this)
    · by_cases e2:j<off+zs.length
      · have:zs[j - off]? = some x:=by
          rw [List.getElem?_append_left (by simp;omega),List.getElem?_append_right (by simp;omega)] at hj
          simpa [Nat.min_eq_left (show off<=cs.length by omega)] using hj
        rw [if_pos ⟨by omega,e2⟩]
        exact keep _ _ (hr' _ x this)
      · have:cs[j]? = some x:=by
          rw [List.getElem?_append_right (by simp;omega)] at hj
          simp only [List.getElem?_drop,List.length_append,List.length_take,Nat.min_eq_left (show off<=cs.length by omega)] at hj
          rwa [show off+zs.length+(j - (off+zs.length))=j by omega] at hj
        rw [if_neg oM0]
        exact keep _ _ (h6 j x this)
theorem z0j (w:World) (ob:Obj):(w.alloc ob).heap[w.heap.size]? = some ob:=by
  show (w.heap.push ob)[w.heap.size]? = _
  simp
theorem aLc {t:TypeId} {k:Nat} {z:Value} (ho:o.op = .alloc t) (hz:((P.info? t).bind (·.zero))=some z) (hσ:look hp k=none) (hc:c.σ k=none) (hfr:nmFr k fr=false) (hhp:nmHp k hp=false) :
    Ok P c o fr (look hp) (.ptr k 0) (look ((k,some (.box (z.cells.toList.map fun v=>.pv (.val v))))::hp)):=by
  intro ρ w a K Q h hK
  have hzv:(zeroValue t).run P w = .ok z w:=by
    cases hq:P.info? t with
    | none=>simp [hq] at hz
    | some i=>simp [hq] at hz;simp [zeroValue,typeInfo,hq,hz]
  have hrun:(execOp a.eval o).run P w = .ok (.value (.pointer (some ⟨w.heap.size,0,none⟩))) (w.alloc (.cells z.cells t)):=by
    have hn:(newVar t z).run P w = .ok ⟨w.heap.size,0,none⟩ (w.alloc (.cells z.cells t)):=rfl
    simp only [execOp,ho,Instr.alloc,Sem.run_bind,hzv,hn,Result.andThen_ok]
    rfl
  unfold Oper.wp
  rw [hrun]
  refine hK (z04 ρ k (some (w.heap.size,1))) _ _ (h.alloc hσ hc hfr hhp 1 _ _ fun keep _=>?_) (.ptr _ _ _ fun cs' _=>⟨w.heap.size,1,z00,rfl⟩)
  refine .box _ t z.cells (fun j=>z.cells.getD j undef) (z0j w _) sI0 (fun j x hj=>?_) fun j x hj=>?_
  · simp only [List.getElem?_map,Option.map_eq_some_iff] at hj
    obtain ⟨v,hv,rfl⟩:=hj
    simp only [Array.getElem?_toList] at hv
    simp [hv,Array.getD_eq_getD_getElem?]
  · simp only [List.getElem?_map,Option.map_eq_some_iff] at hj
    obtain ⟨v,hv,rfl⟩:=hj
    simp only [Array.getElem?_toList] at hv
    simp only [Array.getD_eq_getD_getElem?,hv,Option.getD_some]
    exact z0r _
theorem z3r {x:Operand} {i:Nat} {vs:List IV} {z:IV} {σ:Heap'} (ho:o.op = .extract x i) (hx:fr.ev x=some (.tup vs)) (hz:vs[i]? = some z):OkV P c R1 o fr σ z:=by
  refine fun ρ w a h=>?_
  have hr:=h.ev hx
  generalize hv:a.eval x=v at hr
  cases hr with
  | tup _ ws u hl hv' hr =>
    exact ⟨u i,fun _ _=>by simp [execOp,ho,hv,Instr.extract,hv' i z hz],hr i z hz⟩
end
section
variable {P:Program} {c:Cx} {o:Oper} {fr:Fr} {σ:Heap'} {ops:Array Oper} {Q:Exit->Fr->Heap'->Prop}
theorem WL.nil (h:Q .normal fr σ):WL P c ops Q [] fr σ:=fun ρ _ _ ha=>⟨ρ,σ,fr,ha,h⟩
theorem WL.cons {x:IV} {σ':Heap'} {l:List Oper} {d:Nat} (hg:o.guard=none) (hd:o.dst=some d) (hn:Nat.blt d c.n=true) (hok:Ok P c o fr σ x σ') (h:WL P c ops Q l ((d,x)::fr) σ'):WL P c ops Q (o::l) fr σ :=
  fun ρ w a ha=>wpList_plain hg fun K hK=>hok ρ w a K _ ha fun ρ' w' _ ha' hv=>hK _ _ (h ρ' w' _ (by
    have:=ha'.put (d:=o.dst) hv (by rw [hd];intro t ht;cases ht;simpa using hn)
    rwa [hd] at this ⊢))
theorem WL.cons0 {x:IV} {σ':Heap'} {l:List Oper} (hg:o.guard=none) (hd:o.dst=none) (hok:Ok P c o fr σ x σ') (h:WL P c ops Q l fr σ'):WL P c ops Q (o::l) fr σ :=
  fun ρ w a ha=>wpList_plain hg fun K hK=>hok ρ w a K _ ha fun ρ' w' _ ha' hv=>hK _ _ (h ρ' w' _ (by rw [hd];exact ha'))
theorem z5f {ρ:Loc} {w:World} {a:Act} {j t:Nat} {oj:Oper} {b:Bool} (h:All c ρ σ w fr a) (hj:ops[j]? = some oj) (ht:oj.dst=some t) (hb:fr.get t=some (.pv (.val (.bool b)))):yielded ops a.tmps j=some b:=by
  obtain ⟨v,hv,hr⟩:=h.fr t _ hb
  have:=hr.val
  subst this
  simp [yielded,hj,ht,hv]
theorem z6x {ρ:Loc} {w:World} {a:Act} {j t:Nat} {oj:Oper} (h:All c ρ σ w fr a) (hj:ops[j]? = some oj) (ht:oj.dst=some t) (hb:fr.get t=some (.pv (.val undef))):yielded ops a.tmps j=none:=by
  obtain ⟨v,hv,hr⟩:=h.fr t _ hb
  have:=hr.val
  subst this
  simp [yielded,hj,ht,hv,undef]
theorem Trans.drew (F R:Nat->Prop) (ρ:Loc) (σ:Heap') (w:World):Trans F R ρ σ w ρ σ { w with drawn:=w.drawn+1 } :=
  ⟨rfl,rfl,rfl,Nat.le_refl _,fun _ _ _=>rfl,fun _ _ _ h _=>.inl h,fun _ _ _ _ _=>rfl,fun _ _ _ _ _=>rfl,fun _ _ _ _ _ _ _ _=>rfl,
    fun k s s' els els' h h'=>by rw [h] at h';cases h';exact Nat.le_refl _,fun _ _ h=>.inr ⟨_,h⟩,fun _ _ h=>.inr ⟨_,h⟩,fun _ _ _ h=>.inr ⟨_,h⟩⟩
theorem All.drew {ρ:Loc} {w:World} {a:Act} (h:All c ρ σ w fr a):All c ρ σ { w with drawn:=w.drawn+1 } fr a:=by
  have t:=Trans.drew c.F (fun _=>True) ρ σ w
  have hnn:∀ x,¬ Names (fun k=>σ k=none /\ σ k≠none) x:=fun x hx=>by obtain ⟨k,hk⟩:=hx.some;exact hk.2 hk.1
  exact h.step t (fun _ _=>trivial) ⟨h.rel.inj,h.rel.apart,h.rel.old,fun k b cc hk=>by
    obtain ⟨o1,h1,h2⟩:=h.rel.obj k b cc hk
    exact ⟨o1,h1,h2.keep t rfl fun x _=>hnn x⟩,h.rel.real⟩ (fun k h1 h2=>absurd h1 h2) fun _ x _=>hnn x
def zg6 (P:Program) (c:Cx) (y:Code) (Q:Exit->Fr->Heap'->Prop):Exit->Fr->Heap'->Prop
  | .normal,fr,σ=>Tr P c y fr σ Q
  | e,fr,σ=>Q e fr σ
def z37 (id:Nat) (Q:Exit->Fr->Heap'->Prop):Exit->Fr->Heap'->Prop
  | .exit id',fr,σ=>bif Nat.beq id' id then Q .normal fr σ else Q (.exit id') fr σ
  | e,fr,σ=>Q e fr σ
theorem Tr.region {id:Nat} {l:List Oper} (hl:ops.toList=l) (h:WL P c ops Q l fr σ):Tr P c (.region id ops false) fr σ Q :=
  fun ρ w a ha=>wp_region_list (by rw [hl];exact h ρ w a ha)
theorem Tr.seq {x y:Code} (h:Tr P c x fr σ (zg6 P c y Q)):Tr P c (.seq x y) fr σ Q :=
  fun ρ w a ha=>wp_seq (wp_mono (h ρ w a ha) fun e a w ⟨ρ,σ,fr,ha,hq⟩=>by
    cases e<;>first | exact hq ρ w a ha | exact ⟨ρ,σ,fr,ha,hq⟩)
theorem tSk (h:Q .normal fr σ):Tr P c .skip fr σ Q:=fun ρ _ _ ha=>wp_skip ⟨ρ,σ,fr,ha,h⟩
theorem tRt (h:Q .ret fr σ):Tr P c .ret fr σ Q:=fun ρ _ _ ha=>wp_ret ⟨ρ,σ,fr,ha,h⟩
theorem tEx {id:Nat} (h:Q (.exit id) fr σ):Tr P c (.exit id) fr σ Q:=fun ρ _ _ ha=>wp_exit ⟨ρ,σ,fr,ha,h⟩
theorem tBk {id:Nat} {x:Code} (h:Tr P c x fr σ (z37 id Q)):Tr P c (.block id x) fr σ Q :=
  fun ρ w a ha=>wp_block (wp_mono (h ρ w a ha) fun e a w ⟨ρ,σ,fr,ha,hq⟩=>by
    cases e with
    | exit id' =>
      simp only [z37] at hq
      show if id'=id then _ else _
      by_cases e:id'=id
      · subst e
        rw [if_pos rfl]
        rw [show Nat.beq id' id'=true from Nat.beq_refl _] at hq
        exact ⟨ρ,σ,fr,ha,hq⟩
      · rw [if_neg e]
        rw [z1m e] at hq
        exact ⟨ρ,σ,fr,ha,hq⟩
    | _=>exact ⟨ρ,σ,fr,ha,hq⟩)
theorem Tr.cond {x:Operand} {y z:Code} {t:Bool} (hx:fr.ev x=some (.pv (.val (.bool t)))) (hy:t=true->Tr P c y fr σ Q) (hz:t=false->Tr P c z fr σ Q):Tr P c (.cond x y z) fr σ Q :=
  fun ρ w a ha=>wp_cond_split (z03 ha hx) (fun h=>hy h ρ w a ha) fun h=>hz h ρ w a ha
theorem Tr.mono {x:Code} {Q':Exit->Fr->Heap'->Prop} (h:Tr P c x fr σ Q) (hq:∀ e fr σ,Q e fr σ -> Q' e fr σ):Tr P c x fr σ Q' :=
  fun ρ w a ha=>wp_mono (h ρ w a ha) fun _ _ _ ⟨ρ,σ,fr,ha,h⟩=>⟨ρ,σ,fr,ha,hq _ _ _ h⟩
def Sub (σ:Heap') (fr fr':Fr):Prop:=∀ t y,fr'.get t=some y->∃ x,fr.get t=some x/\∀ F ρ w v,RepI F ρ σ w x v->RepI F ρ σ w y v
theorem All.sub {ρ:Loc} {w:World} {fr':Fr} {a:Act} (h:All c ρ σ w fr a) (hs:Sub σ fr fr'):All c ρ σ w fr' a :=
  ⟨h.rel,fun t y hy=>by
    obtain ⟨x,hx,hr⟩:=hs t y hy
    obtain ⟨v,hv,h1⟩:=h.fr t x hx
    exact ⟨v,hv,hr _ _ _ _ h1⟩,h.tr,h.df,h.sz,h.kk⟩
def subB:Fr->Fr->Prop
  | _,[]=>True
  | fr,(t,y)::r=>fr.get t=some y/\subB fr r
theorem Sub.of {fr fr':Fr} (h:subB fr fr'):Sub σ fr fr':=by
  induction fr' with
  | nil=>intro t y hy;cases hy
  | cons p r ih =>
    obtain ⟨t0,y0⟩:=p
    intro t y hy
    simp only [Fr.get] at hy
    cases hb:Nat.beq t0 t with
    | true =>
      rw [hb] at hy;cases hy
      obtain rfl:=Nat.eq_of_beq_eq_true hb
      exact ⟨_,h.1,fun _ _ _ _ h=>h⟩
    | false=>rw [hb] at hy;exact ih h.2 t y hy
theorem Tr.loop {x:Code} (I:Fr->Heap'->Nat->Prop) {n:Nat} (h0:I fr σ n)
    (round:∀ fr σ n,I fr σ n->Tr P c x fr σ fun e fr' σ'=>match e with
      | .normal=>∃ fr'' n',n'<n/\Sub σ' fr' fr''/\I fr'' σ' n'
      | e=>Q e fr' σ'):Tr P c (.loop x) fr σ Q:=by
  intro ρ w a ha b k cs
  have key:∀ n ρ w a fr σ,All c ρ σ w fr a->I fr σ n ->
      ∃ e a' w',lift c Q e a' w'/\Arrives P (lone (b.at a (.code x :: .inLoop x::k)) cs w) b k cs e a' w':=by
    intro n
    induction n using Nat.strongRecOn with
    | _ n ih =>
      intro ρ w a fr σ ha hI
      obtain ⟨e,a₁,w₁,⟨ρ₁,σ₁,fr₁,ha₁,hq⟩,harr⟩:=round fr σ n hI ρ w a ha b (.inLoop x::k) cs
      cases e with
      | normal =>
        obtain ⟨fr₂,n',hlt,hs,hI₁⟩:=hq
        obtain ⟨e₂,a₂,w₂,hq₂,harr₂⟩:=ih n' hlt ρ₁ w₁ a₁ fr₂ σ₁ (ha₁.sub hs) hI₁
        exact ⟨e₂,a₂,w₂,hq₂,.of_steps (Steps.trans harr (.one step_inLoop)) harr₂⟩
      | exit id=>exact ⟨_,a₁,w₁,⟨ρ₁,σ₁,fr₁,ha₁,hq⟩,.pass (x:=.inLoop x) rfl (fun _ _=>.inl sI0) harr⟩
      | goto l=>exact ⟨_,a₁,w₁,⟨ρ₁,σ₁,fr₁,ha₁,hq⟩,.pass (x:=.inLoop x) rfl (fun _ _=>.inl sI0) harr⟩
      | ret=>exact ⟨_,a₁,w₁,⟨ρ₁,σ₁,fr₁,ha₁,hq⟩,.pass (x:=.inLoop x) rfl (fun _ _=>.inl sI0) harr⟩
      | panic ch=>exact ⟨_,a₁,w₁,⟨ρ₁,σ₁,fr₁,ha₁,hq⟩,.pass (x:=.inLoop x) rfl (fun _ _=>.inl sI0) harr⟩
      | outgrown=>exact ⟨_,a₁,w₁,⟨ρ₁,σ₁,fr₁,ha₁,hq⟩,.pass (x:=.inLoop x) rfl (fun _ _=>.inl sI0) harr⟩
  obtain ⟨e,a',w',hq,harr⟩:=key n ρ w a fr σ ha h0
  exact ⟨e,a',w',hq,.of_steps (.one step_loop) harr⟩
def RepL (F:Nat->Prop) (ρ:Loc) (σ:Heap') (w:World) (xs:List IV) (vs:List Value):Prop:=xs.length=vs.length/\∀ (j:Nat) (x:IV),xs[j]? = some x->∃ v,vs[j]? = some v/\RepI F ρ σ w x v
def up (l:List (Nat × HO)):Hp:=l.map fun p=>(p.1,some p.2)
def SC (P:Program) (f:FuncId) (args:List IV) (pre:List (Nat × HO)) (R:Nat->Prop) (r:IV) (post:List (Nat × HO)):Prop :=
  ∀ F ρ w vs,Kept w (owned F ρ)->RelH F ρ (look (up pre)) w->RepL F ρ (look (up pre)) w args vs->Calls P f vs.toArray w fun e w' =>
    ∃ ρ' v,e = .returned v/\RepI F ρ' (look (up post)) w' r v/\RelH F ρ' (look (up post)) w'/\Trans F R ρ (look (up pre)) w ρ' (look (up post)) w'
def frOf:Nat->List IV->Fr
  | _,[]=>[]
  | n,x::r=>(n,x)::frOf (n+1) r
theorem z6b:∀ {xs:List IV} {n t:Nat} {x:IV},(frOf n xs).get t=some x->n<=t/\xs[t - n]? = some x
  | y::r,n,t,x,h=>by
    simp only [frOf,Fr.get] at h
    cases hb:Nat.beq n t with
    | true=>rw [hb] at h;obtain rfl:=Nat.eq_of_beq_eq_true hb;cases h;exact ⟨Nat.le_refl _,by simp⟩
    | false =>
      rw [hb] at h
      obtain ⟨h1,h2⟩:=z6b h
      refine ⟨by omega,?_⟩
      rw [show t - n=(t - (n+1))+1 by omega]
      simpa using h2
def z8s (fn:Func) (fr:Fr):Option IV :=
  match fn.results.toList with
  | [.tmp t]=>fr.get t
  | []=>some (.tup [])
  | [.tmp t,.tmp u]=>match fr.get t,fr.get u with
    | some x,some y=>some (.tup [x,y])
    | _,_=>none
  | [.tmp t,.tmp u,.tmp s]=>match fr.get t,fr.get u,fr.get s with
    | some x,some y,some z=>some (.tup [x,y,z])
    | _,_,_=>none
  | _=>none
theorem z8v {F:Nat->Prop} {ρ:Loc} {w:World} {x y:IV} {u v:Value} (hx:RepI F ρ σ w x u) (hy:RepI F ρ σ w y v):RepI F ρ σ w (.tup [x,y]) (.tuple #[u,v]):=by
  refine .tup _ _ (fun j=>if j=0 then u else v) rfl (fun j z hj=>?_) fun j z hj=>?_
  · match j with
    | 0=>rfl
    | 1=>rfl
    | j+2=>simp at hj
  · match j with
    | 0=>cases hj;exact hx
    | 1=>cases hj;exact hy
    | j+2=>simp at hj
theorem z5c {F:Nat->Prop} {ρ:Loc} {w:World} {x y z:IV} {u v t:Value} (hx:RepI F ρ σ w x u) (hy:RepI F ρ σ w y v) (hz:RepI F ρ σ w z t):RepI F ρ σ w (.tup [x,y,z]) (.tuple #[u,v,t]):=by
  refine .tup _ _ (fun j=>if j=0 then u else if j=1 then v else t) rfl (fun j z hj=>?_) fun j z hj=>?_
  · match j with
    | 0=>rfl
    | 1=>rfl
    | 2=>rfl
    | j+3=>simp at hj
  · match j with
    | 0=>cases hj;exact hx
    | 1=>cases hj;exact hy
    | 2=>cases hj;exact hz
    | j+3=>simp at hj
theorem za4 {fn:Func} {ρ:Loc} {w:World} {a:Act} {x:IV} (h:All c ρ σ w fr a) (hr:z8s fn fr=some x):∃ v,(results fn a.tmps).run P w = .ok v w/\RepI c.F ρ σ w x v:=by
  unfold z8s at hr
  split at hr
  · rename_i t heq
    obtain ⟨v,hv,h1⟩:=h.fr t x hr
    refine ⟨v,?_,h1⟩
    rw [results_tmp (t:=t) (by apply Array.toList_inj.1;simpa using heq)]
    simp [hv]
  · rename_i heq
    cases hr
    refine ⟨.tuple #[],results_none (by apply Array.toList_inj.1;simpa using heq) _ _ _,.tup _ _ (fun _=>undef) rfl (fun j z hj=>by simp at hj) fun j z hj=>by simp at hj⟩
  · rename_i t u heq
    split at hr
    · rename_i y z hy hz
      cases hr
      obtain ⟨v,hv,h1⟩:=h.fr t y hy
      obtain ⟨v',hv',h1'⟩:=h.fr u z hz
      refine ⟨.tuple #[v,v'],?_,z8v h1 h1'⟩
      rw [results_tmp2 (t:=t) (u:=u) (by apply Array.toList_inj.1;simpa using heq)]
      simp [hv,hv']
    · cases hr
  · rename_i t u s heq
    split at hr
    · rename_i y z q hy hz hq
      cases hr
      obtain ⟨v,hv,h1⟩:=h.fr t y hy
      obtain ⟨v',hv',h1'⟩:=h.fr u z hz
      obtain ⟨v'',hv'',h1''⟩:=h.fr s q hq
      refine ⟨.tuple #[v,v',v''],?_,z5c h1 h1' h1''⟩
      have heq':fn.results = #[.tmp t,.tmp u,.tmp s]:=by apply Array.toList_inj.1;simpa using heq
      simp [results,heq',hv,hv',hv'']
    · cases hr
  · cases hr
theorem RepP.own {own own':Nat->Prop} {w:World} {p:PV} {v:Value} (h:RepP own w p v) (hk:∀ b,own' b->own b):RepP own' w p v:=by
  induction h with
  | val v=>exact .val v
  | seq els a cap b off u ha hb hl hm hc _ ih=>exact .seq els a cap b off u ha (fun hne=>⟨fun ho=>(hb hne).1 (hk _ ho),(hb hne).2⟩) hl hm hc ih
  | agg cs vs u hl hv _ ih=>exact .agg cs vs u hl hv ih
  | ept cs off b o u hb hc _ ih=>exact .ept cs off b o u ⟨fun ho=>hb.1 (hk _ ho),hb.2⟩ hc ih
open Classical in
theorem All.restrict {ρ:Loc} {σ σ':Heap'} {w:World} {a:Act} (h:All c ρ σ w fr a) (hσ:∀ k o,σ' k=some o -> σ k=some o) :
    ∃ ρ',All c ρ' σ' w fr a/\∀ x v,RepI c.F ρ σ w x v->RepI c.F ρ' σ' w x v:=by
  let ρ':Loc:=fun k=>if σ' k=none then none else ρ k
  have hin:∀ k,σ' k≠none -> ρ' k = ρ k:=fun k hk=>if_neg hk
  have hout:∀ k,σ' k=none -> ρ' k=none:=fun k hk=>if_pos hk
  have hsome:∀ k l,ρ' k=some l -> σ' k≠none /\ ρ k=some l:=fun k l hk=>by
    by_cases e:σ' k=none
    · rw [hout k e] at hk;cases hk
    · exact ⟨e,hin k e ▸ hk⟩
  have t:Trans c.F (fun _=>True) ρ σ w ρ' σ' w:=by
    refine ⟨rfl,rfl,rfl,Nat.le_refl _,fun j hj _=>rfl,fun k b c hk _=>.inl (hsome _ _ hk).2,fun j _ _ _ h1=>hin j (by simp [h1]),fun j _ _ _ h1=>hin j (by simp [h1]),fun j _ _ _ _ _ h1 _=>hin j (by simp [h1]),?_,?_,?_,?_⟩
    · intro j s s' els els' h1 h2
      rw [hσ _ _ h2] at h1;cases h1;exact Nat.le_refl _
    all_goals intro j
    · intro cs h2;exact .inr ⟨_,hσ _ _ h2⟩
    · intro cs h2;exact .inr ⟨_,hσ _ _ h2⟩
    · intro s cs h2;exact .inr ⟨_,hσ _ _ h2⟩
  have hnone:∀ j,¬ (σ j=none /\ σ' j≠none):=fun j hj=>by
    cases h1:σ' j with
    | none=>exact hj.2 h1
    | some o=>rw [hσ _ _ h1] at hj;cases hj.1
  have hnn:∀ x,¬ Names (fun j=>σ j=none /\ σ' j≠none) x:=fun x hx=>by
    obtain ⟨j,hj⟩:=hx.some
    exact hnone j hj
  refine ⟨ρ',h.step t (fun _ _=>trivial) ⟨fun k k' b c1 c2 h1 h2=>h.rel.inj _ _ _ _ _ (hsome _ _ h1).2 (hsome _ _ h2).2,fun k b c1 h1=>h.rel.apart _ _ _ (hsome _ _ h1).2,h.rel.old,fun k b c1 hk=>?_,fun k o h1 h2=>?_⟩ (fun j h1 h2=>absurd ⟨h1,h2⟩ (hnone j)) fun _ x _=>hnn x,fun x v hx=>hx.trans' t (hnn x)⟩
  · obtain ⟨hne,hk'⟩:=hsome _ _ hk
    obtain ⟨o1,h1,h2⟩:=h.rel.obj k b c1 hk'
    cases h3:σ' k with
    | none=>exact absurd h3 hne
    | some o2=>rw [hσ _ _ h3] at h1;cases h1;exact ⟨_,rfl,h2.keep t rfl fun x _=>hnn x⟩
  · rw [hin k (by simp [h1])] at h2;exact h.rel.real k o (hσ _ _ h1) h2
end
section
variable {P:Program} {c:Cx} {o:Oper} {fr:Fr}
theorem RepI.conv {F F':Nat->Prop} {ρ ρ':Loc} {σ σ':Heap'} {w:World} {x:IV} {v:Value} (h:RepI F ρ σ w x v) (hown:∀ b,owned F' ρ' b->owned F ρ b)
    (hn:¬ Names (fun k=>¬ ∀ o,σ' k=some o -> σ k=some o /\ ρ' k = ρ k) x):RepI F' ρ' σ' w x v:=by
  induction h with
  | pv p v h=>exact .pv p v (h.own hown)
  | ptr k off v h =>
    have hk:∀ o,σ' k=some o -> σ k=some o /\ ρ' k = ρ k:=Classical.byContradiction fun e=>hn (.ptr e)
    refine .ptr k off v fun cs h'=>?_
    obtain ⟨b,c,h1,h2⟩:=h cs (hk _ h').1
    exact ⟨b,c,(hk _ h').2.trans h1,h2⟩
  | sl k len v h =>
    have hk:∀ o,σ' k=some o -> σ k=some o /\ ρ' k = ρ k:=Classical.byContradiction fun e=>hn (.sl e)
    refine .sl k len v fun s els h'=>⟨(h s els (hk _ h').1).1,fun hl=>?_⟩
    rw [(hk _ h').2]
    exact (h s els (hk _ h').1).2 hl
  | sp k n len v h =>
    have hk:∀ o,σ' k=some o -> σ k=some o /\ ρ' k = ρ k:=Classical.byContradiction fun e=>hn (.sp e)
    refine .sp k n len v fun s els h'=>⟨(h s els (hk _ h').1).1,fun hl=>?_⟩
    rw [(hk _ h').2]
    exact (h s els (hk _ h').1).2 hl
  | rpt k len off v h =>
    have hk:∀ o,σ' k=some o -> σ k=some o /\ ρ' k = ρ k:=Classical.byContradiction fun e=>hn (.rpt e)
    refine .rpt k len off v fun s els h'=>⟨(h s els (hk _ h').1).1,fun hl=>?_⟩
    rw [(hk _ h').2]
    exact (h s els (hk _ h').1).2 hl
  | bs k n v h =>
    have hk:∀ o,σ' k=some o -> σ k=some o /\ ρ' k = ρ k:=Classical.byContradiction fun e=>hn (.bs e)
    refine .bs k n v fun cs h'=>?_
    obtain ⟨b,c,h1,h2⟩:=h cs (hk _ h').1
    exact ⟨b,c,(hk _ h').2.trans h1,h2⟩
  | tnil k T v h =>
    have hk:∀ o,σ' k=some o -> σ k=some o /\ ρ' k = ρ k:=Classical.byContradiction fun e=>hn (.tnil e)
    refine .tnil k T v fun cs h'=>?_
    obtain ⟨b,h1,h2⟩:=h cs (hk _ h').1
    exact ⟨b,(hk _ h').2.trans h1,h2⟩
  | mp k v h =>
    have hk:∀ o,σ' k=some o -> σ k=some o /\ ρ' k = ρ k:=Classical.byContradiction fun e=>hn (.mp e)
    refine .mp k v fun es h'=>?_
    obtain ⟨b,c,h1,h2⟩:=h es (hk _ h').1
    exact ⟨b,c,(hk _ h').2.trans h1,h2⟩
  | agg cs vs u hl hv _ ih=>exact .agg cs vs u hl hv fun j c hj=>ih j c hj fun hc=>hn (.agg (List.mem_of_getElem? hj) hc)
  | tup cs vs u hl hv _ ih=>exact .tup cs vs u hl hv fun j c hj=>ih j c hj fun hc=>hn (.tup (List.mem_of_getElem? hj) hc)
  | fn f xs ys vs ws u t hl hv _ hl' hv' _ ih ih' =>
    exact .fn f xs ys vs ws u t hl hv (fun j c hj=>ih j c hj fun hc=>hn (.fn1 (List.mem_of_getElem? hj) hc)) hl' hv' (fun j c hj=>ih' j c hj fun hc=>hn (.fn2 (List.mem_of_getElem? hj) hc))
theorem RepO.conv {F F':Nat->Prop} {ρ ρ':Loc} {σ σ':Heap'} {w:World} {b c:Nat} {ob:HO} (h:RepO F ρ σ w b c ob) (hown:∀ b,owned F' ρ' b->owned F ρ b)
    (hn:∀ x,ob.has x -> ¬ Names (fun k=>¬ ∀ o,σ' k=some o -> σ k=some o /\ ρ' k = ρ k) x):RepO F' ρ' σ' w b c ob:=by
  cases h with
  | box cs e a u h hl hv hr=>exact .box cs e a u h hl hv fun j x hj=>(hr j x hj).conv hown (hn x ⟨cs,rfl,List.mem_of_getElem? hj⟩)
  | row s els a u h hs hl hm hw hv hr=>exact .row s els a u h hs hl hm hw hv fun i el hi j x hj=>(hr i el hi j x hj).own hown
  | map es a t u h hl hv hr=>exact .map es a t u h hl hv fun i k p hi=>(hr i k p hi).own hown
def only (ks:List Nat):IV->Bool
  | .pv _=>true
  | .ptr j _=>ks.contains j
  | .sl j _=>ks.contains j
  | .rpt j _ _=>ks.contains j
  | .sp j _ _=>ks.contains j
  | .bs j _=>ks.contains j
  | .mp j=>ks.contains j
  | .tnil j _=>ks.contains j
  | .agg cs=>onlys ks cs
  | .tup cs=>onlys ks cs
  | .fn _ xs ys=>onlys ks xs&&onlys ks ys
where onlys (ks:List Nat):List IV->Bool
  | []=>true
  | x::r=>only ks x&&onlys ks r
theorem z1h {ks:List Nat}:∀ {l:List IV} {x:IV},only.onlys ks l=true->x∈l->only ks x=true
  | y::r,x,h,hx=>by
    simp only [only.onlys,Bool.and_eq_true] at h
    rcases List.mem_cons.1 hx with rfl | hx
    · exact h.1
    · exact z1h h.2 hx
theorem z60 {ks:List Nat} {x:IV} (h:only ks x=true):¬ Names (fun k=>k∉ks) x:=by
  intro hn
  induction hn with
  | ptr hk=>exact hk (by simpa [only] using h)
  | sl hk=>exact hk (by simpa [only] using h)
  | rpt hk=>exact hk (by simpa [only] using h)
  | sp hk=>exact hk (by simpa [only] using h)
  | bs hk=>exact hk (by simpa [only] using h)
  | mp hk=>exact hk (by simpa [only] using h)
  | tnil hk=>exact hk (by simpa [only] using h)
  | agg hc _ ih=>exact ih (z1h (by simpa [only] using h) hc)
  | tup hc _ ih=>exact ih (z1h (by simpa [only] using h) hc)
  | fn1 hc _ ih=>simp only [only,Bool.and_eq_true] at h;exact ih (z1h h.1 hc)
  | fn2 hc _ ih=>simp only [only,Bool.and_eq_true] at h;exact ih (z1h h.2 hc)
def z2f (ks:List Nat):List (Nat × HO)->Bool
  | []=>true
  | (_,.box cs)::r=>only.onlys ks cs&&z2f ks r
  | (_,_)::r=>z2f ks r
theorem z0f:∀ {l:List (Nat × HO)} {k:Nat} {o:HO},look (up l) k=some o->(k,o)∈l
  | (j,q)::r,k,o,h=>by
    simp only [up,List.map_cons,look] at h
    cases hb:Nat.beq j k with
    | true=>rw [hb] at h;cases h;obtain rfl:=Nat.eq_of_beq_eq_true hb;exact List.mem_cons_self
    | false=>rw [hb] at h;exact List.mem_cons_of_mem _ (z0f h)
theorem z0n:∀ {l:List (Nat × HO)} {k:Nat},look (up l) k=none↔k∉l.map (·.1)
  | [],k=>by simp [up,look]
  | (j,q)::r,k=>by
    simp only [up,List.map_cons,look,List.mem_cons,not_or]
    cases hb:Nat.beq j k with
    | true=>obtain rfl:=Nat.eq_of_beq_eq_true hb;simp
    | false =>
      have:k≠j:=fun e=>by subst e;simp at hb
      simp only [cond_false,this,not_false_eq_true,true_and]
      exact z0n
theorem z1e:∀ {l:List (Nat × HO)} {hp:Hp} {k:Nat},look (up l++hp) k=(look (up l) k).or (look hp k)
  | [],hp,k=>by simp [up,look]
  | (j,q)::r,hp,k=>by
    simp only [up,List.map_cons,List.cons_append,look]
    cases hb:Nat.beq j k with
    | true=>simp
    | false=>exact z1e
theorem z1w {ks:List Nat}:∀ {l:List (Nat × HO)} {k:Nat} {cs:List IV},z2f ks l=true->(k,HO.box cs)∈l->only.onlys ks cs=true
  | (j,.box ds)::r,k,cs,h,hm=>by
    simp only [z2f,Bool.and_eq_true] at h
    rcases List.mem_cons.1 hm with e | hm
    · cases e;exact h.1
    · exact z1w h.2 hm
  | (j,.row ..)::r,k,cs,h,hm=>by
    rcases List.mem_cons.1 hm with e | hm
    · cases e
    · exact z1w (by simpa [z2f] using h) hm
  | (j,.map ..)::r,k,cs,h,hm=>by
    rcases List.mem_cons.1 hm with e | hm
    · cases e
    · exact z1w (by simpa [z2f] using h) hm
open Classical in
theorem SC.step {f:FuncId} {args:List IV} {pre post:List (Nat × HO)} {R:Nat->Prop} {r:IV} {hp:Hp} {ρ:Loc} {w:World} {a:Act} {vs:List Value} (hsc:SC P f args pre R r post)
    (h:All c ρ (look hp) w fr a) (hargs:RepL c.F ρ (look hp) w args vs) (hpre:∀ k o,look (up pre) k=some o->look hp k=some o) (hdom:pre.map (·.1)=post.map (·.1))
    (hR:∀ k,c.R k->look (up pre) k=none∨R k) (hr:only (post.map (·.1)) r=true) (hpost:z2f (post.map (·.1)) post=true) :
    Calls P f vs.toArray w fun e w'=>∃ ρ' v,e = .returned v/\All c ρ' (look (up post++hp)) w' fr a/\RepI c.F ρ' (look (up post++hp)) w' r v:=by
  have hd:∀ k,look (up pre) k=none↔look (up post) k=none:=fun k=>by rw [z0n,z0n,hdom]
  let ρ1:Loc:=fun k=>if look (up pre) k=none then none else ρ k
  let F1:Nat->Prop:=fun b=>c.F b∨∃ k cc,ρ k=some (b,cc)/\look (up pre) k=none
  have h1in:∀ k,look (up pre) k≠none -> ρ1 k = ρ k:=fun k hk=>if_neg hk
  have h1out:∀ k,look (up pre) k=none -> ρ1 k=none:=fun k hk=>if_pos hk
  have h1:∀ k l,ρ1 k=some l->look (up pre) k≠none /\ ρ k=some l:=fun k l hk=>by
    by_cases e:look (up pre) k=none
    · rw [h1out k e] at hk;cases hk
    · exact ⟨e,(h1in k e) ▸ hk⟩
  have hown1:∀ b,owned F1 ρ1 b->owned c.F ρ b:=fun b hb=>by
    rcases hb with (hb | ⟨k,cc,hk,_⟩) | ⟨k,cc,hk⟩
    · exact .inl hb
    · exact .inr ⟨k,cc,hk⟩
    · exact .inr ⟨k,cc,(h1 k _ hk).2⟩
  have hconv:∀ x:IV,¬ Names (fun k=>¬ ∀ o,look (up pre) k=some o->look hp k=some o /\ ρ1 k = ρ k) x:=fun x hx=>by
    obtain ⟨k,hk⟩:=hx.some
    exact hk fun o ho=>⟨hpre k o ho,h1in k (by simp [ho])⟩
  have hrel1:RelH F1 ρ1 (look (up pre)) w:=by
    refine ⟨fun k k' b cc cc' hk hk'=>h.rel.inj k k' b cc cc' (h1 _ _ hk).2 (h1 _ _ hk').2,fun k b cc hk hb=>?_,fun b hb=>?_,fun k b cc hk=>?_,fun k o hk hρ=>?_⟩
    · rcases hb with hb | ⟨k',cc',hk',hn⟩
      · exact h.rel.apart k b cc (h1 _ _ hk).2 hb
      · obtain rfl:=h.rel.inj _ _ _ _ _ (h1 _ _ hk).2 hk'
        exact (h1 _ _ hk).1 hn
    · rcases hb with hb | ⟨k',cc',hk',_⟩
      · exact h.rel.old b hb
      · exact h.rel.lt hk'
    · obtain ⟨hne,hk2⟩:=h1 _ _ hk
      obtain ⟨o1,ho1,ho2⟩:=h.rel.obj k b cc hk2
      cases hl:look (up pre) k with
      | none=>exact absurd hl hne
      | some o2 =>
        rw [hpre k o2 hl] at ho1;cases ho1
        exact ⟨_,rfl,ho2.conv hown1 fun x _=>hconv x⟩
    · rw [h1in k (by simp [hk])] at hρ
      exact h.rel.real k o (hpre k o hk) hρ
  refine (hsc F1 ρ1 w vs (h.kept.mono hown1) hrel1 ⟨hargs.1,fun j x hj=>?_⟩).mono ?_
  · obtain ⟨v,hv,hx⟩:=hargs.2 j x hj
    exact ⟨v,hv,hx.conv hown1 (hconv x)⟩
  rintro e w' ⟨ρ2,v,rfl,hv,hrel2,t⟩
  let ρ':Loc:=fun k=>if look (up pre) k=none then ρ k else ρ2 k
  have h2in:∀ k,look (up pre) k≠none -> ρ' k = ρ2 k:=fun k hk=>if_neg hk
  have h2out:∀ k,look (up pre) k=none -> ρ' k = ρ k:=fun k hk=>if_pos hk
  have h2none:∀ k,look (up pre) k=none -> ρ2 k=none:=fun k hk=>by
    cases h3:ρ2 k with
    | none=>rfl
    | some l =>
      obtain ⟨o1,ho1,_⟩:=hrel2.obj k l.1 l.2 h3
      rw [(hd k).1 hk] at ho1;cases ho1
  have h2:∀ k l,ρ2 k=some l->look (up pre) k≠none:=fun k l hk e=>by rw [h2none k e] at hk;cases hk
  have hσin:∀ k,look (up pre) k≠none->look (up post++hp) k=look (up post) k:=fun k hk=>by
    rw [z1e]
    cases h3:look (up post) k with
    | none=>exact absurd ((hd k).2 h3) hk
    | some o=>rfl
  have hσout:∀ k,look (up pre) k=none->look (up post++hp) k=look hp k:=fun k hk=>by
    rw [z1e,(hd k).1 hk];rfl
  have hown2:∀ b,owned c.F ρ' b->owned F1 ρ2 b:=fun b hb=>by
    rcases hb with hb | ⟨k,cc,hk⟩
    · exact .inl (.inl hb)
    · by_cases e:look (up pre) k=none
      · rw [h2out k e] at hk;exact .inl (.inr ⟨k,cc,hk,e⟩)
      · rw [h2in k e] at hk;exact .inr ⟨k,cc,hk⟩
  have hconv2:∀ x:IV,only (post.map (·.1)) x=true -> ¬ Names (fun k=>¬ ∀ o,look (up post++hp) k=some o->look (up post) k=some o /\ ρ' k = ρ2 k) x:=fun x hx hn=>by
    refine z60 hx (hn.imp fun k hk hmem=>hk fun o ho=>?_)
    have hne:look (up pre) k≠none:=fun e=>(z0n.1 ((hd k).1 e)) hmem
    rw [hσin k hne] at ho
    exact ⟨ho,h2in k hne⟩
  have T:Trans c.F (fun k=>look (up pre) k=none∨R k) ρ (look hp) w ρ' (look (up post++hp)) w':=by
    refine ⟨t.os,t.tape,t.output,t.size,fun b hb hall=>t.blk b hb fun k cc hk=>?_,fun k b cc hk hb=>?_,fun k cs cs' e1 e2=>?_,fun k cs cs' e1 e2=>?_,fun k s s' els els' e1 e2 hl=>?_,fun k s s' els els' e1 e2=>?_,fun k cs' e2=>?_,fun k cs' e2=>?_,fun k s els' e2=>?_⟩
    · obtain ⟨hne,hk2⟩:=h1 _ _ hk
      exact (hall k cc hk2).resolve_left hne
    · by_cases e:look (up pre) k=none
      · rw [h2out k e] at hk;exact .inl hk
      · rw [h2in k e] at hk
        rcases t.own k b cc hk hb with g | ⟨k0,c0,g,gn⟩
        · exact .inl (h1 _ _ g).2
        · exact .inr ⟨k0,c0,(h1 _ _ g).2,fun r=>r.elim (h1 _ _ g).1 gn⟩
    all_goals by_cases e:look (up pre) k=none
    · exact h2out k e
    · cases h3:look (up pre) k with
      | none=>exact absurd h3 e
      | some o =>
        rw [hpre k o h3] at e1;cases e1
        rw [hσin k e] at e2
        rw [h2in k e,t.box k _ _ h3 e2,h1in k e]
    · exact h2out k e
    · cases h3:look (up pre) k with
      | none=>exact absurd h3 e
      | some o =>
        rw [hpre k o h3] at e1;cases e1
        rw [hσin k e] at e2
        rw [h2in k e,t.map k _ _ h3 e2,h1in k e]
    · exact h2out k e
    · cases h3:look (up pre) k with
      | none=>exact absurd h3 e
      | some o =>
        rw [hpre k o h3] at e1;cases e1
        rw [hσin k e] at e2
        rw [h2in k e,t.row k _ _ _ _ h3 e2 hl,h1in k e]
    · rw [hσout k e,e1] at e2;cases e2;exact Nat.le_refl _
    · cases h3:look (up pre) k with
      | none=>exact absurd h3 e
      | some o =>
        rw [hpre k o h3] at e1;cases e1
        rw [hσin k e] at e2
        exact t.grow k _ _ _ _ h3 e2
    · rw [hσout k e] at e2;exact .inr ⟨_,e2⟩
    · rw [hσin k e] at e2
      rcases t.kindB k _ e2 with h3 | ⟨cs,h3⟩
      · exact absurd h3 e
      · exact .inr ⟨cs,hpre k _ h3⟩
    · rw [hσout k e] at e2;exact .inr ⟨_,e2⟩
    · rw [hσin k e] at e2
      rcases t.kindM k _ e2 with h3 | ⟨cs,h3⟩
      · exact absurd h3 e
      · exact .inr ⟨cs,hpre k _ h3⟩
    · rw [hσout k e] at e2;exact .inr ⟨_,e2⟩
    · rw [hσin k e] at e2
      rcases t.kindR k _ _ e2 with h3 | ⟨cs,h3⟩
      · exact absurd h3 e
      · exact .inr ⟨cs,hpre k _ h3⟩
  have hnone:∀ k,¬ (look hp k=none/\look (up post++hp) k≠none):=fun k hk=>by
    by_cases e:look (up pre) k=none
    · rw [hσout k e] at hk;exact hk.2 hk.1
    · cases h3:look (up pre) k with
      | none=>exact e h3
      | some o=>rw [hpre k o h3] at hk;cases hk.1
  have hnn:∀ x:IV,¬ Names (fun k=>look hp k=none/\look (up post++hp) k≠none) x:=fun x hx=>by
    obtain ⟨k,hk⟩:=hx.some
    exact hnone k hk
  refine ⟨ρ',v,rfl,h.step T hR ⟨fun k k' b cc cc' hk hk'=>?_,fun k b cc hk hb=>?_,fun b hb=>Nat.lt_of_lt_of_le (h.rel.old b hb) t.size,fun k b cc hk=>?_,fun k o hk hρ=>?_⟩ (fun k e1 e2=>absurd ⟨e1,e2⟩ (hnone k)) fun _ x _=>hnn x,hv.conv hown2 (hconv2 r hr)⟩
  · by_cases e:look (up pre) k=none<;>by_cases e':look (up pre) k'=none
    · rw [h2out k e] at hk;rw [h2out k' e'] at hk';exact h.rel.inj _ _ _ _ _ hk hk'
    · rw [h2out k e] at hk;rw [h2in k' e'] at hk'
      exact absurd (.inr ⟨k,cc,hk,e⟩) (hrel2.apart _ _ _ hk')
    · rw [h2in k e] at hk;rw [h2out k' e'] at hk'
      exact absurd (.inr ⟨k',cc',hk',e'⟩) (hrel2.apart _ _ _ hk)
    · rw [h2in k e] at hk;rw [h2in k' e'] at hk';exact hrel2.inj _ _ _ _ _ hk hk'
  · by_cases e:look (up pre) k=none
    · rw [h2out k e] at hk;exact h.rel.apart _ _ _ hk hb
    · rw [h2in k e] at hk;exact hrel2.apart _ _ _ hk (.inl hb)
  · by_cases e:look (up pre) k=none
    · rw [h2out k e] at hk
      obtain ⟨o1,ho1,ho2⟩:=h.rel.obj k b cc hk
      refine ⟨o1,(hσout k e).trans ho1,ho2.keep T (t.blk b (h.rel.lt hk) fun k' cc' hk'=>?_) fun x _=>hnn x⟩
      obtain ⟨hne,hk2⟩:=h1 _ _ hk'
      obtain rfl:=h.rel.inj _ _ _ _ _ hk hk2
      exact absurd e hne
    · rw [h2in k e] at hk
      obtain ⟨o1,ho1,ho2⟩:=hrel2.obj k b cc hk
      refine ⟨o1,(hσin k e).trans ho1,ho2.conv hown2 fun x ⟨cs,h3,h4⟩=>hconv2 x ?_⟩
      subst h3
      exact z1h (z1w hpost (z0f ho1)) h4
  · by_cases e:look (up pre) k=none
    · rw [hσout k e] at hk;rw [h2out k e] at hρ;exact h.rel.real k o hk hρ
    · rw [hσin k e] at hk;rw [h2in k e] at hρ;exact hrel2.real k o hk hρ
def z4j (P:Program) (f:FuncId):Prop:=∃ fn,P.funcs[f]? = some fn/\(fn.name == "runtime.NumGoroutine")=false/\fn.body.isNone=false
def evs (fr:Fr):List Operand->Option (List IV)
  | []=>some []
  | x::r=>match fr.ev x,evs fr r with
    | some y,some ys=>some (y::ys)
    | _,_=>none
theorem z4k {σ:Heap'} {ρ:Loc} {w:World} {a:Act} (h:All c ρ σ w fr a):∀ {os:List Operand} {xs:List IV},evs fr os=some xs->RepL c.F ρ σ w xs (os.map a.eval)
  | [],xs,hx=>by cases hx;exact ⟨rfl,fun j x hj=>by simp at hj⟩
  | x::r,xs,hx=>by
    simp only [evs] at hx
    split at hx
    · rename_i y ys hy hys
      cases hx
      have ih:=z4k h hys
      refine ⟨by simp [ih.1],fun j z hj=>?_⟩
      cases j with
      | zero=>cases hj;exact ⟨_,rfl,h.ev hy⟩
      | succ j=>exact ih.2 j z (by simpa using hj)
    · cases hx
def Subs (σ:Heap') (xs ys:List IV):Prop:=∀ F ρ w vs,RepL F ρ σ w xs vs->RepL F ρ σ w ys vs
theorem sRf (σ:Heap') (xs:List IV):Subs σ xs xs:=fun _ _ _ _ h=>h
end
section
variable {P:Program} {c:Cx} {R1:Nat->Prop} {o:Oper} {fr:Fr} {hp:Hp} {ops:Array Oper} {Q:Exit->Fr->Heap'->Prop}
theorem All.move {ρ:Loc} {w w':World} {a:Act} {k cc:Nat} {s:RT} {els els':List (List PV)} (h:All c ρ (look hp) w fr a) (hσ:look hp k=some (.row s els)) (hlen:els.length<els'.length)
    (hos:w'.os=w.os) (ht:w'.tape=w.tape) (hout:w'.output=w.output) (hsz:w.heap.size<w'.heap.size) (hblk:∀ j,j<w.heap.size->w'.heap[j]? = w.heap[j]?)
    (ho:(∀ x v,RepP (owned c.F ρ) w x v->RepP (owned c.F (z04 ρ k (some (w.heap.size,cc)))) w' x v)->RepO c.F (z04 ρ k (some (w.heap.size,cc))) (look ((k,some (.row s els'))::hp)) w' w.heap.size cc (.row s els')) :
    All c (z04 ρ k (some (w.heap.size,cc))) (look ((k,some (.row s els'))::hp)) w' fr a:=by
  have hlk:∀ j,j≠k->look ((k,some (.row s els'))::hp) j=look hp j:=fun j hj=>z08 (Ne.symm hj)
  have hlk':look ((k,some (.row s els'))::hp) k=some (.row s els'):=z0b
  have hρ:∀ j,j≠k->z04 ρ k (some (w.heap.size,cc)) j = ρ j:=fun j hj=>z0i (Ne.symm hj)
  have hnk:∀ {j x},look hp j=some x->(∀ s els,x ≠ .row s els)->j≠k:=fun hj hx e=>by subst e;rw [hσ] at hj;cases hj;exact hx _ _ rfl
  have t:Trans c.F (fun _=>True) ρ (look hp) w (z04 ρ k (some (w.heap.size,cc))) (look ((k,some (.row s els'))::hp)) w':=by
    refine ⟨hos,ht,hout,Nat.le_of_lt hsz,fun j hj _=>hblk j hj,?_,fun j _ _ h1 _=>hρ j (hnk h1 sI0),fun j _ _ h1 _=>hρ j (hnk h1 sI0),?_,?_,?_,?_,?_⟩
    · intro j b c' hj hb
      by_cases e:j=k
      · subst e;rw [z00] at hj;cases hj;omega
      · rw [hρ j e] at hj;exact .inl hj
    · intro j s1 s2 e1 e2 h1 h2 hl
      by_cases e:j=k
      · subst e
        rw [hσ] at h1;rw [hlk'] at h2
        cases h1;cases h2;omega
      · exact hρ j e
    · intro j s1 s2 e1 e2 h1 h2
      by_cases e:j=k
      · subst e
        rw [hσ] at h1;rw [hlk'] at h2
        cases h1;cases h2;omega
      · rw [hlk j e,h1] at h2;cases h2;exact Nat.le_refl _
    all_goals intro j
    · intro cs h2
      by_cases e:j=k
      · subst e;rw [hlk'] at h2;cases h2
      · rw [hlk j e] at h2;exact .inr ⟨_,h2⟩
    · intro cs h2
      by_cases e:j=k
      · subst e;rw [hlk'] at h2;cases h2
      · rw [hlk j e] at h2;exact .inr ⟨_,h2⟩
    · intro s1 cs h2
      by_cases e:j=k
      · subst e;rw [hlk'] at h2;cases h2;exact .inr ⟨_,hσ⟩
      · rw [hlk j e] at h2;exact .inr ⟨_,h2⟩
  have hnone:∀ j,¬ (look hp j=none/\look ((k,some (.row s els'))::hp) j≠none):=fun j hj=>by
    by_cases e:j=k
    · subst e;rw [hσ] at hj;cases hj.1
    · rw [hlk j e] at hj;exact hj.2 hj.1
  have hnn:∀ x,¬ Names (fun j=>look hp j=none/\look ((k,some (.row s els'))::hp) j≠none) x:=fun x hx=>by
    obtain ⟨j,hj⟩:=hx.some
    exact hnone j hj
  refine h.step t (fun _ _=>trivial) ⟨?_,?_,fun b hb=>Nat.lt_trans (h.rel.old b hb) hsz,fun j b' c' hj=>?_,fun j o1 h1 h2=>?_⟩ (fun j h1 h2=>absurd ⟨h1,h2⟩ (hnone j)) fun _ x _=>hnn x
  · intro j j' b c1 c2 h1 h2
    by_cases e:j=k<;>by_cases e':j'=k
    · rw [e,e']
    · subst e
      rw [z00] at h1;rw [hρ j' e'] at h2
      cases h1
      have:=h.rel.lt h2;omega
    · subst e'
      rw [z00] at h2;rw [hρ j e] at h1
      cases h2
      have:=h.rel.lt h1;omega
    · rw [hρ j e] at h1;rw [hρ j' e'] at h2
      exact h.rel.inj _ _ _ _ _ h1 h2
  · intro j b c1 h1 hF
    by_cases e:j=k
    · subst e
      rw [z00] at h1;cases h1
      have:=h.rel.old _ hF;omega
    · rw [hρ j e] at h1;exact h.rel.apart _ _ _ h1 hF
  · by_cases e:j=k
    · subst e
      rw [z00] at hj;cases hj
      exact ⟨_,hlk',ho fun x v hx=>hx.trans' t⟩
    · rw [hρ j e] at hj
      obtain ⟨o1,h1,h2⟩:=h.rel.obj j b' c' hj
      exact ⟨o1,(hlk j e).trans h1,h2.keep t (hblk b' h2.lt) fun x _=>hnn x⟩
  · by_cases e:j=k
    · subst e;rw [z00] at h2;cases h2
    · rw [hlk j e] at h1;rw [hρ j e] at h2;exact h.rel.real j o1 h1 h2
theorem All.ghost {ρ:Loc} {w:World} {a:Act} {k:Nat} (h:All c ρ (look hp) w fr a) (hσ:look hp k=none) (hc:c.σ k=none) (hfr:nmFr k fr=false) (hhp:nmHp k hp=false) (s:RT) :
    ρ k=none/\All c ρ (look ((k,some (.row s []))::hp)) w fr a:=by
  have hlk:∀ j,j≠k->look ((k,some (.row s []))::hp) j=look hp j:=fun j hj=>z08 (Ne.symm hj)
  have hlk':look ((k,some (.row s []))::hp) k=some (.row s []):=z0b
  have hρk:ρ k=none:=by
    cases hk:ρ k with
    | none=>rfl
    | some l=>obtain ⟨o',h',_⟩:=h.rel.obj k l.1 l.2 hk;rw [hσ] at h';cases h'
  have hne:∀ j x,look hp j=some x->j≠k:=fun j x hj e=>by subst e;rw [hσ] at hj;cases hj
  have t:Trans c.F (fun _=>True) ρ (look hp) w ρ (look ((k,some (.row s []))::hp)) w:=by
    refine ⟨rfl,rfl,rfl,Nat.le_refl _,fun j hj _=>rfl,fun _ _ _ h _=>.inl h,fun _ _ _ _ _=>rfl,fun _ _ _ _ _=>rfl,fun _ _ _ _ _ _ _ _=>rfl,?_,?_,?_,?_⟩
    · intro j s s' els els' h1 h2
      rw [hlk j (hne _ _ h1),h1] at h2
      cases h2;exact Nat.le_refl _
    all_goals intro j
    · intro cs h2
      by_cases e:j=k
      · subst e;exact .inl hσ
      · rw [hlk j e] at h2;exact .inr ⟨_,h2⟩
    · intro cs h2
      by_cases e:j=k
      · subst e;exact .inl hσ
      · rw [hlk j e] at h2;exact .inr ⟨_,h2⟩
    · intro s1 cs h2
      by_cases e:j=k
      · subst e;exact .inl hσ
      · rw [hlk j e] at h2;exact .inr ⟨_,h2⟩
  have hnew:∀ j,look hp j=none/\look ((k,some (.row s []))::hp) j≠none->j=k:=fun j hj=>Classical.byContradiction fun e=>hj.2 ((hlk j e).trans hj.1)
  have hnn:∀ x,nm k x=false -> ¬ Names (fun j=>look hp j=none/\look ((k,some (.row s []))::hp) j≠none) x:=fun x hx hn=>by
    rw [z4c (hn.imp hnew)] at hx;cases hx
  refine ⟨hρk,h.step t (fun _ _=>trivial) ⟨h.rel.inj,h.rel.apart,h.rel.old,fun j b' c' hj=>?_,fun j o1 h1 h2=>?_⟩ (fun j h1 h2=>hnew j ⟨h1,h2⟩ ▸ hc) fun t x hx=>hnn x (z3b hfr hx)⟩
  · obtain ⟨o1,h1,h2⟩:=h.rel.obj j b' c' hj
    refine ⟨o1,(hlk j (hne _ _ h1)).trans h1,h2.keep t rfl fun x ⟨cs,h3,h4⟩=>hnn x ?_⟩
    subst h3
    exact z0z (z1u hhp h1) h4
  · by_cases e:j=k
    · subst e;rw [hlk'] at h1;cases h1;exact ⟨s,rfl⟩
    · rw [hlk j e] at h1;exact h.rel.real j o1 h1 h2
theorem All.putFr {ρ:Loc} {σ:Heap'} {w:World} {a:Act} {t:Nat} {x y:IV} (h:All c ρ σ w fr a) (ht:fr.get t=some x) (hxy:∀ v,RepI c.F ρ σ w x v->RepI c.F ρ σ w y v):All c ρ σ w ((t,y)::fr) a:=by
  refine ⟨h.rel,fun t' z hz=>?_,h.tr,h.df,h.sz,h.kk⟩
  simp only [Fr.get] at hz
  cases hb:Nat.beq t t' with
  | true =>
    rw [hb] at hz;cases hz
    obtain rfl:=Nat.eq_of_beq_eq_true hb
    obtain ⟨v,hv,hr⟩:=h.fr t x ht
    exact ⟨v,hv,hxy v hr⟩
  | false=>rw [hb] at hz;exact h.fr t' z hz
theorem Tr.grow {x:Code} {t k:Nat} (s:RT) (ht:fr.get t=some (.pv (.val (.slice none 0 0)))) (hσ:look hp k=none) (hc:c.σ k=none) (hfr:nmFr k fr=false) (hhp:nmHp k hp=false)
    (h:Tr P c x ((t,.sl k 0)::fr) (look ((k,some (.row s []))::hp)) Q):Tr P c x fr (look hp) Q:=by
  intro ρ w a ha
  obtain ⟨hk,ha'⟩:=ha.ghost hσ hc hfr hhp s
  refine h ρ w a (ha'.putFr ht fun v hv=>?_)
  obtain rfl:=hv.val
  exact .sl k 0 _ fun s' els' _=>⟨Nat.zero_le _,fun _=>.inr ⟨hk,rfl,rfl⟩⟩
theorem All.row {ρ:Loc} {w:World} {a:Act} (h:All c ρ (look hp) w fr a) {x:Operand} {k n:Nat} {s:RT} {els:List (List PV)} (hx:fr.ev x=some (.sl k n)) (hk:look hp k=some (.row s els)) (hn:els.length=n) :
    (∃ (b cc:Nat) (r:Array Value) (u:Nat->Nat->Value),a.eval x = .slice (some ⟨b,0,none⟩) n cc /\ ρ k=some (b,cc)/\w.heap[b]? = some (.cells r s.e (0,0))/\r.size=cc*s.n/\n<=cc/\cc<=maxLen/\(∀ el∈els,el.length=s.n) /\
      (∀ i el,els[i]? = some el->∀ j x,el[j]? = some x->r[i*s.n+j]? = some (u i j))/\∀ i el,els[i]? = some el->∀ j x,el[j]? = some x->RepP (owned c.F ρ) w x (u i j)) ∨
    (a.eval x = .slice none 0 0 /\ ρ k=none/\els=[]):=by
  have hr:=h.ev hx
  generalize hv:a.eval x=v at hr
  cases hr with
  | sl _ _ _ hh =>
    rcases (hh s els hk).2 hn with ⟨b,cc,hρ,rfl⟩ | ⟨hρ,hz,rfl⟩
    · obtain ⟨o1,h1,h2⟩:=h.rel.obj k b cc hρ
      rw [hk] at h1;cases h1
      cases h2 with
      | row _ _ r u h3 h4 h5 h6 h7 h8 h9=>exact .inl ⟨b,cc,r,u,rfl,hρ,h3,h4,hn ▸ h5,h6,h7,h8,h9⟩
    · exact .inr ⟨rfl,hρ,List.eq_nil_of_length_eq_zero (hn.trans hz)⟩
theorem z9x {t e:TypeId} {x:Operand} {k n:Nat} {s:RT} {els:List (List PV)} (ho:o.op = .call { callee:=.builtin .len,args:=#[x],argTypes:=#[t] }) (hx:fr.ev x=some (.sl k n)) (hk:look hp k=some (.row s els)) (hn:els.length=n)
    (hu:P.underlying t=some (.slice e)):OkV P c R1 o fr (look hp) (.pv (.val (.int .i64 n))):=by
  intro ρ w a h
  refine ⟨.int .i64 n,fun w2 _=>?_,z0r _⟩
  rcases h.row hx hk hn with ⟨b,cc,r,u,hv,_⟩ | ⟨hv,_,he⟩
  · simp [execOp,ho,hv,resolve,Sem.run_bind,invoke,builtin,Builtin.len_,run_underlying hu,goInt]
  · subst he
    subst hn
    simp [execOp,ho,hv,resolve,Sem.run_bind,invoke,builtin,Builtin.len_,run_underlying hu,goInt]
theorem z9w {t e:TypeId} {x:Operand} (ho:o.op = .call { callee:=.builtin .len,args:=#[x],argTypes:=#[t] }) (hx:fr.ev x=some (.pv (.val (.slice none 0 0)))) (hu:P.underlying t=some (.slice e)):OkV P c R1 o fr (look hp) (.pv (.val (.int .i64 0))):=by
  intro ρ w a h
  refine ⟨.int .i64 0,fun w2 _=>?_,z0r _⟩
  simp [execOp,ho,z03 h hx,resolve,Sem.run_bind,invoke,builtin,Builtin.len_,run_underlying hu,goInt]
theorem z9z {t:TypeId} {x:Operand} {s:ByteArray} (ho:o.op = .call { callee:=.builtin .len,args:=#[x],argTypes:=#[t] }) (hx:fr.ev x=some (.pv (.val (.string s)))) (hu:P.underlying t=some .string):OkV P c R1 o fr (look hp) (.pv (.val (.int .i64 s.size))):=by
  intro ρ w a h
  refine ⟨.int .i64 s.size,fun w2 _=>?_,z0r _⟩
  simp [execOp,ho,z03 h hx,resolve,Sem.run_bind,invoke,builtin,Builtin.len_,run_underlying hu,goInt]
theorem z71 {s q i j:Nat} (hj:j<s) (h:q=i*s+j):q / s=i/\q % s=j:=by
  subst h
  have hs:0<s:=by omega
  exact ⟨by rw [Nat.add_comm,Nat.add_mul_div_right _ _ hs,Nat.div_eq_of_lt hj,Nat.zero_add],by rw [Nat.add_comm,Nat.add_mul_mod_self_right,Nat.mod_eq_of_lt hj]⟩
theorem z6a {s m q:Nat} (h:q<m*s):q / s<m/\q % s<s/\q / s*s+q % s=q:=by
  have hs:0<s:=by
    rcases Nat.eq_zero_or_pos s with e | e
    · subst e;simp at h
    · exact e
  exact ⟨Nat.div_lt_of_lt_mul (by rwa [Nat.mul_comm]),Nat.mod_lt _ hs,by rw [Nat.mul_comm];exact Nat.div_add_mod q s⟩
theorem RepP.flat {own:Nat->Prop} {w:World} {els:List (List PV)} {v:Value} {s:Nat} (h:RepP own w (.seq els) v) (hw:∀ el∈els,el.length=s) (hone:∀ el∈els,∀ x∈el,x.one=true) :
    ∃ (a:Option Addr) (cap:Nat) (u:Nat->Nat->Value),v = .slice a els.length cap/\(els≠[]->∃ ad:Addr,a=some ad/\∀ j y,((List.range (els.length*s)).map fun q=>u (q / s) (q % s))[j]? = some y->w.cell? (ad.add j)=some y) /\
      (∀ y∈(List.range (els.length*s)).map fun q=>u (q / s) (q % s),y.oneCell'=true)/\∀ i el,els[i]? = some el->∀ j x,el[j]? = some x->RepP own w x (u i j):=by
  cases h with
  | seq _ a cap b off u ha hb hl hm hc hr =>
    have key:∀ q,q<els.length*s->∃ el x,els[q / s]? = some el/\el.length=s/\el[q % s]? = some x/\x.one=true:=fun q hq=>by
      obtain ⟨h1,h2,h3⟩:=z6a hq
      have he:=hw _ (List.getElem_mem h1)
      exact ⟨els[q / s],els[q / s][q % s]'oM0,List.getElem?_eq_getElem h1,he,List.getElem?_eq_getElem _,hone _ (List.getElem_mem h1) _ (List.getElem_mem _)⟩
    refine ⟨a,cap,u,rfl,fun hne=>⟨⟨b,off,none⟩,ha hne,fun j y hj=>?_⟩,fun y hy=>?_,hr⟩
    · have hq:j<els.length*s:=by have:=(List.getElem?_eq_some_iff.1 hj).1;simpa using this
      obtain ⟨el,x,h1,h2,h3,_⟩:=key j hq
      have hy:y=u (j / s) (j % s):=by simpa [hq] using hj.symm
      have:=hc _ el h1 _ x h3
      rw [h2] at this
      rw [Addr.add_mid,hy,<- this,Nat.add_assoc,(z6a hq).2.2]
    · obtain ⟨q,hq,rfl⟩:=List.mem_map.1 hy
      obtain ⟨el,x,h1,h2,h3,h4⟩:=key q (by simpa using hq)
      exact (hr _ el h1 _ x h3).one h4
theorem z2i {t e:TypeId} (ty:TypeId) (ht:P.underlying t=some (.slice e)) {i:TypeInfo} (hi:P.info? e=some i) (w:World) (v:Option Addr) (n cap:Nat) (hn:n<=cap) (a:Option Addr) (cc:Nat) :
    (Builtin.append_ #[t,t] ty #[.slice v n cap,.slice a 0 cc]).run P w = .ok (.slice v n cap) w:=by
  cases v<;>cases a<;>simp [Builtin.append_,run_underlying ht,sizeOf,typeInfo,hi,Builtin.lenOf,Builtin.firstCells,hn,loadCells,loadCellsFrom,storeCells]
def FlatV (own:Nat->Prop) (w:World) (s:Nat) (els:List (List PV)) (v:Value):Prop :=
  ∃ (a:Option Addr) (cap:Nat) (u:Nat->Nat->Value),v = .slice a els.length cap/\(els≠[]->∃ ad:Addr,a=some ad/\∀ j y,((List.range (els.length*s)).map fun q=>u (q / s) (q % s))[j]? = some y->w.cell? (ad.add j)=some y) /\
    (∀ y∈(List.range (els.length*s)).map fun q=>u (q / s) (q % s),y.oneCell'=true)/\∀ i el,els[i]? = some el->∀ j x,el[j]? = some x->RepP own w x (u i j)
theorem z2r {t:TypeId} {x y:Operand} {k n by_:Nat} {s:RT} {els news:List (List PV)} (ho:o.op = .call { callee:=.builtin .append,args:=#[x,y],argTypes:=#[t,t] }) (hx:fr.ev x=some (.sl k n)) (hflat:∀ ρ w a,All c ρ (look hp) w fr a->FlatV (owned c.F ρ) w s.n news (a.eval y))
    (hk:look hp k=some (.row s els)) (hn:els.length=n) (hR:¬ c.R k) (ht:P.underlying t=some (.slice s.e)) (hi:(P.info? s.e).map (fun i=>(i.size,i.bytes,(i.zero.map fun z=>z.cells.size)))=some (s.n,by_,some s.n)) (hs:0<s.n)
    (hw:∀ el∈news,el.length=s.n) (hmax:n+news.length<=maxLen) (hb:(n+news.length)*by_<=140737488355328) :
    Ok P c o fr (look hp) (.sl k (n+news.length)) (look ((k,some (.row s (els++news)))::hp)):=by
  intro ρ w a K Q h hK
  cases hq:P.info? s.e with
  | none=>simp [hq] at hi
  | some i =>
    have hsz:i.size=s.n:=by simp [hq] at hi;exact hi.1
    have hby:i.bytes=by_:=by simp [hq] at hi;exact hi.2.1
    obtain ⟨z,hz,hzs⟩:∃ z,i.zero=some z/\z.cells.size=s.n:=by simp [hq] at hi;exact hi.2.2
    have hlk':look ((k,some (.row s (els++news)))::hp) k=some (.row s (els++news)):=z0b
    obtain ⟨ad,cap,u',hvy,had,hone',hr'⟩:=hflat ρ w a h
    have hlenN:((List.range (news.length*s.n)).map fun q=>u' (q / s.n) (q % s.n)).length=news.length*i.size:=by simp [hsz]
    have hrun:∀ (v:Value) (w':World),(Builtin.append_ #[t,t] o.type #[a.eval x,a.eval y]).run P w = .ok v w'->(execOp a.eval o).run P w = .ok (.value v) w':=fun v w' hr=>by
      simp only [execOp,ho,resolve,Sem.run_bind,Sem.run_pure,Result.andThen_ok,invoke,builtin,List.map_toArray,List.map_cons,List.map_nil,hr]
    unfold Oper.wp
    by_cases hm:news=[]
    · subst hm
      simp only [List.append_nil,List.length_nil,Nat.add_zero] at hK hlk' ⊢
      have hsame:look ((k,some (.row s els))::hp)=look hp:=by
        funext j
        by_cases e:j=k
        · subst e;rw [z0b,hk]
        · rw [z08 (Ne.symm e)]
      rw [hsame] at hK
      have hv:(Builtin.append_ #[t,t] o.type #[a.eval x,a.eval y]).run P w = .ok (a.eval x) w:=by
        rw [hvy]
        rcases h.row hx hk hn with ⟨b,cc,r,u,hv,_,_,_,hc,_⟩ | ⟨hv,_,_⟩
        · rw [hv];exact z2i _ ht hq w _ _ _ hc _ _
        · rw [hv];exact z2i _ ht hq w _ _ _ (Nat.le_refl _) _ _
      rw [hrun _ _ hv]
      exact hK ρ w _ h (h.ev hx)
    · obtain ⟨ad,rfl,hcell⟩:=had hm
      have hpos:0<news.length:=List.length_pos_iff.2 hm
      simp only [maxLen] at hmax
      -- the new cells, in their row
      have hvals:∀ (r:Array Value) (u:Nat->Nat->Value) (pre:List Value) (rest:List Value),pre.length=n*s.n->(∀ el∈els,el.length=s.n)->(∀ i el,els[i]? = some el->∀ j x,el[j]? = some x->pre[i*s.n+j]? = some (u i j)) ->
          ∀ i el,(els++news)[i]? = some el->∀ j x,el[j]? = some x ->
            (pre++(List.range (news.length*s.n)).map (fun q=>u' (q / s.n) (q % s.n))++rest)[i*s.n+j]? = some (if i<n then u i j else u' (i - n) j):=by
        intro r u pre rest hpl hwe hpre i el hi j x hj
        by_cases hin:i<n
        · rw [List.getElem?_append_left oM0] at hi
          have h1:=hpre i el hi j x hj
          have hlt:=(List.getElem?_eq_some_iff.1 h1).1
          rw [if_pos hin,List.append_assoc,List.getElem?_append_left hlt,h1]
        · rw [List.getElem?_append_right oM0] at hi
          have hlen:=hw el (List.mem_of_getElem? hi)
          have hj':j<s.n:=by have:=(List.getElem?_eq_some_iff.1 hj).1;omega
          have hi':i - els.length<news.length:=(List.getElem?_eq_some_iff.1 hi).1
          have heq:i*s.n+j - n*s.n=(i - n)*s.n+j:=by rw [Nat.sub_mul];have:n*s.n<=i*s.n:=Nat.mul_le_mul_right _ oM0;omega
          have hlt:(i - n)*s.n+j<news.length*s.n:=by
            have:(i - n+1)*s.n<=news.length*s.n:=Nat.mul_le_mul_right _ oM0
            rw [Nat.add_mul] at this;omega
          obtain ⟨d1,d2⟩:=z71 hj' (rfl:(i - n)*s.n+j=(i - n)*s.n+j)
          have hge:n*s.n<=i*s.n+j:=by have:n*s.n<=i*s.n:=Nat.mul_le_mul_right _ oM0;omega
          rw [if_neg hin,List.append_assoc,List.getElem?_append_right oM0,hpl,heq,List.getElem?_append_left (by simpa using hlt)]
          simp [hlt,d1,d2]
      have hrow:∀ (own':Nat->Prop) (w':World) (u:Nat->Nat->Value),(∀ x v,RepP (owned c.F ρ) w x v->RepP own' w' x v)->(∀ i el,els[i]? = some el->∀ j x,el[j]? = some x->RepP (owned c.F ρ) w x (u i j)) ->
          ∀ i el,(els++news)[i]? = some el->∀ j x,el[j]? = some x->RepP own' w' x (if i<n then u i j else u' (i - n) j):=by
        intro own' w' u keep hu i el hi j x hj
        by_cases hin:i<n
        · rw [List.getElem?_append_left oM0] at hi
          rw [if_pos hin];exact keep _ _ (hu i el hi j x hj)
        · rw [List.getElem?_append_right oM0,hn] at hi
          rw [if_neg hin];exact keep _ _ (hr' (i - n) el hi j x hj)
      have hwAll:∀ (_:∀ el∈els,el.length=s.n),∀ el∈els++news,el.length=s.n:=fun he el hel=>(List.mem_append.1 hel).elim (he el) (hw el)
      have hgrow:∀ (old:Nat) (pre:List Value) (u:Nat->Nat->Value),old<n+news.length->pre.length=n*s.n->(∀ el∈els,el.length=s.n)->(∀ i el,els[i]? = some el->∀ j x,el[j]? = some x->pre[i*s.n+j]? = some (u i j)) ->
          (∀ i el,els[i]? = some el->∀ j x,el[j]? = some x->RepP (owned c.F ρ) w x (u i j)) ->
          (Builtin.append_ #[t,t] o.type #[a.eval x,a.eval y]).run P w = .ok (.slice (some ⟨w.heap.size,0,none⟩) (n+news.length) (grownCap w (n+news.length) old s.e))
            (w.drew.alloc (.cells (pre.toArray++((List.range (news.length*s.n)).map fun q=>u' (q / s.n) (q % s.n)).toArray++Builtin.zeroCells z.cells (grownCap w (n+news.length) old s.e - (n+news.length))) s.e)) ->
          o.upon P a K Q ((execOp a.eval o).run P w):=by
        intro old pre u hold hpl hwe hpre hu hr
        have hge:=grownCap_ge w (n+news.length) old s.e
        have hcm:grownCap w (n+news.length) old s.e<=maxLen:=grownCap_le_maxLen w (n+news.length) old s.e (by simp only [maxLen];omega)
        rw [hrun _ _ hr]
        have hnewb:(w.drew.alloc (.cells (pre.toArray++((List.range (news.length*s.n)).map fun q=>u' (q / s.n) (q % s.n)).toArray++Builtin.zeroCells z.cells (grownCap w (n+news.length) old s.e - (n+news.length))) s.e)).heap[w.heap.size]? = some (.cells (pre.toArray++((List.range (news.length*s.n)).map fun q=>u' (q / s.n) (q % s.n)).toArray++Builtin.zeroCells z.cells (grownCap w (n+news.length) old s.e - (n+news.length))) s.e (0,0)):=z0j w.drew _
        refine hK (z04 ρ k (some (w.heap.size,grownCap w (n+news.length) old s.e))) _ _ (h.move hk (by simp;omega) rfl rfl rfl sI0 (fun j hj=>Go.RowKit.Below.heap_alloc w.drew _ j hj) fun keep=>?_) (.sl _ _ _ fun s1 els1 h1=>?_)
        · refine .row s (els++news) _ (fun i j=>if i<n then u i j else u' (i - n) j) hnewb ?_ (by simp;omega) hcm (hwAll hwe) (fun i el hi j x hj=>?_) (hrow _ _ u keep hu)
          · simp only [Array.size_append,List.size_toArray,size_zeroCells,hzs,hpl,List.length_map,List.length_range,<- Nat.add_mul]
            congr 1
            omega
          · have:=hvals #[] u pre (Builtin.zeroCells z.cells (grownCap w (n+news.length) old s.e - (n+news.length))).toList hpl hwe hpre i el hi j x hj
            rw [<- this,<- Array.getElem?_toList]
            simp
        · rw [hlk'] at h1;cases h1
          exact ⟨by simp;omega,fun _=>.inl ⟨w.heap.size,_,z00,rfl⟩⟩
      rcases h.row hx hk hn with ⟨b,cc,r,u,hv,hρ,h3,h4,hc,hcm,hwe,hcells,hu⟩ | ⟨hv,hρ,hnil⟩
      · have hpl:(r.toList.take (n*s.n)).length=n*s.n:=by
          have:n*s.n<=cc*s.n:=Nat.mul_le_mul_right _ hc
          simp;omega
        have hpre:∀ i el,els[i]? = some el->∀ j x,el[j]? = some x->(r.toList.take (n*s.n))[i*s.n+j]? = some (u i j):=fun i el hi j x hj=>by
          have h5:=hcells i el hi j x hj
          have hi':i<els.length:=(List.getElem?_eq_some_iff.1 hi).1
          have hj':j<s.n:=by have:=(List.getElem?_eq_some_iff.1 hj).1;have:=hwe el (List.mem_of_getElem? hi);omega
          have:i*s.n+j<n*s.n:=by
            have:(i+1)*s.n<=n*s.n:=Nat.mul_le_mul_right _ oM0
            rw [Nat.add_mul] at this;omega
          rw [List.getElem?_take,if_pos this,Array.getElem?_toList,h5]
        by_cases hroom:n+news.length<=cc
        · have hfit:n*s.n+((List.range (news.length*s.n)).map fun q=>u' (q / s.n) (q % s.n)).length<=r.size:=by
            have:(n+news.length)*s.n<=cc*s.n:=Nat.mul_le_mul_right _ hroom
            simp [Nat.add_mul] at this ⊢;omega
          have hr:=run_append_room (P:=P) w t o.type s.e i ht hq b n cc r h3 ad news.length cap _ hlenN hcell hone' hroom (by rw [hsz];exact hfit)
          rw [hsz] at hr
          rw [hrun _ _ (by rw [hv,hvy];exact hr)]
          refine hK ρ _ _ (h.write hρ hk ⟨rfl,by simp⟩ hR rfl rfl rfl sI0 (fun j hj=>setRow_other w b j _ hj) fun _ keep=>?_) (.sl _ _ _ fun s1 els1 h1=>?_)
          · refine .row s (els++news) _ (fun i j=>if i<n then u i j else u' (i - n) j) (setRow_heap w b r _ s.e _ h3) ?_ (by simp;omega) hcm (hwAll hwe) (fun i el hi j x hj=>?_) (hrow _ _ u keep hu)
            · simp only [List.size_toArray,List.length_append,List.length_drop,Array.length_toList]
              rw [hpl]
              omega
            · have:=hvals #[] u (r.toList.take (n*s.n)) (r.toList.drop (n*s.n+((List.range (news.length*s.n)).map fun q=>u' (q / s.n) (q % s.n)).length)) hpl hwe hpre i el hi j x hj
              rw [<- this]
              simp
          · rw [hlk'] at h1;cases h1
            exact ⟨by simp;omega,fun _=>.inl ⟨b,cc,hρ,rfl⟩⟩
        · refine hgrow cc (r.toList.take (n*s.n)) u oM0 hpl hwe hpre hu ?_
          rw [hv,hvy]
          have holds:∀ j y,(r.toList.take (n*s.n))[j]? = some y->w.cell? ((⟨b,0,none⟩:Addr).add j)=some y:=fun j y hj=>by
            rw [Addr.add_mid,Nat.zero_add,z0w h3]
            rw [List.getElem?_take] at hj
            split at hj
            · simpa using hj
            · cases hj
          exact run_append_grow (P:=P) w t o.type s.e i z ht hq hz ⟨b,0,none⟩ n cc _ (by rw [hsz];exact hpl) holds ad news.length cap _ hlenN hcell oM0 oM0 (growslice_fits oM0 (by rw [hby];exact hb))
      · subst hnil
        simp only [List.length_nil] at hn
        subst hn
        refine hgrow 0 [] (fun _ _=>undef) oM0 sI0 sI0 sI0 sI0 ?_
        rw [hv,hvy]
        have:=run_append_nil (P:=P) w t o.type s.e i z ht hq hz ad news.length cap _ hlenN hcell hpos oM0 (by rw [hby];simp at hb;omega)
        simpa using this
theorem aPp {t:TypeId} {x y:Operand} {k n by_:Nat} {s:RT} {els news:List (List PV)} (ho:o.op = .call { callee:=.builtin .append,args:=#[x,y],argTypes:=#[t,t] }) (hx:fr.ev x=some (.sl k n)) (hy:fr.ev y=some (.pv (.seq news)))
    (hk:look hp k=some (.row s els)) (hn:els.length=n) (hR:¬ c.R k) (ht:P.underlying t=some (.slice s.e)) (hi:(P.info? s.e).map (fun i=>(i.size,i.bytes,(i.zero.map fun z=>z.cells.size)))=some (s.n,by_,some s.n)) (hs:0<s.n)
    (hw:∀ el∈news,el.length=s.n) (hone:∀ el∈news,∀ x∈el,x.one=true) (hmax:n+news.length<=maxLen) (hb:(n+news.length)*by_<=140737488355328) :
    Ok P c o fr (look hp) (.sl k (n+news.length)) (look ((k,some (.row s (els++news)))::hp)) :=
  z2r ho hx (fun ρ w a h=>(h.ev hy).inv_seq.flat hw hone) hk hn hR ht hi hs hw hmax hb
theorem All.freeze {ρ:Loc} {w:World} {a:Act} {k n t:Nat} {s:RT} {els:List (List PV)} (h:All c ρ (look hp) w fr a) (hk:look hp k=some (.row s els)) (hn:els.length=n) (ht:fr.get t=some (.sl k n)) :
    All c (z04 ρ k none) (look ((k,none)::hp)) w ((t,.pv (.seq els))::fr) a:=by
  have h':=h.drop (k:=k)
  have hx:fr.ev (.tmp t)=some (.sl k n):=ht
  obtain ⟨v,hv,hr⟩:=h.fr t _ ht
  have hev:a.eval (.tmp t)=v:=by simp [Act.eval,hv]
  have hown:∀ b,owned c.F (z04 ρ k none) b->owned c.F ρ b:=fun b hb=>by
    rcases hb with hb | ⟨j,cc,hj⟩
    · exact .inl hb
    · by_cases e:j=k
      · subst e;rw [z00] at hj;cases hj
      · rw [z0i (Ne.symm e)] at hj;exact .inr ⟨j,cc,hj⟩
  have hnew:RepP (owned c.F (z04 ρ k none)) w (.seq els) v:=by
    rcases h.row hx hk hn with ⟨b,cc,r,u,hv',hρ,h3,h4,hc,hcm,hwe,hcells,hu⟩ | ⟨hv',hρ,hnil⟩
    · rw [<- hev,hv',<- hn]
      refine .seq els _ cc b 0 u (fun _=>rfl) (fun _=>⟨fun ho=>?_,h.rel.lt hρ⟩) oM0 hcm (fun i el hi j x hj=>?_) fun i el hi j x hj=>(hu i el hi j x hj).own hown
      · rcases ho with ho | ⟨j,cc',hj⟩
        · exact h.rel.apart _ _ _ hρ ho
        · by_cases e:j=k
          · subst e;rw [z00] at hj;cases hj
          · rw [z0i (Ne.symm e)] at hj;exact e (h.rel.inj _ _ _ _ _ hj hρ)
      · rw [z0w h3,Nat.zero_add,hwe el (List.mem_of_getElem? hi)]
        exact hcells i el hi j x hj
    · subst hnil
      rw [<- hev,hv']
      exact .seq [] none 0 0 0 (fun _ _=>undef) sI0 sI0 sI0 (by simp [maxLen]) sI0 sI0
  refine ⟨h'.rel,fun t' z hz=>?_,h'.tr,h'.df,h'.sz,h.kk⟩
  simp only [Fr.get] at hz
  cases hb:Nat.beq t t' with
  | true =>
    rw [hb] at hz;cases hz
    obtain rfl:=Nat.eq_of_beq_eq_true hb
    exact ⟨v,hv,.pv _ _ hnew⟩
  | false=>rw [hb] at hz;exact h'.fr t' z hz
theorem Tr.freeze {x:Code} {k n t:Nat} {s:RT} {els:List (List PV)} (ht:fr.get t=some (.sl k n)) (hk:look hp k=some (.row s els)) (hn:els.length=n) (h:Tr P c x ((t,.pv (.seq els))::fr) (look ((k,none)::hp)) Q):Tr P c x fr (look hp) Q :=
  fun _ w a ha=>h _ w a (ha.freeze hk hn ht)
theorem Tr.drop {x:Code} {k:Nat} (h:Tr P c x fr (look ((k,none)::hp)) Q):Tr P c x fr (look hp) Q:=fun _ w a ha=>h _ w a ha.drop
end
section
variable {P:Program} {c:Cx} {R1:Nat->Prop} {o:Oper} {fr:Fr} {hp:Hp} {ops:Array Oper} {Q:Exit->Fr->Heap'->Prop}
theorem All.push {ρ:Loc} {σ:Heap'} {w:World} {a:Act} (h:All c ρ σ w fr a) (ob:Obj):All c ρ σ (w.alloc ob) fr a/\(∀ x v,RepP (owned c.F ρ) w x v->RepP (owned c.F ρ) (w.alloc ob) x v):=by
  have hheap:∀ j,j<w.heap.size->(w.alloc ob).heap[j]? = w.heap[j]?:=fun j hj=>Go.RowKit.Below.heap_alloc w _ j hj
  have t:Trans c.F (fun _=>True) ρ σ w ρ σ (w.alloc ob) :=
    ⟨rfl,rfl,rfl,by simp,fun j hj _=>hheap j hj,fun _ _ _ h _=>.inl h,fun _ _ _ _ _=>rfl,fun _ _ _ _ _=>rfl,fun _ _ _ _ _ _ _ _=>rfl,
      fun k s s' els els' h h'=>by rw [h] at h';cases h';exact Nat.le_refl _,fun _ _ h=>.inr ⟨_,h⟩,fun _ _ h=>.inr ⟨_,h⟩,fun _ _ _ h=>.inr ⟨_,h⟩⟩
  have hnn:∀ x,¬ Names (fun k=>σ k=none /\ σ k≠none) x:=fun x hx=>by obtain ⟨k,hk⟩:=hx.some;exact hk.2 hk.1
  refine ⟨h.step t (fun _ _=>trivial) ⟨h.rel.inj,h.rel.apart,fun b hb=>Nat.lt_of_lt_of_le (h.rel.old b hb) sI0,fun k b cc hk=>?_,h.rel.real⟩ (fun k h1 h2=>absurd h1 h2) fun _ x _=>hnn x,fun x v hx=>hx.trans' t⟩
  obtain ⟨o1,h1,h2⟩:=h.rel.obj k b cc hk
  exact ⟨o1,h1,h2.keep t (hheap b h2.lt) fun x _=>hnn x⟩
theorem All.fresh {ρ:Loc} {σ:Heap'} {w:World} {a:Act} (h:All c ρ σ w fr a):¬ owned c.F ρ w.heap.size:=fun ho=>Nat.lt_irrefl _ (h.rel.own_lt ho)
def z1q (x:IV):List IV :=
  match x.parts with
  | some cs=>cs
  | none=>[x]
def z1c (F:Nat->Prop) (ρ:Loc) (σ:Heap') (w:World) (cs:List IV) (vs:Array Value):Prop :=
  vs.size=cs.length/\∀ (j:Nat) (x:IV),cs[j]? = some x->∃ v,vs[j]? = some v/\RepI F ρ σ w x v
theorem z88 {F:Nat->Prop} {ρ:Loc} {σ:Heap'} {w:World} {x:IV} {v:Value} (h:RepI F ρ σ w x v) (hx:x.parts=none->x.firm σ):z1c F ρ σ w (z1q x) v.cells:=by
  unfold z1q
  cases hp:x.parts with
  | some cs =>
    obtain ⟨vs,u,rfl,hl,hv,hr⟩:=(h.parts hp).inv_agg
    exact ⟨hl,fun j x hj=>⟨u j,hv j x hj,hr j x hj⟩⟩
  | none =>
    have h1:=h.one (hx hp)
    have:v.cells = #[v]:=by cases v<;>first | rfl | cases h1
    rw [this]
    refine ⟨rfl,fun j y hj=>?_⟩
    match j with
    | 0=>cases hj;exact ⟨v,rfl,h⟩
    | j+1=>simp at hj
def z16 (place:Nat->Option (Nat × Nat)) (cs:List IV):List (Nat × IV)->Option (List IV)
  | []=>some cs
  | (i,x)::r =>
    match place i with
    | none=>none
    | some (off,size)=>bif Nat.beq (z1q x).length size&&Nat.ble (off+size) cs.length then z16 place (z50 cs off (z1q x)) r else none
theorem z4m (off:Nat):∀ (l:List Value) (k:Nat) (cur:Array Value) (j:Nat),off+k+l.length<=cur.size ->
    ((l.zipIdx k).foldl (fun cs (p:Value × Nat)=>cs.setIfInBounds (off+p.2) p.1) cur)[j]? = if off+k<=j/\j<off+k+l.length then l[j - (off+k)]? else cur[j]?
  | [],k,cur,j,_=>by
    have:¬ (off+k<=j/\j<off+k):=by omega
    simp [this]
  | v::l,k,cur,j,h=>by
    simp only [List.zipIdx_cons,List.foldl_cons,List.length_cons] at h ⊢
    rw [z4m off l (k+1) _ j (by simp;omega)]
    by_cases e:j=off+k
    · subst e
      rw [if_neg oM0,if_pos oM0]
      simp [show off+k<cur.size by omega]
    · by_cases e2:off+(k+1)<=j/\j<off+(k+1)+l.length
      · rw [if_pos e2,if_pos oM0,show j - (off+k)=(j - (off+(k+1)))+1 by omega]
        simp
      · rw [if_neg e2,if_neg oM0]
        simp [Ne.symm e]
theorem z29 (off:Nat):∀ (l:List (Value × Nat)) (cur:Array Value),(l.foldl (fun cs (p:Value × Nat)=>cs.setIfInBounds (off+p.2) p.1) cur).size=cur.size
  | [],_=>rfl
  | p::l,cur=>by rw [List.foldl_cons,z29 off l];simp
theorem zf2 {cs zs:List IV} {off j:Nat} (h:off+zs.length<=cs.length):(z50 cs off zs)[j]? = if off<=j/\j<off+zs.length then zs[j - off]? else cs[j]?:=by
  unfold z50
  by_cases e1:j<off
  · rw [if_neg oM0,List.getElem?_append_left (by simp;omega),List.getElem?_append_left (by simp;omega),List.getElem?_take,if_pos e1]
  · by_cases e2:j<off+zs.length
    · rw [if_pos ⟨by omega,e2⟩,List.getElem?_append_left (by simp;omega),List.getElem?_append_right (by simp;omega)]
      simp [Nat.min_eq_left (show off<=cs.length by omega)]
    · rw [if_neg oM0,List.getElem?_append_right (by simp;omega)]
      simp only [List.getElem?_drop,List.length_append,List.length_take,Nat.min_eq_left (show off<=cs.length by omega)]
      congr 1
      omega
theorem z2g {cs zs:List IV} {off:Nat} (h:off+zs.length<=cs.length):(z50 cs off zs).length=cs.length:=by
  simp [z50];omega
theorem z38 {F:Nat->Prop} {ρ:Loc} {σ:Heap'} {w:World} {place:Nat->Option (Nat × Nat)}:∀ {parts:List (Nat × IV)} {vals:List (Nat × Value)} {cs out:List IV} {cur:Array Value},
    z1c F ρ σ w cs cur->vals.length=parts.length->(∀ (j i:Nat) (x:IV),parts[j]? = some (i,x)->∃ v,vals[j]? = some (i,v)/\RepI F ρ σ w x v/\(x.parts=none->x.firm σ))->z16 place cs parts=some out ->
    ∃ vs,Instr.fill place cur vals=some vs/\z1c F ρ σ w out vs
  | [],[],cs,out,cur,h,_,_,hf=>by cases hf;exact ⟨cur,rfl,h⟩
  | (i,x)::r,[],cs,out,cur,_,hl,_,_=>by simp at hl
  | [],_::_,cs,out,cur,_,hl,_,_=>by simp at hl
  | (i,x)::r,(i',v)::vr,cs,out,cur,h,hl,hv,hf=>by
    obtain ⟨v',e1,h1,h2⟩:=hv 0 i x rfl
    simp only [List.getElem?_cons_zero,Option.some.injEq,Prod.mk.injEq] at e1
    obtain ⟨rfl,rfl⟩:=e1
    simp only [z16] at hf
    cases hp:place i' with
    | none=>rw [hp] at hf;cases hf
    | some q =>
      obtain ⟨off,size⟩:=q
      rw [hp] at hf
      simp only [] at hf
      cases hc:Nat.beq (z1q x).length size&&Nat.ble (off+size) cs.length with
      | false=>rw [hc] at hf;cases hf
      | true =>
        rw [hc] at hf
        simp only [cond_true] at hf
        simp only [Bool.and_eq_true] at hc
        have hs:(z1q x).length=size:=Nat.eq_of_beq_eq_true hc.1
        have hle:off+size<=cs.length:=Nat.le_of_ble_eq_true hc.2
        have hcells:=z88 h1 h2
        have hcs:v.cells.size=size:=hcells.1.trans hs
        have hnew:z1c F ρ σ w (z50 cs off (z1q x)) (v.cells.zipIdx.foldl (fun cs (c,j)=>cs.setIfInBounds (off+j) c) cur):=by
          have hfold:(v.cells.zipIdx.foldl (fun cs (p:Value × Nat)=>cs.setIfInBounds (off+p.2) p.1) cur)=((v.cells.toList.zipIdx 0).foldl (fun cs (p:Value × Nat)=>cs.setIfInBounds (off+p.2) p.1) cur):=by
            rw [<- Array.foldl_toList];simp
          have hb:off+0+v.cells.toList.length<=cur.size:=by rw [h.1];simp;omega
          show z1c F ρ σ w _ (v.cells.zipIdx.foldl (fun cs (p:Value × Nat)=>cs.setIfInBounds (off+p.2) p.1) cur)
          rw [hfold]
          refine ⟨by rw [z29,z2g oM0];exact h.1,fun j y hj=>?_⟩
          rw [zf2 oM0] at hj
          rw [z4m off v.cells.toList 0 cur j hb]
          simp only [Nat.add_zero,Array.length_toList]
          by_cases e:off<=j/\j<off+(z1q x).length
          · rw [if_pos e] at hj
            rw [if_pos oM0]
            obtain ⟨v1,h3,h4⟩:=hcells.2 _ y hj
            exact ⟨v1,by rw [Array.getElem?_toList];exact h3,h4⟩
          · rw [if_neg e] at hj
            rw [if_neg oM0]
            exact h.2 j y hj
        obtain ⟨vs,h3,h4⟩:=z38 hnew (by simpa using hl) (fun j k y hj=>hv (j+1) k y (by simpa using hj)) hf
        refine ⟨vs,?_,h4⟩
        simp only [Instr.fill,hp]
        rw [if_neg (by rw [h.1];simp;omega)]
        exact h3
def z1b (z:Value):List IV:=z.cells.toList.map fun v=>.pv (.val v)
theorem z86 (F:Nat->Prop) (ρ:Loc) (σ:Heap') (w:World) (z:Value):z1c F ρ σ w (z1b z) z.cells:=by
  refine ⟨by simp [z1b],fun j x hj=>?_⟩
  simp only [z1b,List.getElem?_map,Option.map_eq_some_iff] at hj
  obtain ⟨v,hv,rfl⟩:=hj
  exact ⟨v,by rw [<- Array.getElem?_toList];exact hv,z0r v⟩
def z66 (P:Program) (fs:Array Field) (pl:Array (Nat × Nat)):Prop:=∀ w,((fs.mapM fun f=>do pure (f.offset,<- sizeOf f.type)):Sem (Array (Nat × Nat))).run P w = .ok pl w
def z0v (fr:Fr):List (Nat × Operand)->Option (List (Nat × IV))
  | []=>some []
  | (i,x)::r=>match fr.ev x,z0v fr r with
    | some y,some ys=>some ((i,y)::ys)
    | _,_=>none
theorem z1d {σ:Heap'} {ρ:Loc} {w:World} {a:Act} (h:All c ρ σ w fr a):∀ {ps:List (Nat × Operand)} {xs:List (Nat × IV)},z0v fr ps=some xs ->
    (ps.map fun p=>(p.1,a.eval p.2)).length=xs.length/\∀ (j i:Nat) (x:IV),xs[j]? = some (i,x)->∃ v,(ps.map fun p=>(p.1,a.eval p.2))[j]? = some (i,v)/\RepI c.F ρ σ w x v
  | [],xs,hx=>by cases hx;exact ⟨rfl,fun j i x hj=>by simp at hj⟩
  | (i0,x)::r,xs,hx=>by
    simp only [z0v] at hx
    split at hx
    · rename_i y ys hy hys
      cases hx
      have ih:=z1d h hys
      refine ⟨by simpa using ih.1,fun j i z hj=>?_⟩
      cases j with
      | zero=>cases hj;exact ⟨_,rfl,h.ev hy⟩
      | succ j=>exact ih.2 j i z (by simpa using hj)
    · cases hx
def z17 (σ:Heap') (xs:List (Nat × IV)):Prop:=∀ p∈xs,p.2.parts=none->p.2.firm σ
theorem z9e {t:TypeId} {parts:Array (Nat × Operand)} {xs:List (Nat × IV)} {pl:Array (Nat × Nat)} {z:Value} {out:List IV} {σ:Heap'} (ho:o.op = .build t parts) (hx:z0v fr parts.toList=some xs)
    (hz:((P.info? t).bind (·.zero))=some z) (hpl:∃ fs,P.underlying t=some (.struct fs)/\z66 P fs pl) (hf:z16 (pl[·]?) (z1b z) xs=some out) (hfirm:z17 σ xs):OkV P c R1 o fr σ (.agg out):=by
  intro ρ w a h
  obtain ⟨fs,hu,hpl⟩:=hpl
  have hzv:∀ w,(zeroValue t).run P w = .ok z w:=fun w=>by
    cases hq:P.info? t with
    | none=>simp [hq] at hz
    | some i=>simp [hq] at hz;simp [zeroValue,typeInfo,hq,hz]
  obtain ⟨hl,hv⟩:=z1d h hx
  obtain ⟨vs,h1,h2⟩:=z38 (z86 c.F ρ σ w z) hl (fun j i x hj=>by
    obtain ⟨v,h3,h4⟩:=hv j i x hj
    exact ⟨v,h3,h4,hfirm _ (List.mem_of_getElem? hj)⟩) hf
  have hparts:(parts.map fun (i,x)=>(i,a.eval x)).toList=parts.toList.map fun p=>(p.1,a.eval p.2):=by simp
  refine ⟨.agg vs,fun w2 _=>?_,.agg _ _ (fun j=>vs.getD j undef) h2.1 (fun j x hj=>?_) fun j x hj=>?_⟩
  · simp only [execOp,ho,Instr.build,Sem.run_bind,hzv,run_underlying hu,hpl w2,Result.andThen_ok,hparts,h1]
    rfl
  · obtain ⟨v,h3,_⟩:=h2.2 j x hj
    simp [h3,Array.getD_eq_getD_getElem?]
  · obtain ⟨v,h3,h4⟩:=h2.2 j x hj
    simp only [Array.getD_eq_getD_getElem?,h3,Option.getD_some]
    exact h4
theorem bPu {t:TypeId} {parts:Array (Nat × Operand)} {xs:List (Nat × IV)} {pl:Array (Nat × Nat)} {z:Value} {out:List IV} {ps:List PV} {σ:Heap'} (ho:o.op = .build t parts) (hx:z0v fr parts.toList=some xs)
    (hz:((P.info? t).bind (·.zero))=some z) (hpl:∃ fs,P.underlying t=some (.struct fs)/\z66 P fs pl) (hf:z16 (pl[·]?) (z1b z) xs=some out) (hfirm:z17 σ xs) (hp:z1j out=some ps):OkV P c R1 o fr σ (.pv (.agg ps)) :=
  (z9e ho hx hz hpl hf hfirm).sub fun _ _ _ _ h=>h.purify hp
def z1n (s:Nat):Nat->List PV->List (List PV)
  | 0,_=>[]
  | n+1,l=>l.take s::z1n s n (l.drop s)
theorem z1y (s:Nat):∀ (n:Nat) (l:List PV),(z1n s n l).length=n
  | 0,_=>rfl
  | n+1,l=>by simp [z1n,z1y s n]
theorem z3k (s:Nat):∀ (n:Nat) (l:List PV) (i:Nat) (el:List PV),(z1n s n l)[i]? = some el->n*s<=l.length->el.length=s/\∀ j x,el[j]? = some x->l[i*s+j]? = some x
  | 0,_,i,el,h,_=>by simp [z1n] at h
  | n+1,l,i,el,h,hl=>by
    rw [Nat.add_mul,Nat.one_mul] at hl
    cases i with
    | zero =>
      simp only [z1n,List.getElem?_cons_zero,Option.some.injEq] at h
      subst h
      refine ⟨by simp;omega,fun j x hj=>?_⟩
      rw [List.getElem?_take] at hj
      split at hj
      · simpa using hj
      · cases hj
    | succ i =>
      simp only [z1n,List.getElem?_cons_succ] at h
      obtain ⟨h1,h2⟩:=z3k s n (l.drop s) i el h (by simp;omega)
      refine ⟨h1,fun j x hj=>?_⟩
      have:=h2 j x hj
      rw [List.getElem?_drop] at this
      rw [<- this]
      congr 1
      rw [Nat.add_mul];omega
def z30 (z:Value):Nat->List IV
  | 0=>[]
  | n+1=>z1b z++z30 z n
theorem z51 {z:Value} (hs:0<z.cells.size):∀ (n:Nat),(z30 z n).length=n*z.cells.size/\∀ (j:Nat) (x:IV),(z30 z n)[j]? = some x->x=IV.pv (.val (z.cells[j % z.cells.size]!))
  | 0=>⟨by simp [z30],fun j x hj=>by simp [z30] at hj⟩
  | n+1=>by
    obtain ⟨h1,h2⟩:=z51 hs n
    have hl:(z1b z).length=z.cells.size:=by simp [z1b]
    refine ⟨by simp [z30,h1,hl,Nat.add_mul,Nat.add_comm],fun j x hj=>?_⟩
    simp only [z30] at hj
    by_cases e:j<z.cells.size
    · rw [List.getElem?_append_left oM0] at hj
      rw [Nat.mod_eq_of_lt e]
      simp only [z1b,List.getElem?_map,Option.map_eq_some_iff,Array.getElem?_toList] at hj
      obtain ⟨v,hv,rfl⟩:=hj
      simp [e] at hv ⊢
      exact hv.symm
    · rw [List.getElem?_append_right oM0,hl] at hj
      have:=h2 _ x hj
      rw [this,show j % z.cells.size=(j - z.cells.size) % z.cells.size from by rw [<- Nat.mod_eq_sub_mod oM0]]
theorem bSl {t e:TypeId} {len s:Nat} {parts:Array (Nat × Operand)} {xs:List (Nat × IV)} {z:Value} {out:List IV} {ps:List PV} {σ:Heap'} (ho:o.op = .buildSlice t len parts) (hx:z0v fr parts.toList=some xs)
    (hu:P.underlying t=some (.slice e)) (hz:((P.info? e).bind (·.zero))=some z) (hs:(P.info? e).map (·.size)=some s) (hzs:z.cells.size=s) (hpos:Nat.ble 1 s=true) (hsmall:Nat.ble (len*s) (2 ^ 24)=true)
    (hf:z16 (fun i=>some (i*s,s)) (z30 z len) xs=some out) (hfirm:z17 σ xs) (hp:z1j out=some ps):Ok P c o fr σ (.pv (.seq (z1n s len ps))) σ:=by
  intro ρ w a K Q h hK
  have hpos':0<s:=Nat.le_of_ble_eq_true hpos
  have hsmall':=Nat.le_of_ble_eq_true hsmall
  have hzv:(zeroValue e).run P w = .ok z w:=by
    cases hq:P.info? e with
    | none=>simp [hq] at hz
    | some i=>simp [hq] at hz;simp [zeroValue,typeInfo,hq,hz]
  obtain ⟨hl,hv⟩:=z1d h hx
  obtain ⟨hrl,hrg⟩:=z51 (z:=z) oM0 len
  have hrep:z1c c.F ρ σ w (z30 z len) ((Array.range (len*s)).map (z.cells[· % z.cells.size]!)):=by
    refine ⟨by simp [hrl,hzs],fun j x hj=>?_⟩
    have hjl:j<len*s:=by have:=(List.getElem?_eq_some_iff.1 hj).1;rw [hrl,hzs] at this;exact this
    rw [hrg j x hj]
    exact ⟨_,by simp [hjl],z0r _⟩
  have hlenfill:out.length=len*s:=by
    have:∀ (ps:List (Nat × IV)) (cs out:List IV),z16 (fun i=>some (i*s,s)) cs ps=some out->out.length=cs.length:=by
      intro ps
      induction ps with
      | nil=>intro cs out h;cases h;rfl
      | cons p r ih =>
        intro cs out h
        simp only [z16] at h
        cases hc:Nat.beq (z1q p.2).length s&&Nat.ble (p.1*s+s) cs.length with
        | false=>rw [hc] at h;cases h
        | true =>
          rw [hc] at h
          simp only [Bool.and_eq_true] at hc
          have h1:=Nat.eq_of_beq_eq_true hc.1
          have h2:=Nat.le_of_ble_eq_true hc.2
          rw [ih _ _ h,z2g oM0]
    rw [this _ _ _ hf,hrl,hzs]
  obtain ⟨vs,h1,h2⟩:=z38 hrep hl (fun j i x hj=>by
    obtain ⟨v,h3,h4⟩:=hv j i x hj
    exact ⟨v,h3,h4,hfirm _ (List.mem_of_getElem? hj)⟩) hf
  have hparts:(parts.map fun (i,x)=>(i,a.eval x)).toList=parts.toList.map fun p=>(p.1,a.eval p.2):=by simp
  have hrun:(execOp a.eval o).run P w = .ok (.value (.slice (some ⟨w.heap.size,0,none⟩) len len)) (w.alloc (.cells vs e)):=by
    have hnr:(newRow e vs).run P w = .ok ⟨w.heap.size,0,none⟩ (w.alloc (.cells vs e)):=rfl
    simp only [execOp,ho,Instr.buildSlice,Sem.run_bind,run_underlying hu,z06 hs,Result.andThen_ok]
    rw [if_neg oM0]
    by_cases h0:len*s=0
    · have h1':Instr.fill (fun i=>some (i*s,s)) ((Array.range (len*s)).map ((#[]:Array Value)[· % (#[]:Array Value).size]!)) (List.map (fun p=>(p.fst,a.eval p.snd)) parts.toList)=some vs:=by
        have e1:∀ f:Nat->Value,(Array.range (len*s)).map f = #[]:=fun f=>by rw [h0];simp
        rw [e1] at h1 ⊢
        exact h1
      simp only [if_pos h0,Sem.run_bind,Sem.run_pure,Result.andThen_ok,hparts]
      rw [h1']
      simp only [Sem.run_bind,hnr,Result.andThen_ok]
      rfl
    · simp only [if_neg h0,Sem.run_bind,Sem.run_pure,Result.andThen_ok,hzv,hparts]
      rw [h1]
      simp only [Sem.run_bind,hnr,Result.andThen_ok]
      rfl
  unfold Oper.wp
  rw [hrun]
  obtain ⟨h3,keep⟩:=h.push (.cells vs e)
  refine hK ρ _ _ h3 (.pv _ _ ?_)
  obtain ⟨hpl,hpg⟩:=z1x hp
  have hel:∀ i el,(z1n s len ps)[i]? = some el->el.length=s/\∀ j x,el[j]? = some x->ps[i*s+j]? = some x:=fun i el hi=>z3k s len ps i el hi oM0
  have hcl:=z1y s len ps
  have:RepP (owned c.F ρ) (w.alloc (.cells vs e)) (.seq (z1n s len ps)) (.slice (some ⟨w.heap.size,0,none⟩) (z1n s len ps).length len):=by
    refine .seq _ _ len w.heap.size 0 (fun i j=>vs.getD (i*s+j) undef) (fun _=>rfl) (fun _=>⟨h.fresh,by simp⟩) oM0 (by simp only [maxLen];have:len<=len*s:=Nat.le_mul_of_pos_right _ hpos';omega) (fun i el hi j x hj=>?_) fun i el hi j x hj=>?_
    · obtain ⟨h5,h6⟩:=hel i el hi
      obtain ⟨v,h7,_⟩:=h2.2 _ _ (hpg _ _ (h6 j x hj))
      rw [z0w (z0j w _),h5,Nat.zero_add,h7]
      simp [Array.getD_eq_getD_getElem?,h7]
    · obtain ⟨h5,h6⟩:=hel i el hi
      obtain ⟨v,h7,h8⟩:=h2.2 _ _ (hpg _ _ (h6 j x hj))
      simp only [Array.getD_eq_getD_getElem?,h7,Option.getD_some]
      cases h8 with
      | pv _ _ h8=>exact keep _ _ h8
  rwa [hcl] at this
theorem z7n {t e:TypeId} {x:Operand} {lo hi:Option Operand} {els:List (List PV)} {i j s:Nat} {σ:Heap'} (ho:o.op = .slice t x lo hi none) (hx:fr.ev x=some (.pv (.seq els))) (hu:P.underlying t=some (.slice e)) (hs:(P.info? e).map (·.size)=some s)
    (hlo:(lo=none/\i=0)∨∃ y k,lo=some y/\fr.ev y=some (.pv (.val (.int k i)))) (hhi:(hi=none/\j=els.length)∨∃ y k,hi=some y/\fr.ev y=some (.pv (.val (.int k j)))) (hij:i<=j) (hj:j<=els.length) (hw:∀ el∈els,el.length=s) :
    OkV P c R1 o fr σ (.pv (.seq ((els.take j).drop i))):=by
  intro ρ w a h
  have hr:=(h.ev hx).inv_seq
  generalize hv:a.eval x=v at hr
  have hlen:((els.take j).drop i).length=j - i:=by simp;omega
  have hget:∀ q el,((els.take j).drop i)[q]? = some el->els[i+q]? = some el:=fun q el hq=>by
    rw [List.getElem?_drop,List.getElem?_take] at hq
    split at hq
    · exact hq
    · cases hq
  have hund:∀ w,(underlying t).run P w = .ok (.slice e) w:=run_underlying hu
  cases hr with
  | seq _ ad cap b off u ha hb hl hm hc hr =>
    have hsl:∀ w,(Instr.sliceAt t (.slice ad els.length cap) (lo.map a.eval) (hi.map a.eval) none).run P w = .ok (.slice (if cap=i then ad else ad.map (·.add (i*s))) (j - i) (cap - i)) w:=by
      intro w
      have hb':(Instr.sliceBounds true els.length cap (lo.map a.eval) (hi.map a.eval) none).run P w = .ok (i,j,cap) w:=by
        rcases hlo with ⟨rfl,rfl⟩ | ⟨y,k,rfl,hy⟩<;>rcases hhi with ⟨rfl,rfl⟩ | ⟨y',k',rfl,hy'⟩
        · simp [Instr.sliceBounds]
        · have e1:j<=cap:=by omega
          simp [Instr.sliceBounds,Instr.sliceBound,z03 h hy',asIntOf,e1]
        · have e1:i<=els.length:=by omega
          simp [Instr.sliceBounds,Instr.sliceBound,z03 h hy,asIntOf,e1]
        · have e1:j<=cap:=by omega
          simp [Instr.sliceBounds,Instr.sliceBound,z03 h hy,z03 h hy',asIntOf,e1,hij]
      simp only [Instr.sliceAt,Instr.slice,Sem.run_bind,hund,Result.andThen_ok,hb',z06 hs]
      rfl
    refine ⟨_,fun _ _=>by simp only [execOp,ho,hv,Option.map_none,Sem.run_bind,hsl,Result.andThen_ok];rfl,.pv _ _ ?_⟩
    rw [<- hlen]
    refine .seq _ _ (cap - i) b (off+i*s) (fun q r=>u (i+q) r) (fun hne=>?_) (fun hne=>?_) oM0 oM0 (fun q el hq r z hz=>?_) fun q el hq r z hz=>hr (i+q) el (hget q el hq) r z hz
    · have hpos:0<((els.take j).drop i).length:=List.length_pos_iff.2 hne
      have hne':els≠[]:=by intro h0;subst h0;simp at hpos
      rw [if_neg oM0,ha hne']
      simp [Addr.add_mid]
    · have hpos:0<((els.take j).drop i).length:=List.length_pos_iff.2 hne
      have hne':els≠[]:=by intro h0;subst h0;simp at hpos
      exact hb hne'
    · have:=hc (i+q) el (hget q el hq) r z hz
      rw [<- this]
      have hel:=hw el (List.mem_of_getElem? (hget q el hq))
      congr 2
      rw [hel,Nat.add_mul];omega
theorem z7j {t:TypeId} {x y:Operand} {s:ByteArray} {k:IntKind} {m:Int} {i:Nat} {b:UInt8} {σ:Heap'} (ho:o.op = .index t x y) (hx:fr.ev x=some (.pv (.val (.string s)))) (hy:fr.ev y=some (.pv (.val (.int k m)))) (hu:P.underlying t=some .string)
    (hb:s[i]? = some b) (hm:m=i):OkV P c R1 o fr σ (.pv (.val (.int .u8 b.toNat))):=by
  subst hm
  intro ρ w a h
  refine ⟨_,fun w2 _=>?_,z0r _⟩
  simp [execOp,ho,z03 h hx,z03 h hy,Instr.index,Sem.run_bind,asIntOf,run_underlying hu,hb]
theorem z7o {t:TypeId} {x:Operand} {lo hi:Option Operand} {s:ByteArray} {i j:Nat} {σ:Heap'} (ho:o.op = .slice t x lo hi none) (hx:fr.ev x=some (.pv (.val (.string s)))) (hu:P.underlying t=some .string)
    (hlo:(lo=none/\i=0)∨∃ y k,lo=some y/\fr.ev y=some (.pv (.val (.int k i)))) (hhi:(hi=none/\j=s.size)∨∃ y k,hi=some y/\fr.ev y=some (.pv (.val (.int k j)))) (hij:i<=j) (hj:j<=s.size) :
    OkV P c R1 o fr σ (.pv (.val (.string (s.extract i j)))):=by
  intro ρ w a h
  have hund:∀ w,(underlying t).run P w = .ok .string w:=run_underlying hu
  have hb':∀ w,(Instr.sliceBounds false s.size s.size (lo.map a.eval) (hi.map a.eval) none).run P w = .ok (i,j,s.size) w:=by
    intro w
    rcases hlo with ⟨rfl,rfl⟩ | ⟨y,k,rfl,hy⟩<;>rcases hhi with ⟨rfl,rfl⟩ | ⟨y',k',rfl,hy'⟩
    · simp [Instr.sliceBounds]
    · simp [Instr.sliceBounds,Instr.sliceBound,z03 h hy',asIntOf,hj]
    · simp [Instr.sliceBounds,Instr.sliceBound,z03 h hy,asIntOf,hij]
    · simp [Instr.sliceBounds,Instr.sliceBound,z03 h hy,z03 h hy',asIntOf,hj,hij]
  refine ⟨_,fun w2 _=>?_,z0r _⟩
  simp only [execOp,ho,Option.map_none,Instr.sliceAt,Instr.slice,Sem.run_bind,z03 h hx,hund,Result.andThen_ok,Option.isSome_none,Bool.false_eq_true,if_false,hb']
  rfl
end
section
variable {P:Program} {c:Cx} {R1:Nat->Prop} {o:Oper} {fr:Fr} {σ:Heap'} {ops:Array Oper} {Q:Exit->Fr->Heap'->Prop} {fuel:Nat} {listed:Array Bool}
def WA (P:Program) (c:Cx) (R1:Nat->Prop) (ops:Array Oper) (Q:Exit->Fr->Heap'->Prop) (fuel:Nat) (listed:Array Bool) (fr:Fr) (σ:Heap'):Prop :=
  ∀ ρ w a (S:World->Prop),All c ρ σ w fr a->(∀ w',SameFor c.F R1 ρ w w'->S w')->wpAnyH P .any ops (lift c Q) S fuel listed a w
theorem SameFor.trans {F:Nat->Prop} {ρ ρ':Loc} {σ σ':Heap'} {w w' w'':World} (hi:RelH F ρ σ w) (t:Trans F R1 ρ σ w ρ' σ' w') (h:SameFor F R1 ρ' w' w''):SameFor F R1 ρ w w'':=by
  intro b hb hor
  have h1:w'.heap[b]? = w.heap[b]?:=by
    refine t.blk b hb fun k cc hk=>?_
    rcases hor with hn | ⟨k',cc',hR,hk'⟩
    · exact absurd (.inr ⟨k,cc,hk⟩) hn
    · obtain rfl:=hi.inj _ _ _ _ _ hk hk'
      exact hR
  rw [<- h1]
  refine h b (Nat.lt_of_lt_of_le hb t.size) ?_
  rcases hor with hn | ⟨k',cc',hR,hk'⟩
  · exact .inl (owned.keep t hb hn).2
  · by_cases e:owned F ρ' b
    · rcases e with e | ⟨k,cc,hk⟩
      · exact absurd e (hi.apart _ _ _ hk')
      · rcases t.own _ _ _ hk hb with g | ⟨k0,c0,g,gn⟩
        · obtain rfl:=hi.inj _ _ _ _ _ g hk'
          exact .inr ⟨k,cc,hR,hk⟩
        · obtain rfl:=hi.inj _ _ _ _ _ g hk'
          exact absurd hR gn
    · exact .inl e
theorem SameFor.of {F:Nat->Prop} {ρ ρ':Loc} {σ σ':Heap'} {w w':World} (hi:RelH F ρ σ w) (t:Trans F R1 ρ σ w ρ' σ' w'):SameFor F R1 ρ w w':=SameFor.trans hi t (.refl _ _ _ _)
theorem wDn (hr:Region.ready .any ops listed=[]) (h:Q .normal fr σ):WA P c R1 ops Q fuel listed fr σ :=
  fun ρ _ _ _ ha _=>wpAnyH_done hr ⟨ρ,σ,fr,ha,h⟩ fuel
def WI (P:Program) (c:Cx) (R1:Nat->Prop) (ops:Array Oper) (Q:Exit->Fr->Heap'->Prop) (fuel:Nat) (listed:Array Bool) (fr:Fr) (σ:Heap') (i:Nat):Prop :=
  ∀ ρ w a (S:World->Prop),All c ρ σ w fr a->(∀ w',SameFor c.F R1 ρ w w'->S w')->wpOp P ops (lift c Q) i (fun a' w'=>S w'/\wpAnyH P .any ops (lift c Q) S fuel (listed.setIfInBounds i true) a' w') a w
theorem WA.all {rs:List Nat} (hr:Region.ready .any ops listed=rs) (hne:rs≠[]) (h:∀ i∈rs,WI P c R1 ops Q fuel listed fr σ i):WA P c R1 ops Q (fuel+1) listed fr σ :=
  fun ρ w a S ha hS=>wpAnyH_all hr hne fun i hi=>h i hi ρ w a S ha hS
theorem tDr {id:Nat} (hm:P.follows .mixedOrders=true) (R1:Nat->Prop) (h:WA P c R1 ops Q ops.size (Array.replicate ops.size false) fr σ):Tr P c (.region id ops true) fr σ Q :=
  fun ρ w a ha=>wp_region_held (S:=SameFor c.F R1 ρ { w with drawn:=w.drawn+1 }) hm (h ρ _ a _ ha.drew fun _ h=>h)
theorem pn {x:List PanicEntry} (h:Exit.panic x=Exit.normal):False:=by cases h
end
section
variable {P:Program} {c:Cx} {R1:Nat->Prop} {o:Oper} {fr:Fr} {hp:Hp} {ops:Array Oper} {Q:Exit->Fr->Heap'->Prop}
theorem z54 (b:Nat) (w:World):(askRoom b).run P w = .ok () w:=by
  unfold askRoom
  split<;>rfl
theorem z7k {t:TypeId} {x y:Operand} {k n by_:Nat} {s:RT} {z:Value} (ho:o.op = .makeSlice t x y) (hx:fr.ev x=some (.pv (.val (.int .i64 n)))) (hy:fr.ev y=some (.pv (.val (.int .i64 n))))
    (hu:P.underlying t=some (.slice s.e)) (hz:((P.info? s.e).bind (·.zero))=some z) (hi:(P.info? s.e).map (fun i=>(i.size,i.bytes))=some (s.n,by_)) (hzs:z.cells.size=s.n) (hpos:0<s.n) (hn:n<2 ^ 63) (hb:by_*n<=281474976710656)
    (hσ:look hp k=none) (hc:c.σ k=none) (hfr:nmFr k fr=false) (hhp:nmHp k hp=false) :
    Ok P c o fr (look hp) (.sl k n) (look ((k,some (.row s (List.replicate n (z.cells.toList.map .val))))::hp)):=by
  intro ρ w a K Q h hK
  cases hq:P.info? s.e with
  | none=>simp [hq] at hi
  | some i =>
    have hsz:i.size=s.n:=by simp [hq] at hi;exact hi.1
    have hby:i.bytes=by_:=by simp [hq] at hi;exact hi.2
    have hiz:i.zero=some z:=by simpa [hq] using hz
    have hwrap:IntKind.i64.wrap (n:Int)=n:=IntWalk.i64_in _ oM0
    have hlen:((Array.range (n*s.n)).map (z.cells[· % z.cells.size]!)).size=n*s.n:=by simp
    have hrun:(execOp a.eval o).run P w = .ok (.value (.slice (some ⟨w.heap.size,0,none⟩) n n)) (w.alloc (.cells ((Array.range (n*s.n)).map (z.cells[· % z.cells.size]!)) s.e)):=by
      have hnr:∀ r,(newRow s.e r).run P w = .ok ⟨w.heap.size,0,none⟩ (w.alloc (.cells r s.e)):=fun _=>rfl
      have hti:(typeInfo s.e).run P w = .ok i w:=by simp [typeInfo,hq]
      have hso:(sizeOf s.e).run P w = .ok s.n w:=z06 (by simp [hq,hsz]) w
      have hzv:(zeroValue s.e).run P w = .ok z w:=by simp [zeroValue,typeInfo,hq,hiz]
      have h2:(by_:Int)*n<=281474976710656:=by
        have:((by_*n:Nat):Int)<=281474976710656:=by omega
        rwa [Int.natCast_mul] at this
      simp only [execOp,ho,Instr.makeSlice,Sem.run_bind,run_underlying hu,Result.andThen_ok,z03 h hx,z03 h hy,asInt,asIntOf,Sem.run_pure,hti,hwrap,hby]
      rw [if_neg (by simpa using h2)]
      simp only [Sem.run_bind,z54,Result.andThen_ok,hso,Int.toNat_natCast]
      by_cases h0:n*s.n=0
      · rw [if_pos h0]
        simp only [Sem.run_bind,Sem.run_pure,Result.andThen_ok,hnr]
        have e1:∀ f g:Nat->Value,(Array.range (n*s.n)).map f=(Array.range (n*s.n)).map g:=fun f g=>by rw [h0];simp
        rw [e1 _ (z.cells[· % z.cells.size]!)]
      · rw [if_neg h0]
        simp only [Sem.run_bind,Sem.run_pure,Result.andThen_ok,hzv,hnr]
    unfold Oper.wp
    rw [hrun]
    refine hK (z04 ρ k (some (w.heap.size,n))) _ _ (h.alloc hσ hc hfr hhp n _ _ fun _ _=>?_) (.sl _ _ _ fun s' els' h'=>?_)
    · refine .row s _ _ (fun _ j=>z.cells[j]!) (z0j w _) hlen sI0 (by simp only [maxLen];omega) (fun el hel=>?_) (fun i el hi j x hj=>?_) fun i el hi j x hj=>?_
      · rw [List.eq_of_mem_replicate hel];simp [hzs]
      · have hel:=List.eq_of_mem_replicate (List.mem_of_getElem? hi)
        have hin:i<n:=by have:=(List.getElem?_eq_some_iff.1 hi).1;simpa using this
        subst hel
        have hjs:j<s.n:=by have:=(List.getElem?_eq_some_iff.1 hj).1;simp [hzs] at this;exact this
        have hlt:i*s.n+j<n*s.n:=by
          have:(i+1)*s.n<=n*s.n:=Nat.mul_le_mul_right _ oM0
          rw [Nat.add_mul] at this;omega
        simp [hlt,hzs,Nat.mod_eq_of_lt hjs]
      · have hel:=List.eq_of_mem_replicate (List.mem_of_getElem? hi)
        subst hel
        simp only [List.getElem?_map,Option.map_eq_some_iff,Array.getElem?_toList] at hj
        obtain ⟨v,hv,rfl⟩:=hj
        have:z.cells[j]! = v:=by
          have hlt:=(Array.getElem?_eq_some_iff.1 hv).1
          simp [hlt] at hv ⊢
          exact hv
        rw [this]
        exact .val v
    · rw [z0b] at h';cases h'
      exact ⟨by simp,fun _=>.inl ⟨w.heap.size,n,z00,rfl⟩⟩
theorem iRw {t:TypeId} {x y:Operand} {k n i:Nat} {m:Int} {kk:IntKind} {s:RT} {els:List (List PV)} (ho:o.op = .indexAddr t x y) (hx:fr.ev x=some (.sl k n)) (hy:fr.ev y=some (.pv (.val (.int kk m)))) (hk:look hp k=some (.row s els)) (hn:els.length=n)
    (hu:P.underlying t=some (.slice s.e)) (he:(P.info? s.e).map (·.size)=some s.n) (hi:i<n) (hm:m=i):OkV P c R1 o fr (look hp) (.rpt k n (i*s.n)):=by
  subst hm
  intro ρ w a h
  rcases h.row hx hk hn with ⟨b,cc,r,u,hv,hρ,h3,h4,hc,hcm,hwe,hcells,hu'⟩ | ⟨_,_,hnil⟩
  · refine ⟨.pointer (some ⟨b,i*s.n,none⟩),fun w2 _=>?_,.rpt _ _ _ _ fun s' els' h'=>?_⟩
    · simp [execOp,ho,hv,z03 h hy,Instr.indexAt,Sem.run_bind,asIntOf,run_underlying hu,hi,z06 he,Addr.add_mid]
    · rw [hk] at h';cases h'
      exact ⟨by omega,fun _=>⟨b,cc,hρ,rfl⟩⟩
  · subst hnil;simp at hn;omega
theorem All.rpt {ρ:Loc} {w:World} {a:Act} (h:All c ρ (look hp) w fr a) {x:Operand} {k n off:Nat} {s:RT} {els:List (List PV)} (hx:fr.ev x=some (.rpt k n off)) (hk:look hp k=some (.row s els)) (hn:els.length=n) :
    ∃ (b cc:Nat) (r:Array Value) (u:Nat->Nat->Value),a.eval x = .pointer (some ⟨b,off,none⟩) /\ ρ k=some (b,cc)/\w.heap[b]? = some (.cells r s.e (0,0))/\r.size=cc*s.n/\n<=cc/\cc<=maxLen/\(∀ el∈els,el.length=s.n) /\
      (∀ i el,els[i]? = some el->∀ j x,el[j]? = some x->r[i*s.n+j]? = some (u i j))/\∀ i el,els[i]? = some el->∀ j x,el[j]? = some x->RepP (owned c.F ρ) w x (u i j):=by
  have hr:=h.ev hx
  generalize hv:a.eval x=v at hr
  cases hr with
  | rpt _ _ _ _ hh =>
    obtain ⟨b,cc,hρ,rfl⟩:=(hh s els hk).2 hn
    obtain ⟨o1,h1,h2⟩:=h.rel.obj k b cc hρ
    rw [hk] at h1;cases h1
    cases h2 with
    | row _ _ r u h3 h4 h5 h6 h7 h8 h9=>exact ⟨b,cc,r,u,rfl,hρ,h3,h4,hn ▸ h5,h6,h7,h8,h9⟩
theorem lRw {t:TypeId} {x:Operand} {d:TypeDesc} {k n i j off:Nat} {s:RT} {els:List (List PV)} {el:List PV} {z:PV} (ho:o.op = .load t x) (hx:fr.ev x=some (.rpt k n off)) (hk:look hp k=some (.row s els)) (hn:els.length=n)
    (hoff:off=i*s.n+j) (hi:els[i]? = some el) (hj:el[j]? = some z) (hu:P.underlying t=some d) (hd:d.isRow=false) (hR1:R1 k):OkV P c R1 o fr (look hp) (.pv z):=by
  intro ρ w a h
  obtain ⟨b,cc,r,u,hv,hρ,h3,h4,hc,hcm,hwe,hcells,hu'⟩:=h.rpt hx hk hn
  refine ⟨u i j,fun w2 h2=>?_,.pv _ _ (hu' i el hi j z hj)⟩
  have h3':w2.heap[b]? = some (.cells r s.e (0,0)):=(h2 b (h.rel.lt hρ) (.inr ⟨k,cc,hR1,hρ⟩)).trans h3
  subst hoff
  simp [execOp,ho,hv,Instr.loadAt,Instr.sureAddr,loadVar,Sem.run_bind,z3g hu,hd,run_load,z0w h3',hcells i el hi j z hj]
theorem z7p {t:TypeId} {x y:Operand} {k n i j off:Nat} {s:RT} {els:List (List PV)} {el:List PV} {z:PV} (ho:o.op = .store t x y) (hx:fr.ev x=some (.rpt k n off)) (hy:fr.ev y=some (.pv z)) (hk:look hp k=some (.row s els)) (hn:els.length=n)
    (hoff:off=i*s.n+j) (hi:els[i]? = some el) (hj:j<el.length) (hs:(P.info? t).map (·.size)=some 1) (hz:z.one=true) (hR:¬ c.R k) :
    Ok P c o fr (look hp) (.pv (.val undef)) (look ((k,some (.row s (els.set i (el.set j z))))::hp)):=by
  refine z4z fun ρ w a h=>?_
  obtain ⟨b,cc,r,u,hv,hρ,h3,h4,hc,hcm,hwe,hcells,hu'⟩:=h.rpt hx hk hn
  have hyv:=h.ev hy
  have h1:=hyv.one (σ:=look hp) hz
  generalize hvy:a.eval y=vy at hyv h1
  have hin:i<els.length:=(List.getElem?_eq_some_iff.1 hi).1
  have hel:el.length=s.n:=hwe el (List.mem_of_getElem? hi)
  have hlt:off<r.size:=by
    have:(i+1)*s.n<=cc*s.n:=Nat.mul_le_mul_right _ oM0
    rw [Nat.add_mul] at this;omega
  have hst:(storeVar t ⟨b,off,none⟩ vy).run P w = .ok () (w.setRow b (r.setIfInBounds off vy)):=by
    have hcells:vy.cells = #[vy]:=by cases vy<;>first | rfl | cases h1
    have:=run_storeCells_at P b off s.e [vy] 0 r w h3 (by simp;omega) (by simpa using h1)
    simp [storeVar,hcells,Sem.run_bind,z06 hs,this]
    congr 1
    apply Array.ext'
    simp only [Array.toList_setIfInBounds]
    rw [List.set_eq_take_append_cons_drop,if_pos (by simp;omega)]
  refine ⟨ρ,w.setRow b (r.setIfInBounds off vy),by simp [execOp,ho,hv,hvy,Instr.storeAt,Instr.sureAddr,hst],?_⟩
  refine h.write hρ hk ⟨rfl,by simp⟩ hR rfl rfl rfl sI0 (fun j hj=>setRow_other w b j _ hj) fun _ keep=>?_
  have hz':RepP (owned c.F ρ) w z vy:=by cases hyv;assumption
  refine .row s _ (r.setIfInBounds off vy) (fun i' j'=>if i'=i/\j'=j then vy else u i' j') (setRow_heap w b r _ s.e _ h3) (by simp [h4]) (by simp;omega) hcm (fun el' hel'=>?_) (fun i' el' hi' j' x hj'=>?_) fun i' el' hi' j' x hj'=>?_
  · rcases List.mem_or_eq_of_mem_set hel' with h5 | rfl
    · exact hwe _ h5
    · simpa using hel
  · by_cases e1:i'=i
    · subst e1
      rw [List.getElem?_set_self hin] at hi'
      cases hi'
      by_cases e2:j'=j
      · subst e2
        simp only [and_self,if_true,<- hoff]
        simp [hlt]
      · rw [List.getElem?_set_ne (Ne.symm e2)] at hj'
        have:=hcells i' el hi j' x hj'
        rw [if_neg (by simp [e2]),Array.getElem?_setIfInBounds,if_neg oM0,this]
    · rw [List.getElem?_set_ne (Ne.symm e1)] at hi'
      have:=hcells i' el' hi' j' x hj'
      have hl':=hwe _ (List.mem_of_getElem? hi')
      have hj'':j'<el'.length:=(List.getElem?_eq_some_iff.1 hj').1
      rw [if_neg (by simp [e1]),Array.getElem?_setIfInBounds,if_neg ?_,this]
      intro e3
      have hsn:0<s.n:=by omega
      have h6:(i*s.n+j) / s.n=i:=by rw [Nat.add_comm,Nat.add_mul_div_right _ _ hsn,Nat.div_eq_of_lt oM0,Nat.zero_add]
      have h7:(i'*s.n+j') / s.n=i':=by rw [Nat.add_comm,Nat.add_mul_div_right _ _ hsn,Nat.div_eq_of_lt oM0,Nat.zero_add]
      rw [<- hoff,e3,h7] at h6
      exact e1 h6
  · by_cases e1:i'=i
    · subst e1
      rw [List.getElem?_set_self hin] at hi'
      cases hi'
      by_cases e2:j'=j
      · subst e2
        rw [List.getElem?_set_self hj] at hj'
        cases hj'
        rw [if_pos ⟨rfl,rfl⟩];exact keep _ _ hz'
      · rw [List.getElem?_set_ne (Ne.symm e2)] at hj'
        rw [if_neg (by simp [e2])];exact keep _ _ (hu' _ _ hi _ _ hj')
    · rw [List.getElem?_set_ne (Ne.symm e1)] at hi'
      rw [if_neg (by simp [e1])];exact keep _ _ (hu' _ _ hi' _ _ hj')
theorem z8q {f:Fn} {xs ys:Array Operand} {us vs:List IV} {σ:Heap'} (ho:o.op = .makeFunc f xs ys) (hx:evs fr xs.toList=some us) (hy:evs fr ys.toList=some vs):OkV P c R1 o fr σ (.fn f us vs):=by
  intro ρ w a h
  obtain ⟨l1,r1⟩:=z4k h hx
  obtain ⟨l2,r2⟩:=z4k h hy
  refine ⟨.func f (xs.map a.eval) (ys.map a.eval),fun w2 _=>by simp [execOp,ho,Instr.makeFunc],.fn _ _ _ _ _ (fun j=>(xs.map a.eval).getD j undef) (fun j=>(ys.map a.eval).getD j undef) (by simpa using l1.symm) (fun j x hj=>?_) (fun j x hj=>?_) (by simpa using l2.symm) (fun j x hj=>?_) fun j x hj=>?_⟩
  · obtain ⟨v,hv,_⟩:=r1 j x hj
    have:(xs.map a.eval)[j]? = some v:=by rw [<- Array.getElem?_toList];simpa using hv
    simp only [Array.getD_eq_getD_getElem?,this,Option.getD_some]
  · obtain ⟨v,hv,hr⟩:=r1 j x hj
    have:(xs.map a.eval)[j]? = some v:=by rw [<- Array.getElem?_toList];simpa using hv
    simp only [Array.getD_eq_getD_getElem?,this,Option.getD_some]
    exact hr
  · obtain ⟨v,hv,_⟩:=r2 j x hj
    have:(ys.map a.eval)[j]? = some v:=by rw [<- Array.getElem?_toList];simpa using hv
    simp only [Array.getD_eq_getD_getElem?,this,Option.getD_some]
  · obtain ⟨v,hv,hr⟩:=r2 j x hj
    have:(ys.map a.eval)[j]? = some v:=by rw [<- Array.getElem?_toList];simpa using hv
    simp only [Array.getD_eq_getD_getElem?,this,Option.getD_some]
    exact hr
theorem z52 {F:Nat->Prop} {ρ:Loc} {σ:Heap'} {w:World} {xs ys:List IV} {vs ws:List Value} (h:RepL F ρ σ w xs vs) (h':RepL F ρ σ w ys ws):RepL F ρ σ w (xs++ys) (vs++ws):=by
  refine ⟨by simp [h.1,h'.1],fun j x hj=>?_⟩
  by_cases e:j<xs.length
  · rw [List.getElem?_append_left e] at hj
    obtain ⟨v,hv,hr⟩:=h.2 j x hj
    exact ⟨v,by rw [List.getElem?_append_left (by have:=h.1;omega)];exact hv,hr⟩
  · rw [List.getElem?_append_right oM0] at hj
    obtain ⟨v,hv,hr⟩:=h'.2 _ x hj
    exact ⟨v,by rw [List.getElem?_append_right (by have:=h.1;omega),<- h.1];exact hv,hr⟩
theorem ok_callv {f:FuncId} {q:Operand} {os:Array Operand} {tys:Array TypeId} {us ws xs args:List IV} {pre post:List (Nat × HO)} {R:Nat->Prop} {r:IV} (hsc:SC P f args pre R r post) (hf:z4j P f)
    (ho:o.op = .call { callee:=.value q,args:=os,argTypes:=tys }) (hq:fr.ev q=some (.fn (.func f) us ws)) (hx:evs fr os.toList=some xs) (hs:Subs (look hp) (us++xs++ws) args) (hpre:∀ k o,look (up pre) k=some o->look hp k=some o) (hdom:pre.map (·.1)=post.map (·.1))
    (hR:∀ k,c.R k->R k) (hr:only (post.map (·.1)) r=true) (hpost:z2f (post.map (·.1)) post=true):Ok P c o fr (look hp) r (look (up post++hp)):=by
  intro ρ w a K Q h hK
  obtain ⟨fn,hfn,hname,hbody⟩:=hf
  have hqr:=h.ev hq
  generalize hqv:a.eval q=v at hqr
  cases hqr with
  | fn _ _ _ va wa u t hl hv hr1 hl' hv' hr1' =>
    have h1:RepL c.F ρ (look hp) w us va.toList:=⟨by simp [hl],fun j x hj=>⟨u j,by simpa using hv j x hj,hr1 j x hj⟩⟩
    have h2:RepL c.F ρ (look hp) w ws wa.toList:=⟨by simp [hl'],fun j x hj=>⟨t j,by simpa using hv' j x hj,hr1' j x hj⟩⟩
    have hargs:=hs _ _ _ _ (z52 (z52 h1 (z4k h hx)) h2)
    have hrun:(execOp a.eval o).run P w = .ok (.enter f (va.toList++os.toList.map a.eval++wa.toList).toArray) w:=by
      have hcall:(callFunc f (va.toList++os.toList.map a.eval++wa.toList).toArray).run P w = .ok (.enter f (va.toList++os.toList.map a.eval++wa.toList).toArray) w:=by
        unfold callFunc
        simp only [Sem.run_bind]
        show (Result.andThen (.ok P w) _)=_
        simp only [Result.andThen_ok,hfn,hname,hbody]
        rfl
      simp only [execOp,ho,resolve,hqv,Deferred.ofValue,Sem.run_bind,Sem.run_pure,Result.andThen_ok,invoke]
      rw [<- hcall]
      congr 2
      apply Array.ext'
      simp
    unfold Oper.wp
    rw [hrun,Oper.upon_enter]
    refine (hsc.step h hargs hpre hdom (fun k h=>.inr (hR k h)) hr hpost).mono ?_
    rintro e w' ⟨ρ',v,rfl,h1,h2⟩
    exact hK ρ' w' v h1 h2
end
section
variable {P:Program} {c:Cx} {R1:Nat->Prop} {o:Oper} {fr:Fr} {hp:Hp}
theorem z07 {m n z:Int} (h:m+n=z) (h1:-9223372036854775808<=z/\z<=9223372036854775807):z1t .add .i64 m n=some (.int .i64 z):=by
  subst h;simp only [z1t];rw [IntWalk.i64_in _ h1]
theorem z6d {m n z:Int} (h:m - n=z) (h1:-9223372036854775808<=z/\z<=9223372036854775807):z1t .sub .i64 m n=some (.int .i64 z):=by
  subst h;simp only [z1t];rw [IntWalk.i64_in _ h1]
theorem z8g {k:Nat} {o o2:Option HO} {hp:Hp}:look ((k,o)::(k,o2)::hp)=look ((k,o)::hp):=by
  funext j
  simp only [look]
  cases Nat.beq k j<;>rfl
theorem Subs.cons {σ:Heap'} {x y:IV} {xs ys:List IV} (h:∀ F ρ w v,RepI F ρ σ w x v->RepI F ρ σ w y v) (hs:Subs σ xs ys):Subs σ (x::xs) (y::ys):=by
  intro F ρ w vs hv
  match vs with
  | []=>have:=hv.1;simp at this
  | v::vs =>
    have ht:=hs F ρ w vs ⟨by have:=hv.1;simpa using this,fun j z hj=>hv.2 (j+1) z (by simpa using hj)⟩
    refine ⟨by have:=hv.1;have:=ht.1;simp;omega,fun j z hj=>?_⟩
    cases j with
    | zero=>cases hj;obtain ⟨u,hu,hr⟩:=hv.2 0 x rfl;exact ⟨u,hu,h _ _ _ _ hr⟩
    | succ j=>exact ht.2 j z (by simpa using hj)
theorem ok_box {t:TypeId} {x:Operand} {ps:List PV} {σ:Heap'} (ho:o.op = .box t x) (hx:fr.ev x=some (.pv (.agg ps))):Ok P c o fr σ (.pv (.ept ps 0)) σ:=by
  intro ρ w a K Q h hK
  have hr:=h.ev hx
  generalize hv:a.eval x=v at hr
  cases hr with
  | pv _ _ hr =>
    cases hr with
    | agg _ vs u hl hv' hr =>
      have hrun:(execOp a.eval o).run P w = .ok (.value (.pointer (some ⟨w.heap.size,0,none⟩))) (w.alloc (.cells vs t)):=by
        have hn:(newVar t (.agg vs)).run P w = .ok ⟨w.heap.size,0,none⟩ (w.alloc (.cells vs t)):=rfl
        simp only [execOp,ho,hv,Instr.box,Sem.run_bind,hn,Result.andThen_ok]
        rfl
      unfold Oper.wp
      rw [hrun]
      obtain ⟨h3,keep⟩:=h.push (.cells vs t)
      refine hK ρ _ _ h3 (.pv _ _ (.ept ps 0 w.heap.size 0 u ⟨h.fresh,by simp⟩ (fun j z hj=>?_) fun j z hj=>keep _ _ (hr j z hj)))
      rw [z0w (z0j w _),Nat.zero_add]
      exact hv' j z hj
theorem All.freezeBox {ρ:Loc} {w:World} {a:Act} {k t:Nat} {cs:List IV} {ps:List PV} (h:All c ρ (look hp) w fr a) (ht:fr.get t=some (.ptr k 0)) (hk:look hp k=some (.box cs)) (hps:z1j cs=some ps) :
    All c (z04 ρ k none) (look ((k,none)::hp)) w ((t,.pv (.ept ps 0))::fr) a:=by
  have h':=h.drop (k:=k)
  obtain ⟨b,cc,e,r,u,hv,hρ,h3,h4,h5,h6⟩:=h.box (x:=.tmp t) ht hk
  obtain ⟨hl,hg⟩:=z1x hps
  have hown:∀ b,owned c.F (z04 ρ k none) b->owned c.F ρ b:=fun b hb=>by
    rcases hb with hb | ⟨j,cc,hj⟩
    · exact .inl hb
    · by_cases e:j=k
      · subst e;rw [z00] at hj;cases hj
      · rw [z0i (Ne.symm e)] at hj;exact .inr ⟨j,cc,hj⟩
  refine ⟨h'.rel,fun t' z hz=>?_,h'.tr,h'.df,h'.sz,h.kk⟩
  simp only [Fr.get] at hz
  cases hb:Nat.beq t t' with
  | true =>
    rw [hb] at hz;cases hz
    obtain rfl:=Nat.eq_of_beq_eq_true hb
    obtain ⟨v,hv',_⟩:=h.fr t _ ht
    have:v = .pointer (some ⟨b,0,none⟩):=by rw [<- hv];simp [Act.eval,hv']
    subst this
    refine ⟨_,hv',.pv _ _ (.ept ps 0 b 0 u ⟨fun ho=>?_,h.rel.lt hρ⟩ (fun j z hj=>?_) fun j z hj=>?_)⟩
    · rcases ho with ho | ⟨j,cc',hj⟩
      · exact h.rel.apart _ _ _ hρ ho
      · by_cases e:j=k
        · subst e;rw [z00] at hj;cases hj
        · rw [z0i (Ne.symm e)] at hj;exact e (h.rel.inj _ _ _ _ _ hj hρ)
    · rw [z0w h3,Nat.zero_add];exact h5 j _ (hg j z hj)
    · have:=h6 j _ (hg j z hj)
      cases this with
      | pv _ _ hr=>exact hr.own hown
  | false=>rw [hb] at hz;exact h'.fr t' z hz
theorem Tr.freezeBox {x:Code} {Q:Exit->Fr->Heap'->Prop} {k t:Nat} {cs:List IV} {ps:List PV} (ht:fr.get t=some (.ptr k 0)) (hk:look hp k=some (.box cs)) (hps:z1j cs=some ps)
    (h:Tr P c x ((t,.pv (.ept ps 0))::fr) (look ((k,none)::hp)) Q):Tr P c x fr (look hp) Q:=fun _ w a ha=>h _ w a (ha.freezeBox ht hk hps)
theorem All.lenOf {ρ:Loc} {σ:Heap'} {w:World} {a:Act} {t:Nat} {els:List (List PV)} (h:All c ρ σ w fr a) (ht:fr.get t=some (.pv (.seq els))):els.length<=9223372036854775807:=by
  obtain ⟨v,_,hr⟩:=h.fr t _ ht
  cases hr with
  | pv _ _ hr =>
    cases hr with
    | seq _ _ cap _ _ _ _ _ hl hm=>simp only [maxLen] at hm;omega
theorem Tr.lenOf {x:Code} {σ:Heap'} {Q:Exit->Fr->Heap'->Prop} {t:Nat} {els:List (List PV)} (ht:fr.get t=some (.pv (.seq els))) (h:els.length<=9223372036854775807->Tr P c x fr σ Q):Tr P c x fr σ Q:=fun ρ w a ha=>h (ha.lenOf ht) ρ w a ha
theorem All.rowLen {ρ:Loc} {w:World} {a:Act} {t k n:Nat} {s:RT} {els:List (List PV)} (h:All c ρ (look hp) w fr a) (ht:fr.get t=some (.sl k n)) (hk:look hp k=some (.row s els)) (hn:els.length=n):n<=9223372036854775807:=by
  rcases h.row (x:=.tmp t) ht hk hn with ⟨b,cc,r,u,_,_,_,_,hc,hcm,_⟩ | ⟨_,_,hnil⟩
  · simp only [maxLen] at hcm;omega
  · subst hnil;simp at hn;omega
theorem Tr.rowLen {x:Code} {Q:Exit->Fr->Heap'->Prop} {t k n:Nat} {s:RT} {els:List (List PV)} (ht:fr.get t=some (.sl k n)) (hk:look hp k=some (.row s els)) (hn:els.length=n) (h:n<=9223372036854775807->Tr P c x fr (look hp) Q):Tr P c x fr (look hp) Q:=fun ρ w a ha=>h (ha.rowLen ht hk hn) ρ w a ha
theorem nCk {x:Operand} {k off:Nat} {cs:List IV} (ho:o.op = .nilCheck x) (hx:fr.ev x=some (.ptr k off)) (hk:look hp k=some (.box cs)):OkV P c R1 o fr (look hp) (.ptr k off):=by
  intro ρ w a h
  obtain ⟨b,cc,e,r,u,hv,hρ,h3,h4,h5,h6⟩:=h.box hx hk
  exact ⟨.pointer (some ⟨b,off,none⟩),fun w2 _=>by simp [execOp,ho,hv],.ptr _ _ _ fun cs' _=>⟨b,cc,hρ,rfl⟩⟩
theorem z4x {x:Operand} {cs:List PV} {off:Nat} {σ:Heap'} (ho:o.op = .nilCheck x) (hx:fr.ev x=some (.pv (.ept cs off))):OkV P c R1 o fr σ (.pv (.ept cs off)):=by
  intro ρ w a h
  have hr:=h.ev hx
  have hr':=hr.inv_ept
  generalize hv:a.eval x=v at hr hr'
  cases hr' with
  | ept _ _ b o' u hb hc hr1=>exact ⟨_,fun w2 _=>by simp [execOp,ho,hv],hr⟩
abbrev vInt (n:Int):PV:=.val (.int .i64 n)
abbrev vBool (b:Bool):PV:=.val (.bool b)
abbrev iInt (n:Int):IV:=.pv (vInt n)
abbrev iBool (b:Bool):IV:=.pv (vBool b)
def eInt (n:Int):List PV:=[vInt n]
def ints (l:List Int):PV:=.seq (l.map eInt)
theorem z0c {α:Type} {f:α -> List PV} {l:List α} {i:Nat} {a:α} (h:l[i]? = some a):(l.map f)[i]? = some (f a):=by simp [h]
inductive Nd where
  | mk (kind op n:Int) (name:ByteArray) (args outs params:List Int) (kids:List (List Nd))
structure Fl where
  name:ByteArray
  ty:Int
  params:Int
  types:List Int
  body:List Nd
structure Ar where
  name:ByteArray
  size:Int
structure Un where
  arrays:List Ar
  flows:List Fl
def PSub (p q:PV):Prop:=∀ own w v,RepP own w p v->RepP own w q v
theorem PSub.nil:PSub (.val (.slice none 0 0)) (.seq []):=by
  intro own w v h
  cases h
  exact .seq [] none 0 0 0 (fun _ _=>undef) sI0 sI0 sI0 (by simp [maxLen]) sI0 sI0
theorem sub_pv {F:Nat->Prop} {ρ:Loc} {σ:Heap'} {w:World} {v:Value} {p q:PV} (h:PSub p q) (hv:RepI F ρ σ w (.pv p) v):RepI F ρ σ w (.pv q) v:=by
  cases hv with
  | pv _ _ hp=>exact .pv _ _ (h _ _ _ hp)
end
abbrev OT:=List (Int × Int)
def oGet (k:Int):OT->Option Int
  | []=>none
  | (a,b)::r=>if k=a then some b else oGet k r
def oPut (k v:Int):OT->OT
  | []=>[(k,v)]
  | (a,b)::r=>if k=a then (k,v)::r else (a,b)::oPut k v r
def oDel (k:Int):OT->OT
  | []=>[]
  | (a,b)::r=>if k=a then r else (a,b)::oDel k r
def aN (k:Int) (l:OT):Int:=(oGet k l).getD 0
theorem z9b (j k v:Int):∀ es:OT,oGet j (oPut k v es)=if j=k then some v else oGet j es
  | []=>by simp [oPut,oGet]
  | (a,b)::r=>by
    have ih:=z9b j k v r
    unfold oPut
    by_cases h:k=a
    · subst h
      rw [if_pos rfl]
      unfold oGet
      by_cases h2:j=k
      · rw [if_pos h2,if_pos h2]
      · rw [if_neg h2,if_neg h2,if_neg h2]
    · rw [if_neg h]
      unfold oGet
      rw [ih]
      by_cases h2:j=a
      · subst h2
        rw [if_pos rfl,if_neg (fun e=>h e.symm),if_pos rfl]
      · rw [if_neg h2,if_neg h2]
theorem z6y (j k v:Int) (es:OT):aN j (oPut k v es)=if j=k then v else aN j es:=by
  unfold aN
  rw [z9b]
  split<;>rfl
structure Od where
  fr:OT
  ask:OT
  rdy:List Int
  jk:List Int
  out:OT
def insI (x:Int):List Int->List Int
  | []=>[x]
  | a::r=>if x<=a then x::a::r else a::insI x r
def z3t:List Int->List Int
  | []=>[]
  | a::r=>insI a (z3t r)
def z0y (l:OT):List Int:=l.map (·.1)
def minI:List Int->Int
  | []=>0
  | [a]=>a
  | a::r=>min a (minI r)
def z3q (s:Od) (x:Int):Od:={ s with rdy:=s.rdy++[x],jk:=s.jk.drop 1 }
def z5w (s:Od) (t:Int):Od :=
  let f:=aN t s.fr
  let s1:Od:={ s with fr:=oDel t s.fr,out:=s.out++[(t,f)],ask:=oPut f (aN f s.ask - 1) s.ask }
  if (oGet f s1.fr).isSome&&aN f s1.ask==0 then z3q s1 f else s1
def smI (n:Int):Bool:=decide (-1000<=n)&&decide (n<=1000)
def odGd (s:Od):Bool:=(decide (s.rdy.length+s.jk.length<=1000)&&decide (s.out.length<=1000))&&(decide (s.fr.length<=1000)&&s.fr.all fun e=>smI e.1)
def odAt (s:Od) (t:Int):Bool:=odGd s&&smI (aN (aN t s.fr) s.ask)
def z1f:Nat->Od->Option Od
  | 0,_=>none
  | N+1,s=>match s.rdy.reverse with
    | []=>some s
    | t::r=>if odAt s t then z1f N (z5w { s with rdy:=r.reverse,jk:=t::s.jk } t) else none
def z1s (ks:List Int) (t spare:Int) (fr:OT):OT:=ks.foldl (fun fr k=>if aN k fr==t then oPut k spare fr else fr) fr
def z5y (s:Od) (t spare:Int):Od:=z3q { s with out:=s.out++[(spare,t)],fr:=z1s (z3t (z0y s.fr)) t spare s.fr,ask:=oPut t 0 s.ask } t
def z3e:Nat->Int->Od->Option Od
  | 0,_,_=>none
  | N+1,spare,s=>if s.fr.isEmpty then some s else if odGd s then (match z1f 64 (z5y s (minI (z0y s.fr)) spare) with
    | none=>none
    | some s2=>z3e N spare s2) else none
def odIn (spare:Int):OT->OT->Option OT
  | [],fr=>some fr
  | (t,f)::r,fr=>if (oGet t fr).isSome||t==spare||f==spare then none else odIn spare r (oPut t f fr)
def z2y (l:OT):OT:=l.foldl (fun a e=>if e.1==e.2 then a else oPut e.2 (aN e.2 a+1) a) []
def z3d (l:OT):OT:=l.filter fun e=>!(e.1==e.2)
def z2z (fr ask:OT):Od:=((z3t (z0y fr)).filter fun k=>aN k ask==0).foldl z3q ⟨fr,ask,[],[],[]⟩
def odEnd (spare:Int) (fr ask:OT):Option Od:=(z1f 64 (z2z fr ask)).bind (z3e 64 spare)
def z5s (l:OT) (spare:Int):Option (OT × Int):=if decide (l.length<=100)&&l.all fun e=>smI e.1 then (match odIn spare l [] with
  | none=>some ([],1)
  | some fr=>(odEnd spare (z3d fr) (z2y fr)).map fun s=>(s.out,0)) else none
def z4r (spare:Int):OT->OT->Bool
  | _,[]=>true
  | d,(t,f)::r=>!(t==spare||f==spare) && !(d.any fun e=>e.1==t)&&z4r spare (d++[(t,f)]) r
def z45 (l:OT) (p:Int):Int:=(oGet p l).getD p
def z2x:OT->Int->Int
  | [],p=>p
  | (t,f)::r,p=>if t==p then z2x r f else z2x r p
def oSrc (l:OT) (p:Int):Int:=z2x l.reverse p
def z78 (out l:OT) (spare:Int):Bool:=(out.all fun e=>e.1==spare||oSrc out e.1==z45 l e.1)&&l.all fun e=>oSrc out e.1==e.2
def z3c (l:OT) (t:Int):Nat->Bool->Int->Bool × Int
  | 0,b,p=>(b,p)
  | N+1,b,p=>if p==t then (b,p) else z3c l t N (b&&decide (p > t)) (z45 l p)
def z1r (l:OT) (e:Int × Int):Int:=if e.1==e.2 then 0 else (let r:=z3c l e.1 l.length true e.2;if r.2==e.1&&r.1 then 2 else 1)
def z3y (l:OT):Int:=(l.map (z1r l)).foldl (· + ·) 0
def oFine (l:OT) (spare:Int):Bool:=match z5s l spare with
  | none=>false
  | some (m,e)=>if !z4r spare [] l then e==1&&m.length==0 else e==0&&(m.length:Int)==z3y l&&z78 m l spare
def zc2 (n:Nat) (back:Bool) (many:Nat):OT:=((List.range n).map fun (i:Nat)=>if back then (((i+1:Nat):Int),(i:Int)) else ((i:Int),((i+1:Nat):Int)))++(List.range many).map fun (i:Nat)=>(((20+i:Nat):Int),(n:Int))
set_option maxRecDepth 100000
theorem z89:∀ n,n<8->∀ b:Bool,∀ m,m<5->oFine (zc2 n b m) 50=true:=by decide +kernel
structure OdR (s s':Od):Prop where
  fr:s.fr=s'.fr
  rdy:s.rdy=s'.rdy
  jk:s.jk=s'.jk
  out:s.out=s'.out
  ask:∀ k,aN k s.ask=aN k s'.ask
theorem z8k {s s':Od} (h:OdR s s') (x:Int):OdR (z3q s x) (z3q s' x):=⟨h.fr,by simp only [z3q,h.rdy],by simp only [z3q,h.jk],h.out,h.ask⟩
theorem odDone_R {s s':Od} (h:OdR s s') (t:Int):OdR (z5w s t) (z5w s' t):=by
  obtain ⟨fr,ask,rdy,jk,out⟩:=s
  obtain ⟨fr',ask',rdy',jk',out'⟩:=s'
  obtain ⟨h1,h2,h3,h4,h5⟩:=h
  dsimp only at h1 h2 h3 h4 h5
  subst h1 h2 h3 h4
  unfold z5w
  dsimp only
  have h6:∀ k,aN k (oPut (aN t fr) (aN (aN t fr) ask - 1) ask)=aN k (oPut (aN t fr) (aN (aN t fr) ask' - 1) ask'):=fun k=>by
    rw [z6y,z6y,h5,h5]
  rw [h6]
  split
  · apply z8k
    exact ⟨rfl,rfl,rfl,rfl,h6⟩
  · exact ⟨rfl,rfl,rfl,rfl,h6⟩
theorem z4s:∀ (N:Nat) {s s' r:Od},OdR s s'->z1f N s=some r->∃ r',z1f N s'=some r'/\OdR r r'
  | 0,_,_,_,_,h=>by cases h
  | N+1,s,s',r,hR,h=>by
    unfold z1f at h ⊢
    rw [<- hR.rdy]
    split at h
    · cases h;exact ⟨_,rfl,hR⟩
    · rename_i t q _
      have e:odAt s' t=odAt s t:=by unfold odAt odGd;rw [hR.rdy,hR.jk,hR.out,hR.fr,hR.ask]
      rw [e]
      split at h
      · rename_i c
        rw [if_pos c]
        refine z4s N (odDone_R ?_ t) h
        exact ⟨hR.fr,rfl,congrArg (t :: ·) hR.jk,hR.out,hR.ask⟩
      · cases h
theorem odRing_R {s s':Od} (h:OdR s s') (t spare:Int):OdR (z5y s t spare) (z5y s' t spare):=by
  unfold z5y
  apply z8k
  refine ⟨?_,h.rdy,h.jk,?_,fun k=>?_⟩
  · dsimp only;rw [h.fr]
  · dsimp only;rw [h.out]
  · dsimp only;rw [z6y,z6y,h.ask]
theorem z9d (spare:Int):∀ (N:Nat) {s s' r:Od},OdR s s'->z3e N spare s=some r->∃ r',z3e N spare s'=some r'/\OdR r r'
  | 0,_,_,_,_,h=>by cases h
  | N+1,s,s',r,hR,h=>by
    unfold z3e at h ⊢
    rw [<- hR.fr]
    split
    · rename_i c
      rw [if_pos c] at h
      cases h;exact ⟨_,rfl,hR⟩
    · rename_i c
      rw [if_neg c] at h
      have e:odGd s'=odGd s:=by unfold odGd;rw [hR.rdy,hR.jk,hR.out,hR.fr]
      rw [e]
      split at h
      rotate_left
      · cases h
      rename_i c2
      rw [if_pos c2]
      split at h
      · cases h
      · rename_i s2 h2
        obtain ⟨r2,h3,h4⟩:=z4s 64 (odRing_R hR (minI (z0y s.fr)) spare) h2
        rw [h3]
        exact z9d spare N h4 h
theorem fold_R:∀ (l:List Int) {s s':Od},OdR s s'->OdR (l.foldl z3q s) (l.foldl z3q s')
  | [],_,_,h=>h
  | x::r,_,_,h=>fold_R r (z8k h x)
theorem ze2 {fr a a':OT} (h:∀ k,aN k a=aN k a'):OdR (z2z fr a) (z2z fr a'):=by
  unfold z2z
  rw [show (fun k=>aN k a==0)=fun k=>aN k a'==0 from funext fun k=>by rw [h]]
  exact fold_R _ ⟨rfl,rfl,rfl,rfl,h⟩
theorem odEnd_R {spare:Int} {fr a a':OT} {r:Od} (h:∀ k,aN k a=aN k a') (hr:odEnd spare fr a=some r):∃ d r',z1f 64 (z2z fr a')=some d/\z3e 64 spare d=some r'/\r'.out=r.out:=by
  unfold odEnd at hr
  obtain ⟨d,h1,h2⟩:=Option.bind_eq_some_iff.1 hr
  obtain ⟨d',h3,h4⟩:=z4s 64 (ze2 (fr:=fr) h) h1
  obtain ⟨r',h5,h6⟩:=z9d spare 64 h4 h2
  exact ⟨d',r',h3,h5,h6.out.symm⟩
def asks (k:Int) (l:OT):Int:=((l.filter fun e=>!(e.1==e.2)&&e.2==k).length:Nat)
theorem zb8 (k:Int) (e:Int × Int) (l:OT):asks k (e::l)=asks k l+if !(e.1==e.2)&&e.2==k then 1 else 0:=by
  unfold asks
  rw [List.filter_cons]
  split
  · simp
  · simp
theorem askF (k:Int):∀ (l a:OT),aN k (l.foldl (fun a e=>if e.1==e.2 then a else oPut e.2 (aN e.2 a+1) a) a)=aN k a+asks k l
  | [],a=>by simp [asks]
  | e::r,a=>by
    rw [List.foldl_cons,askF k r,zb8]
    split
    · rename_i c;rw [c];simp
    · rename_i c
      rw [z6y,show (e.1==e.2)=false by simpa using c]
      by_cases h:k=e.2
      · subst h;simp;omega
      · rw [if_neg h,show (e.2==k)=false from beq_eq_false_iff_ne.2 fun q=>h q.symm];simp
theorem z3p (l:OT) (k:Int):aN k (z2y l)=asks k l:=by
  unfold z2y
  rw [askF]
  simp [aN,oGet]
def Apart (l:OT):Prop:=(z0y l).Nodup
theorem z4q (t:Int):∀ {l:OT},Apart l->oDel t l=l.filter fun e=>!(e.1==t)
  | [],_=>rfl
  | (a,b)::r,h=>by
    unfold Apart z0y at h
    rw [List.map_cons,List.nodup_cons] at h
    unfold oDel
    by_cases e:t=a
    · subst e
      rw [if_pos rfl,List.filter_cons_of_neg sI0]
      refine (List.filter_eq_self.2 fun x hx=>?_).symm
      have:x.1≠t:=fun q=>h.1 (List.mem_map.2 ⟨x,hx,q⟩)
      simpa using this
    · rw [if_neg e,List.filter_cons_of_pos (by simpa using fun q=>e q.symm),z4q t h.2]
theorem Apart.filter {l:OT} (h:Apart l) (p:Int × Int->Bool):Apart (l.filter p):=List.Nodup.sublist (List.Sublist.map _ List.filter_sublist) h
theorem zd3 {l:OT} (h:Apart l) {x y:Int × Int} (hx:x∈l) (hy:y∈l) (e:x.1=y.1):x=y:=by
  unfold Apart z0y at h
  induction l with
  | nil=>cases hx
  | cons a r ih =>
    rw [List.map_cons,List.nodup_cons] at h
    have h1:∀ {z:Int × Int},z∈r->z.1≠a.1:=fun hz q=>h.1 (List.mem_map.2 ⟨_,hz,q⟩)
    rcases List.mem_cons.1 hx with hx | hx
    · rcases List.mem_cons.1 hy with hy | hy
      · rw [hx,hy]
      · exact absurd (by rw [<- e,hx]) (h1 hy)
    · rcases List.mem_cons.1 hy with hy | hy
      · exact absurd (by rw [e,hy]) (h1 hx)
      · exact ih h.2 hx hy
theorem z4d {t f:Int}:∀ {l:OT},(oGet t l).isSome=false->oPut t f l=l++[(t,f)]
  | [],_=>rfl
  | (a,b)::r,h=>by
    unfold oGet at h
    split at h
    · cases h
    · rename_i c
      unfold oPut
      rw [if_neg c,z4d h];rfl
theorem z79 {t:Int}:∀ {l:OT},(oGet t l).isSome=false->t∉z0y l
  | [],_=>by simp [z0y]
  | (a,b)::r,h=>by
    unfold oGet at h
    split at h
    · cases h
    · rename_i c
      have:=z79 h
      unfold z0y at this ⊢
      rw [List.map_cons,List.mem_cons]
      exact fun q=>q.elim c this
theorem z5x {spare:Int}:∀ {l fr r:OT},Apart fr->odIn spare l fr=some r->Apart r
  | [],_,_,h,e=>by cases e;exact h
  | (t,f)::l,fr,r,h,e=>by
    unfold odIn at e
    split at e
    · cases e
    · rename_i c
      simp only [Bool.or_eq_true,not_or,Bool.not_eq_true] at c
      refine z5x (fr:=oPut t f fr) ?_ e
      rw [z4d c.1.1]
      unfold Apart z0y
      rw [List.map_append,List.nodup_append]
      exact ⟨h,by simp,fun x hx y hy q=>by
        simp only [List.map_cons,List.map_nil,List.mem_singleton] at hy
        exact z79 c.1.1 (by rw [<- hy,<- q];exact hx)⟩
section
variable {P:Program} {c:Cx} {o:Oper} {fr:Fr}
inductive LendOf (σ:Heap') (Ls:Nat->Prop):IV->IV->Prop
  | same {x:IV}:LendOf σ Ls x x
  | row {L n:Nat} {s:RT} {els els':List (List PV)} (hL:Ls L) (hσ:σ L=some (.row s els)) (hn:els.length=n) (he:els=els'):LendOf σ Ls (.sl L n) (.pv (.seq els'))
end
section
variable {P:Program} {c:Cx} {R1:Nat->Prop} {o:Oper} {fr:Fr} {hp:Hp}
theorem ze4 {t:TypeId} {x:Operand} {k:Nat} {cs:List IV} (ho:o.op = .box t x) (hx:fr.ev x=some (.agg cs)) (hσ:look hp k=none) (hc:c.σ k=none) (hfr:nmFr k fr=false) (hhp:nmHp k hp=false) (hcs:nm.nms k cs=false) :
    Ok P c o fr (look hp) (.ptr k 0) (look ((k,some (.box cs))::hp)):=by
  intro ρ w a K Q h hK
  obtain ⟨vs,u,hv,hl,hvu,hr⟩:=(h.ev hx).inv_agg
  have hrun:(execOp a.eval o).run P w = .ok (.value (.pointer (some ⟨w.heap.size,0,none⟩))) (w.alloc (.cells vs t)):=by
    have hn:(newVar t (.agg vs)).run P w = .ok ⟨w.heap.size,0,none⟩ (w.alloc (.cells vs t)):=rfl
    simp only [execOp,ho,hv,Instr.box,Sem.run_bind,hn,Result.andThen_ok]
    rfl
  unfold Oper.wp
  rw [hrun]
  refine hK (z04 ρ k (some (w.heap.size,1))) _ _ (h.alloc hσ hc hfr hhp 1 _ _ fun keep _=>?_) (.ptr _ _ _ fun cs' _=>⟨w.heap.size,1,z00,rfl⟩)
  exact .box _ t vs u (z0j w _) (Nat.le_of_eq hl.symm) hvu fun j x hj=>keep _ _ (hr j x hj) (z0z hcs (List.mem_of_getElem? hj))
def keyB:Value->Value->Bool
  | .int _ a,.int _ b=>a==b
  | .string a,.string b=>a.toList==b.toList
  | _,_=>false
def z0l:TypeDesc->Value->Bool
  | .int k,.int k' _=>k'==k
  | .string,.string _=>true
  | _,_=>false
theorem z12 {d:TypeDesc} {v:Value} (h:z0l d v=true):MapKept.IsKey d v:=by
  cases d<;>cases v<;>simp_all [z0l,MapKept.IsKey]
theorem z6f {d:TypeDesc} {a b:Value} (ha:z0l d a=true) (hb:z0l d b=true):keyB a b=true↔a=b:=by
  cases d<;>cases a<;>cases b<;>first
    | (simp_all [z0l,keyB];done)
    | (simp only [keyB,beq_iff_eq,Value.string.injEq];exact ⟨fun h=>MapKept.bytes_beq _ _ |>.1 (by rw [beq_toListBytes];simpa using h),fun h=>by rw [h]⟩)
def z20 (k:Value):List (Value × PV)->Option PV
  | []=>none
  | (a,p)::r=>if keyB k a then some p else z20 k r
def mput (k:Value) (v:PV):List (Value × PV)->List (Value × PV)
  | []=>[(k,v)]
  | (a,p)::r=>if keyB k a then (k,v)::r else (a,p)::mput k v r
theorem z39 {d:TypeDesc} {k:Value} (hk:z0l d k=true):∀ (es:List (Value × PV)) (l:List MapEntry) (i:Nat),l.length=es.length->(∀ e∈es,z0l d e.1=true)->(∀ (j:Nat) (a:Value) (p:PV),es[j]? = some (a,p)->∃ m:MapEntry,l[j]? = some m/\m.key=a) ->
    (Instr.findNow d k l i=some none/\z20 k es=none/\(∀ v,mput k v es=es++[(k,v)])/\∀ m∈l,m.key≠k)∨∃ j m p,Instr.findNow d k l i=some (some (i+j,m.val))/\l[j]? = some m/\m.key=k/\es[j]? = some (k,p)/\z20 k es=some p/\∀ v,mput k v es=es.set j (k,v)
  | [],[],_,_,_,_=>.inl ⟨rfl,rfl,fun _=>rfl,fun m hm=>by cases hm⟩
  | (a,p)::es,m::l,i,hl,he,h=>by
    have h0:m.key=a:=by obtain ⟨m',hm',e⟩:=h 0 a p rfl;cases hm';exact e
    have ha:=he (a,p) (.head _)
    obtain ⟨r,hr,hiff⟩:=MapKept.sameNow_of_keys (z12 hk) (z12 ha)
    rw [<- h0] at hr
    cases r with
    | true =>
      have hka:k=a:=hiff.1 rfl
      have hb:keyB k a=true:=(z6f hk ha).2 hka
      exact .inr ⟨0,m,p,by simp [Instr.findNow,hr],rfl,h0.trans hka.symm,by simp [hka],by simp [z20,hb],fun v=>by simp [mput,hb]⟩
    | false =>
      have hb:keyB k a=false:=by
        cases hb:keyB k a with
        | false=>rfl
        | true=>have:=hiff.2 ((z6f hk ha).1 hb);cases this
      rcases z39 hk es l (i+1) (by simpa using hl) (fun e h'=>he e (.tail _ h')) (fun j a p hj=>by simpa using h (j+1) a p (by simpa using hj)) with ⟨h1,h2,h3,h9⟩ | ⟨j,m',p',h1,h2,h3,h4,h5,h6⟩
      · exact .inl ⟨by simp [Instr.findNow,hr,h1],by simp [z20,hb,h2],fun v=>by simp [mput,hb,h3],fun m' hm'=>by
          rcases List.mem_cons.1 hm' with rfl | hm'
          · intro e;rw [h0] at e;have:=(z6f hk ha).2 e.symm;rw [hb] at this;cases this
          · exact h9 m' hm'⟩
      · exact .inr ⟨j+1,m',p',by simp [Instr.findNow,hr,h1];omega,by simpa using h2,h3,by simpa using h4,by simp [z20,hb,h5],fun v=>by simp [mput,hb,h6]⟩
theorem RepO.inv_map {F:Nat->Prop} {ρ:Loc} {σ:Heap'} {w:World} {b cc:Nat} {es:List (Value × PV)} (h:RepO F ρ σ w b cc (.map es)) :
    ∃ (a:Array MapEntry) (t:Nat) (u:Nat->Value),w.heap[b]? = some (.map a t)/\a.size=es.length/\(∀ i k p,es[i]? = some (k,p)->∃ m:MapEntry,a[i]? = some m/\m.key=k/\m.val=u i)/\∀ i k p,es[i]? = some (k,p)->RepP (owned F ρ) w p (u i):=by
  cases h with
  | map _ a t u h hl hv hr=>exact ⟨a,t,u,h,hl,hv,hr⟩
theorem RepO.stamped {F:Nat->Prop} {ρ:Loc} {σ:Heap'} {w:World} {b cc:Nat} {es:List (Value × PV)} (h:RepO F ρ σ w b cc (.map es)) {r:Array MapEntry} {t:Nat} (hb:w.heap[b]? = some (.map r t)):MapKept.Stamped r t:=by
  cases h with
  | map _ a t u h hl hv hr hst=>rw [h] at hb;cases hb;exact hst
theorem All.stamped {ρ:Loc} {w:World} {a:Act} (h:All c ρ (look hp) w fr a) {k b cc t:Nat} {es:List (Value × PV)} {r:Array MapEntry} (hρ:ρ k=some (b,cc)) (hk:look hp k=some (.map es)) (hb:w.heap[b]? = some (.map r t)):MapKept.Stamped r t:=by
  obtain ⟨o1,h1,h2⟩:=h.rel.obj k b cc hρ
  rw [hk] at h1;cases h1
  exact h2.stamped hb
theorem All.mapAt {ρ:Loc} {w:World} {a:Act} (h:All c ρ (look hp) w fr a) {x:Operand} {k:Nat} {es:List (Value × PV)} (hx:fr.ev x=some (.mp k)) (hk:look hp k=some (.map es)) :
    ∃ (b cc:Nat) (r:Array MapEntry) (t:Nat) (u:Nat->Value),a.eval x = .map (some b) /\ ρ k=some (b,cc)/\w.heap[b]? = some (.map r t)/\r.size=es.length/\(∀ i k p,es[i]? = some (k,p)->∃ m:MapEntry,r[i]? = some m/\m.key=k/\m.val=u i)/\∀ i k p,es[i]? = some (k,p)->RepP (owned c.F ρ) w p (u i):=by
  have hr:=h.ev hx
  generalize hv:a.eval x=v at hr
  cases hr with
  | mp _ _ hh =>
    obtain ⟨b,cc,hρ,rfl⟩:=hh es hk
    obtain ⟨o1,h1,h2⟩:=h.rel.obj k b cc hρ
    rw [hk] at h1;cases h1
    obtain ⟨r,t,u,h3,h4,h5,h6⟩:=h2.inv_map
    exact ⟨b,cc,r,t,u,rfl,hρ,h3,h4,h5,h6⟩
theorem za1 {t:TypeId} {k:Nat} (ho:o.op = .makeMap t none) (hσ:look hp k=none) (hc:c.σ k=none) (hfr:nmFr k fr=false) (hhp:nmHp k hp=false) :
    Ok P c o fr (look hp) (.mp k) (look ((k,some (.map []))::hp)):=by
  intro ρ w a K Q h hK
  have hrun:(execOp a.eval o).run P w = .ok (.value (.map (some w.heap.size))) (w.alloc (.map #[] 0)):=by
    have hn:(newObj (.map #[] 0)).run P w = .ok w.heap.size (w.alloc (.map #[] 0)):=rfl
    simp [execOp,ho,Instr.makeMap,Sem.run_bind,hn]
  unfold Oper.wp
  rw [hrun]
  refine hK (z04 ρ k (some (w.heap.size,1))) _ _ (h.alloc hσ hc hfr hhp 1 _ _ fun keep _=>?_) (.mp _ _ fun es' _=>⟨w.heap.size,1,z00,rfl⟩)
  exact .map [] #[] 0 (fun _=>undef) (z0j w _) rfl (fun i k p hi=>by simp at hi) fun i k p hi=>by simp at hi
theorem z7l {t kt et:TypeId} {d:TypeDesc} {x y z:Operand} {k:Nat} {es:List (Value × PV)} {kv:Value} {p:PV} (ho:o.op = .mapUpdate t x y z) (hx:fr.ev x=some (.mp k)) (hy:fr.ev y=some (.pv (.val kv))) (hz:fr.ev z=some (.pv p)) (hk:look hp k=some (.map es))
    (hR:¬ c.R k) (hu:P.underlying t=some (.map kt et)) (hd:P.underlying kt=some d) (hkv:z0l d kv=true) (hes:∀ e∈es,z0l d e.1=true):Ok P c o fr (look hp) (.pv (.val undef)) (look ((k,some (.map (mput kv p es)))::hp)):=by
  refine z4z fun ρ w a h=>?_
  obtain ⟨b,cc,r,ck,u,hv,hρ,h3,h4,h5,h6⟩:=h.mapAt hx hk
  have hst:=h.stamped hρ hk h3
  have hzr:RepP (owned c.F ρ) w p (a.eval z):=by
    have:=h.ev hz
    generalize a.eval z=vz at this
    cases this with
    | pv _ _ hp=>exact hp
  have hkey:=MapKept.run_checkKey (w:=w) hd (z12 hkv) false 9999
  have hset:∀ o',(setObj b o').run P w = .ok () { w with heap:=w.heap.setIfInBounds b o' }:=fun o'=>MapKept.run_setObj_map o' h3
  have hb:b<w.heap.size:=(Array.getElem?_eq_some_iff.1 h3).1
  have hsame:∀ v:Value,z0l d v=true->Instr.sameBits 10000 v v=true:=by
    intro v hv
    cases d<;>cases v<;>simp_all [z0l,Instr.sameBits,MapKept.bytes_beq]
  rcases z39 hkv es r.toList 0 (by simpa using h4) hes (fun j a p hj=>by obtain ⟨m,hm,e,_⟩:=h5 j a p hj;exact ⟨m,by simpa using hm,e⟩) with ⟨h1,h2,h7,h9⟩ | ⟨j,m,q,h1,h2,h3',h4',h5',h7⟩
  · have hfind:=MapKept.run_findKey (P:=P) (w:=w) (kt:=kt) hd h1
    refine ⟨ρ,{ w with heap:=w.heap.setIfInBounds b (.map (r.push ⟨kv,a.eval z,ck⟩) (ck+1)) },by simp [execOp,ho,hv,z03 h hy,Instr.mapUpdate,Sem.run_bind,run_underlying hu,MapKept.run_getObj_map h3,hkey,hfind,hset],?_⟩
    refine h.write hρ hk trivial hR rfl rfl rfl sI0 (fun j hj=>by simp [Ne.symm hj]) fun keep keepP=>?_
    have hst2:=MapKept.stamped_push hst (key:=kv) (val:=a.eval z) h9
    refine .map _ (r.push ⟨kv,a.eval z,ck⟩) (ck+1) (fun i=>if i=es.length then a.eval z else u i) (by simp [hb]) (by simp [h7,h4]) (fun i k' p' hi=>?_) fun i k' p' hi=>?_
    · rw [h7] at hi
      by_cases e:i=es.length
      · subst e
        simp only [List.getElem?_concat_length,Option.some.injEq,Prod.mk.injEq] at hi
        obtain ⟨rfl,rfl⟩:=hi
        exact ⟨⟨kv,a.eval z,ck⟩,by rw [<- h4];simp,rfl,by simp⟩
      · have hlt:i<es.length:=by
          have:=(List.getElem?_eq_some_iff.1 hi).1
          simp at this;omega
        rw [List.getElem?_append_left hlt] at hi
        obtain ⟨m,hm,e1,e2⟩:=h5 i k' p' hi
        refine ⟨m,?_,e1,by simp [e,e2]⟩
        rw [Array.getElem?_push,if_neg oM0]
        exact hm
    · rw [h7] at hi
      by_cases e:i=es.length
      · subst e
        simp only [List.getElem?_concat_length,Option.some.injEq,Prod.mk.injEq] at hi
        obtain ⟨rfl,rfl⟩:=hi
        simpa using keepP _ _ hzr
      · have hlt:i<es.length:=by
          have:=(List.getElem?_eq_some_iff.1 hi).1
          simp at this;omega
        rw [List.getElem?_append_left hlt] at hi
        simpa [e] using keepP _ _ (h6 i k' p' hi)
  · have hfind:=MapKept.run_findKey (P:=P) (w:=w) (kt:=kt) hd h1
    have hj:r[0+j]? = some m:=by simpa using h2
    have hstay:(Instr.keyThatStays kv kv).run P w = .ok kv w:=by simp [Instr.keyThatStays,hsame kv hkv]
    refine ⟨ρ,{ w with heap:=w.heap.setIfInBounds b (.map (r.modify (0+j) fun e=>{ e with key:=kv,val:=a.eval z }) ck) },?_,?_⟩
    · simp only [execOp,ho,hv,z03 h hy,Instr.mapUpdate,Sem.run_bind,run_underlying hu,MapKept.run_getObj_map h3,hkey,hfind,Result.andThen_ok,hj,Option.map_some,Option.getD_some,h3',hstay,hset]
      rfl
    refine h.write hρ hk trivial hR rfl rfl rfl sI0 (fun j hj=>by simp [Ne.symm hj]) fun keep keepP=>?_
    have hjl:j<es.length:=(List.getElem?_eq_some_iff.1 h4').1
    have hst2:=MapKept.stamped_modify hst (0+j) (fun e=>{ e with key:=kv,val:=a.eval z }) (fun _ _=>rfl) (fun e _ he=>by rw [hj] at he;cases he;exact h3'.symm)
    refine .map _ (r.modify (0+j) fun e=>{ e with key:=kv,val:=a.eval z }) ck (fun i=>if i=j then a.eval z else u i) (by simp [hb]) (by simp [h7,h4]) (fun i k' p' hi=>?_) fun i k' p' hi=>?_
    · rw [h7] at hi
      by_cases e:i=j
      · subst e
        rw [List.getElem?_set_self hjl] at hi
        cases hi
        refine ⟨{ m with key:=kv,val:=a.eval z },?_,rfl,by simp⟩
        simp only [Nat.zero_add,Array.getElem?_modify,if_true] at hj ⊢
        rw [hj];rfl
      · rw [List.getElem?_set_ne (Ne.symm e)] at hi
        obtain ⟨m',hm',e1,e2⟩:=h5 i k' p' hi
        refine ⟨m',?_,e1,by simp [e,e2]⟩
        simp only [Nat.zero_add,Array.getElem?_modify,if_neg (Ne.symm e)]
        exact hm'
    · rw [h7] at hi
      by_cases e:i=j
      · subst e
        rw [List.getElem?_set_self hjl] at hi
        cases hi
        simpa using keepP _ _ hzr
      · rw [List.getElem?_set_ne (Ne.symm e)] at hi
        simpa [e] using keepP _ _ (h6 i k' p' hi)
theorem ze7 {t kt et:TypeId} {d:TypeDesc} {x y z:Operand} {k:Nat} {es:List (Value × PV)} {kv:Value} {p:PV} (ho:o.op = .insert t x y z) (hx:fr.ev x=some (.mp k)) (hy:fr.ev y=some (.pv (.val kv))) (hz:fr.ev z=some (.pv p)) (hk:look hp k=some (.map es))
    (hR:¬ c.R k) (hu:P.underlying t=some (.map kt et)) (hd:P.underlying kt=some d) (hkv:z0l d kv=true) (hes:∀ e∈es,z0l d e.1=true):Ok P c o fr (look hp) (.pv (.val undef)) (look ((k,some (.map (mput kv p es)))::hp)):=by
  refine z4z fun ρ w a h=>?_
  obtain ⟨b,cc,r,ck,u,hv,hρ,h3,h4,h5,h6⟩:=h.mapAt hx hk
  have hst:=h.stamped hρ hk h3
  have hzr:RepP (owned c.F ρ) w p (a.eval z):=by
    have:=h.ev hz
    generalize a.eval z=vz at this
    cases this with
    | pv _ _ hp=>exact hp
  have hkey:=MapKept.run_checkKey (w:=w) hd (z12 hkv) false 9999
  have hset:∀ o',(setObj b o').run P w = .ok () { w with heap:=w.heap.setIfInBounds b o' }:=fun o'=>MapKept.run_setObj_map o' h3
  have hb:b<w.heap.size:=(Array.getElem?_eq_some_iff.1 h3).1
  have hsame:∀ v:Value,z0l d v=true->Instr.sameBits 10000 v v=true:=by
    intro v hv
    cases d<;>cases v<;>simp_all [z0l,Instr.sameBits,MapKept.bytes_beq]
  rcases z39 hkv es r.toList 0 (by simpa using h4) hes (fun j a p hj=>by obtain ⟨m,hm,e,_⟩:=h5 j a p hj;exact ⟨m,by simpa using hm,e⟩) with ⟨h1,h2,h7,h9⟩ | ⟨j,m,q,h1,h2,h3',h4',h5',h7⟩
  · have hfind:=MapKept.run_findKey (P:=P) (w:=w) (kt:=kt) hd h1
    refine ⟨ρ,{ w with heap:=w.heap.setIfInBounds b (.map (r.push ⟨kv,a.eval z,ck⟩) (ck+1)) },by simp [execOp,ho,hv,z03 h hy,Instr.mapUpdate,Sem.run_bind,run_underlying hu,MapKept.run_getObj_map h3,hkey,hfind,hset],?_⟩
    refine h.write hρ hk trivial hR rfl rfl rfl sI0 (fun j hj=>by simp [Ne.symm hj]) fun keep keepP=>?_
    have hst2:=MapKept.stamped_push hst (key:=kv) (val:=a.eval z) h9
    refine .map _ (r.push ⟨kv,a.eval z,ck⟩) (ck+1) (fun i=>if i=es.length then a.eval z else u i) (by simp [hb]) (by simp [h7,h4]) (fun i k' p' hi=>?_) fun i k' p' hi=>?_
    · rw [h7] at hi
      by_cases e:i=es.length
      · subst e
        simp only [List.getElem?_concat_length,Option.some.injEq,Prod.mk.injEq] at hi
        obtain ⟨rfl,rfl⟩:=hi
        exact ⟨⟨kv,a.eval z,ck⟩,by rw [<- h4];simp,rfl,by simp⟩
      · have hlt:i<es.length:=by
          have:=(List.getElem?_eq_some_iff.1 hi).1
          simp at this;omega
        rw [List.getElem?_append_left hlt] at hi
        obtain ⟨m,hm,e1,e2⟩:=h5 i k' p' hi
        refine ⟨m,?_,e1,by simp [e,e2]⟩
        rw [Array.getElem?_push,if_neg oM0]
        exact hm
    · rw [h7] at hi
      by_cases e:i=es.length
      · subst e
        simp only [List.getElem?_concat_length,Option.some.injEq,Prod.mk.injEq] at hi
        obtain ⟨rfl,rfl⟩:=hi
        simpa using keepP _ _ hzr
      · have hlt:i<es.length:=by
          have:=(List.getElem?_eq_some_iff.1 hi).1
          simp at this;omega
        rw [List.getElem?_append_left hlt] at hi
        simpa [e] using keepP _ _ (h6 i k' p' hi)
  · have hfind:=MapKept.run_findKey (P:=P) (w:=w) (kt:=kt) hd h1
    have hj:r[0+j]? = some m:=by simpa using h2
    have hstay:(Instr.keyThatStays kv kv).run P w = .ok kv w:=by simp [Instr.keyThatStays,hsame kv hkv]
    refine ⟨ρ,{ w with heap:=w.heap.setIfInBounds b (.map (r.modify (0+j) fun e=>{ e with key:=kv,val:=a.eval z }) ck) },?_,?_⟩
    · simp only [execOp,ho,hv,z03 h hy,Instr.mapUpdate,Sem.run_bind,run_underlying hu,MapKept.run_getObj_map h3,hkey,hfind,Result.andThen_ok,hj,Option.map_some,Option.getD_some,h3',hstay,hset]
      rfl
    refine h.write hρ hk trivial hR rfl rfl rfl sI0 (fun j hj=>by simp [Ne.symm hj]) fun keep keepP=>?_
    have hjl:j<es.length:=(List.getElem?_eq_some_iff.1 h4').1
    have hst2:=MapKept.stamped_modify hst (0+j) (fun e=>{ e with key:=kv,val:=a.eval z }) (fun _ _=>rfl) (fun e _ he=>by rw [hj] at he;cases he;exact h3'.symm)
    refine .map _ (r.modify (0+j) fun e=>{ e with key:=kv,val:=a.eval z }) ck (fun i=>if i=j then a.eval z else u i) (by simp [hb]) (by simp [h7,h4]) (fun i k' p' hi=>?_) fun i k' p' hi=>?_
    · rw [h7] at hi
      by_cases e:i=j
      · subst e
        rw [List.getElem?_set_self hjl] at hi
        cases hi
        refine ⟨{ m with key:=kv,val:=a.eval z },?_,rfl,by simp⟩
        simp only [Nat.zero_add,Array.getElem?_modify,if_true] at hj ⊢
        rw [hj];rfl
      · rw [List.getElem?_set_ne (Ne.symm e)] at hi
        obtain ⟨m',hm',e1,e2⟩:=h5 i k' p' hi
        refine ⟨m',?_,e1,by simp [e,e2]⟩
        simp only [Nat.zero_add,Array.getElem?_modify,if_neg (Ne.symm e)]
        exact hm'
    · rw [h7] at hi
      by_cases e:i=j
      · subst e
        rw [List.getElem?_set_self hjl] at hi
        cases hi
        simpa using keepP _ _ hzr
      · rw [List.getElem?_set_ne (Ne.symm e)] at hi
        simpa [e] using keepP _ _ (h6 i k' p' hi)
theorem z61 {t kt et:TypeId} {d:TypeDesc} {b ck:Nat} {r:Array MapEntry} {kv z:Value} {es:List (Value × PV)} (commaOk:Bool) (hl:r.size=es.length) (h5:∀ (j:Nat) (a:Value) (p:PV),es[j]? = some (a,p)->∃ m:MapEntry,r[j]? = some m/\m.key=a)
    (hu:P.underlying t=some (.map kt et)) (hd:P.underlying kt=some d) (hkv:z0l d kv=true) (hes:∀ e∈es,z0l d e.1=true) (hzv:((P.info? et).bind (·.zero))=some z) :
    (z20 kv es=none/\∀ w:World,w.heap[b]? = some (.map r ck)->(Instr.lookup t (.map (some b)) kv commaOk).run P w = .ok (if commaOk then .tuple #[z,.bool false] else z) w) ∨
    ∃ (j:Nat) (m:MapEntry) (p:PV),r[j]? = some m/\es[j]? = some (kv,p)/\z20 kv es=some p/\∀ w:World,w.heap[b]? = some (.map r ck)->(Instr.lookup t (.map (some b)) kv commaOk).run P w = .ok (if commaOk then .tuple #[m.val,.bool true] else m.val) w:=by
  have hz:∀ w,(zeroValue et).run P w = .ok z w:=by
    intro w
    cases hq:P.info? et with
    | none=>simp [hq] at hzv
    | some i=>simp [hq] at hzv;simp [zeroValue,typeInfo,hq,hzv]
  rcases z39 hkv es r.toList 0 (by simpa using hl) hes (fun j a p hj=>by obtain ⟨m,hm,e⟩:=h5 j a p hj;exact ⟨m,by simpa using hm,e⟩) with ⟨h1,h2,h7,h9⟩ | ⟨j,m,q,h1,h2,h3',h4',h5',h7⟩
  · refine .inl ⟨h2,fun w hb=>?_⟩
    have hkey:=MapKept.run_checkKey (w:=w) hd (z12 hkv) r.isEmpty 9999
    have hfind:=MapKept.run_findKey (P:=P) (w:=w) (kt:=kt) hd h1
    simp only [Instr.lookup,Sem.run_bind,run_underlying hu,MapKept.run_getObj_map hb,Sem.run_pure,hkey,hfind,hz,Result.andThen_ok]
  · refine .inr ⟨j,m,q,by simpa using h2,h4',h5',fun w hb=>?_⟩
    have hkey:=MapKept.run_checkKey (w:=w) hd (z12 hkv) r.isEmpty 9999
    have hfind:=MapKept.run_findKey (P:=P) (w:=w) (kt:=kt) hd h1
    simp only [Instr.lookup,Sem.run_bind,run_underlying hu,MapKept.run_getObj_map hb,Sem.run_pure,hkey,hfind,hz,Result.andThen_ok]
theorem ze9 {t kt et:TypeId} {d:TypeDesc} {x y:Operand} {k:Nat} {es:List (Value × PV)} {kv z:Value} (ho:o.op = .lookup t x y false) (hx:fr.ev x=some (.mp k)) (hy:fr.ev y=some (.pv (.val kv))) (hk:look hp k=some (.map es))
    (hu:P.underlying t=some (.map kt et)) (hd:P.underlying kt=some d) (hkv:z0l d kv=true) (hes:∀ e∈es,z0l d e.1=true) (hzv:((P.info? et).bind (·.zero))=some z) (hR:R1 k):OkV P c R1 o fr (look hp) (.pv ((z20 kv es).getD (.val z))):=by
  intro ρ w a h
  obtain ⟨b,cc,r,ck,u,hv,hρ,h3,h4,h5,h6⟩:=h.mapAt hx hk
  have h3':∀ w2,SameFor c.F R1 ρ w w2->w2.heap[b]? = some (.map r ck):=fun w2 h2=>(h2 b (h.rel.lt hρ) (.inr ⟨k,cc,hR,hρ⟩)).trans h3
  rcases z61 (b:=b) (ck:=ck) false h4 (fun j a p hj=>by obtain ⟨m,h1,h2,_⟩:=h5 j a p hj;exact ⟨m,h1,h2⟩) hu hd hkv hes hzv with ⟨h1,h2⟩ | ⟨j,m,p,h1,h2,h7,h8⟩
  · refine ⟨z,fun w2 hw2=>?_,by rw [h1];exact z0r _⟩
    simp [execOp,ho,hv,z03 h hy,Sem.run_bind,h2 w2 (h3' w2 hw2)]
  · obtain ⟨m',hm',_,e2⟩:=h5 j kv p h2
    rw [h1] at hm';cases hm'
    refine ⟨m.val,fun w2 hw2=>by simp [execOp,ho,hv,z03 h hy,Sem.run_bind,h8 w2 (h3' w2 hw2)],?_⟩
    rw [h7,e2]
    exact .pv _ _ (h6 j kv p h2)
theorem za0 {t kt et:TypeId} {d:TypeDesc} {x y:Operand} {k:Nat} {es:List (Value × PV)} {kv z:Value} (ho:o.op = .lookup t x y true) (hx:fr.ev x=some (.mp k)) (hy:fr.ev y=some (.pv (.val kv))) (hk:look hp k=some (.map es))
    (hu:P.underlying t=some (.map kt et)) (hd:P.underlying kt=some d) (hkv:z0l d kv=true) (hes:∀ e∈es,z0l d e.1=true) (hzv:((P.info? et).bind (·.zero))=some z) (hR:R1 k):OkV P c R1 o fr (look hp) (.tup [.pv ((z20 kv es).getD (.val z)),iBool (z20 kv es).isSome]):=by
  intro ρ w a h
  obtain ⟨b,cc,r,ck,u,hv,hρ,h3,h4,h5,h6⟩:=h.mapAt hx hk
  have h3':∀ w2,SameFor c.F R1 ρ w w2->w2.heap[b]? = some (.map r ck):=fun w2 h2=>(h2 b (h.rel.lt hρ) (.inr ⟨k,cc,hR,hρ⟩)).trans h3
  have two:∀ {p:PV} {v:Value} {g:Bool},RepP (owned c.F ρ) w p v->RepI c.F ρ (look hp) w (.tup [.pv p,iBool g]) (.tuple #[v,.bool g]):=fun {p v g} hp=>.tup _ _ (fun j=>if j=0 then v else .bool g) rfl (fun j x hj=>by
      match j,hj with
      | 0,hj=>rfl
      | 1,hj=>rfl
      | j+2,hj=>simp at hj) fun j x hj=>by
      match j,hj with
      | 0,hj=>cases hj;exact .pv _ _ hp
      | 1,hj=>cases hj;exact z0r _
      | j+2,hj=>simp at hj
  rcases z61 (b:=b) (ck:=ck) true h4 (fun j a p hj=>by obtain ⟨m,h1,h2,_⟩:=h5 j a p hj;exact ⟨m,h1,h2⟩) hu hd hkv hes hzv with ⟨h1,h2⟩ | ⟨j,m,p,h1,h2,h7,h8⟩
  · refine ⟨.tuple #[z,.bool false],fun w2 hw2=>?_,by rw [h1];exact two (.val _)⟩
    simp [execOp,ho,hv,z03 h hy,Sem.run_bind,h2 w2 (h3' w2 hw2)]
  · obtain ⟨m',hm',_,e2⟩:=h5 j kv p h2
    rw [h1] at hm';cases hm'
    refine ⟨.tuple #[m.val,.bool true],fun w2 hw2=>by simp [execOp,ho,hv,z03 h hy,Sem.run_bind,h8 w2 (h3' w2 hw2)],?_⟩
    rw [h7,e2]
    exact two (h6 j kv p h2)
theorem z9v {t kt et:TypeId} {x:Operand} {k:Nat} {es:List (Value × PV)} (ho:o.op = .call { callee:=.builtin .len,args:=#[x],argTypes:=#[t] }) (hx:fr.ev x=some (.mp k)) (hk:look hp k=some (.map es)) (hu:P.underlying t=some (.map kt et)) (hR:R1 k) :
    OkV P c R1 o fr (look hp) (.pv (vInt es.length)):=by
  intro ρ w a h
  obtain ⟨b,cc,r,ck,u,hv,hρ,h3,h4,h5,h6⟩:=h.mapAt hx hk
  refine ⟨_,fun w2 h2=>?_,z0r _⟩
  have h3':=(h2 b (h.rel.lt hρ) (.inr ⟨k,cc,hR,hρ⟩)).trans h3
  simp [execOp,ho,hv,resolve,Sem.run_bind,invoke,builtin,Builtin.len_,run_underlying hu,goInt,MapKept.run_getObj_map h3',h4]
end
section
variable {P:Program} {c:Cx} {R1:Nat->Prop} {o:Oper} {fr:Fr} {hp:Hp}
theorem ok_box1 {t:TypeId} {x:Operand} {p:PV} {σ:Heap'} (ho:o.op = .box t x) (hx:fr.ev x=some (.pv p)) (h1:p.one=true):Ok P c o fr σ (.pv (.ept [p] 0)) σ:=by
  intro ρ w a K Q h hK
  have hr:=h.ev hx
  have hone:=RepI.one hr (show (IV.pv p).firm σ from h1)
  generalize hv:a.eval x=v at hr hone
  cases hr with
  | pv _ _ hr =>
    have hcells:v.cells = #[v]:=by cases v<;>first | rfl | cases hone
    have hrun:(execOp a.eval o).run P w = .ok (.value (.pointer (some ⟨w.heap.size,0,none⟩))) (w.alloc (.cells #[v] t)):=by
      have hn:(newVar t v).run P w = .ok ⟨w.heap.size,0,none⟩ (w.alloc (.cells v.cells t)):=rfl
      rw [hcells] at hn
      simp only [execOp,ho,hv,Instr.box,Sem.run_bind,hn,Result.andThen_ok]
      rfl
    unfold Oper.wp
    rw [hrun]
    obtain ⟨h3,keep⟩:=h.push (.cells #[v] t)
    refine hK ρ _ _ h3 (.pv _ _ (.ept [p] 0 w.heap.size 0 (fun _=>v) ⟨h.fresh,by simp⟩ (fun j z hj=>?_) fun j z hj=>?_))
    · have h0:j=0:=by have:=(List.getElem?_eq_some_iff.1 hj).1;simp at this;exact this
      subst h0
      rw [z0w (z0j w _)];rfl
    · have h0:j=0:=by have:=(List.getElem?_eq_some_iff.1 hj).1;simp at this;exact this
      subst h0
      simp only [List.getElem?_cons_zero,Option.some.injEq] at hj
      subst hj
      exact keep _ _ hr
theorem z9s {t:TypeId} {x:Operand} {k:Nat} {z:IV} (ho:o.op = .box t x) (hx:fr.ev x=some z) (hz:z.firm (look hp)) (hσ:look hp k=none) (hc:c.σ k=none) (hfr:nmFr k fr=false) (hhp:nmHp k hp=false) (hcs:nm k z=false) :
    Ok P c o fr (look hp) (.ptr k 0) (look ((k,some (.box [z]))::hp)):=by
  intro ρ w a K Q h hK
  have hr:=h.ev hx
  have hone:=RepI.one hr hz
  generalize hv:a.eval x=v at hr hone
  have hcells:v.cells = #[v]:=by cases v<;>first | rfl | cases hone
  have hrun:(execOp a.eval o).run P w = .ok (.value (.pointer (some ⟨w.heap.size,0,none⟩))) (w.alloc (.cells #[v] t)):=by
    have hn:(newVar t v).run P w = .ok ⟨w.heap.size,0,none⟩ (w.alloc (.cells v.cells t)):=rfl
    rw [hcells] at hn
    simp only [execOp,ho,hv,Instr.box,Sem.run_bind,hn,Result.andThen_ok]
    rfl
  unfold Oper.wp
  rw [hrun]
  refine hK (z04 ρ k (some (w.heap.size,1))) _ _ (h.alloc hσ hc hfr hhp 1 _ _ fun keep _=>?_) (.ptr _ _ _ fun cs' _=>⟨w.heap.size,1,z00,rfl⟩)
  refine .box _ t #[v] (fun _=>v) (z0j w _) (Nat.le_refl _) (fun j x hj=>?_) fun j x hj=>?_
  · have h0:j=0:=by have:=(List.getElem?_eq_some_iff.1 hj).1;simp at this;exact this
    subst h0;rfl
  · have h0:j=0:=by have:=(List.getElem?_eq_some_iff.1 hj).1;simp at this;exact this
    subst h0
    simp only [List.getElem?_cons_zero,Option.some.injEq] at hj
    subst hj
    exact keep _ _ hr hcs
theorem z7i {t e:TypeId} {x y:Operand} {k off n s i:Nat} {m:Int} {cs:List IV} {kk:IntKind} (ho:o.op = .indexAddr t x y) (hx:fr.ev x=some (.ptr k off)) (hy:fr.ev y=some (.pv (.val (.int kk m)))) (hk:look hp k=some (.box cs))
    (hu:P.underlying t=some (.array n e)) (hs:(P.info? e).map (·.size)=some s) (hm:m=i) (hi:i<n):OkV P c R1 o fr (look hp) (.ptr k (off+i*s)):=by
  subst hm
  intro ρ w a h
  obtain ⟨b,cc,e',r,u,hv,hρ,h3,h4,h5,h6⟩:=h.box hx hk
  refine ⟨.pointer (some ⟨b,off+i*s,none⟩),fun w2 _=>?_,.ptr _ _ _ fun cs' _=>⟨b,cc,hρ,rfl⟩⟩
  have hs':=z06 hs w2
  have h0:(0:Int)<=i/\(i:Int)<n:=by omega
  simp [execOp,ho,hv,z03 h hy,Instr.indexAt,Sem.run_bind,asIntOf,run_underlying hu,Instr.sureAddr,h0,hi,hs',Addr.add]
theorem z7d {t e:TypeId} {n s:Nat} {parts:Array (Nat × Operand)} {xs:List (Nat × IV)} {z:Value} {out:List IV} {σ:Heap'} (ho:o.op = .build t parts) (hx:z0v fr parts.toList=some xs)
    (hz:((P.info? t).bind (·.zero))=some z) (hu:P.underlying t=some (.array n e)) (hs:(P.info? e).map (·.size)=some s) (hf:z16 (fun i=>some (i*s,s)) (z1b z) xs=some out) (hfirm:z17 σ xs):OkV P c R1 o fr σ (.agg out):=by
  intro ρ w a h
  have hzv:∀ w,(zeroValue t).run P w = .ok z w:=fun w=>by
    cases hq:P.info? t with
    | none=>simp [hq] at hz
    | some i=>simp [hq] at hz;simp [zeroValue,typeInfo,hq,hz]
  obtain ⟨hl,hv⟩:=z1d h hx
  obtain ⟨vs,h1,h2⟩:=z38 (z86 c.F ρ σ w z) hl (fun j i x hj=>by
    obtain ⟨v,h3,h4⟩:=hv j i x hj
    exact ⟨v,h3,h4,hfirm _ (List.mem_of_getElem? hj)⟩) hf
  have hparts:(parts.map fun (i,x)=>(i,a.eval x)).toList=parts.toList.map fun p=>(p.1,a.eval p.2):=by simp
  refine ⟨.agg vs,fun w2 _=>?_,.agg _ _ (fun j=>vs.getD j undef) h2.1 (fun j x hj=>?_) fun j x hj=>?_⟩
  · have hso:=z06 hs w2
    simp only [execOp,ho,Instr.build,Sem.run_bind,hzv,run_underlying hu,hso,Result.andThen_ok,hparts,h1]
    rfl
  · obtain ⟨v,h3,_⟩:=h2.2 j x hj
    simp [h3,Array.getD_eq_getD_getElem?]
  · obtain ⟨v,h3,h4⟩:=h2.2 j x hj
    simp only [Array.getD_eq_getD_getElem?,h3,Option.getD_some]
    exact h4
end
section
variable {P:Program} {c:Cx} {R1:Nat->Prop} {o:Oper} {fr:Fr} {hp:Hp}
def ResC (P:Program) (fr:Fr) (σ:Heap') (a:Tmp) (t:TypeId) (x:IV):Prop:=∀ (c:Cx) (o:Oper),o.op = .load t (.tmp a)->OkV P c (fun _=>True) o fr σ x
theorem z6s {ρ:Loc} {σ:Heap'} {w:World} {a:Act} {q:Tmp} {t:TypeId} {x:IV} (h:All c ρ σ w fr a) (hr:ResC P fr σ q t x):∃ v ad,(asAddr ((a.tmps[q]?).getD undef)).run P w = .ok ad w/\(loadVar t ad).run P w = .ok v w/\RepI c.F ρ σ w x v:=by
  obtain ⟨v,h1,h2⟩:=hr c { (default:Oper) with op:=.load t (.tmp q) } rfl ρ w a h
  have h3:=h1 w (SameFor.refl _ _ _ _)
  simp only [execOp,Instr.loadAt,Sem.run_bind] at h3
  have hev:a.eval (.tmp q)=(a.tmps[q]?).getD undef:=by simp [Act.eval]
  rw [hev] at h3
  generalize (a.tmps[q]?).getD undef=p at h3 ⊢
  cases p with
  | pointer ad =>
    cases ad with
    | none=>simp [Instr.sureAddr] at h3
    | some ad =>
      refine ⟨v,ad,rfl,?_,h2⟩
      simp only [Instr.sureAddr,Sem.run_bind,Sem.run_pure,Result.andThen_ok] at h3
      generalize (loadVar t ad).run P w=res at h3 ⊢
      cases res with
      | ok v' w'=>simpa [Result.andThen] using h3
      | _=>simp [Result.andThen] at h3
  | _=>simp [Instr.sureAddr] at h3
theorem z9t {t:TypeId} {x:Operand} {k:Nat} {ps:List PV} (ho:o.op = .box t x) (hx:fr.ev x=some (.pv (.agg ps))) (hσ:look hp k=none) (hc:c.σ k=none) (hfr:nmFr k fr=false) (hhp:nmHp k hp=false) :
    Ok P c o fr (look hp) (.ptr k 0) (look ((k,some (.box (ps.map .pv)))::hp)):=by
  intro ρ w a K Q h hK
  have hr:=h.ev hx
  generalize hv:a.eval x=v at hr
  cases hr with
  | pv _ _ hr =>
    cases hr with
    | agg _ vs u hl hvu hr =>
      have hrun:(execOp a.eval o).run P w = .ok (.value (.pointer (some ⟨w.heap.size,0,none⟩))) (w.alloc (.cells vs t)):=by
        have hn:(newVar t (.agg vs)).run P w = .ok ⟨w.heap.size,0,none⟩ (w.alloc (.cells vs t)):=rfl
        simp only [execOp,ho,hv,Instr.box,Sem.run_bind,hn,Result.andThen_ok]
        rfl
      unfold Oper.wp
      rw [hrun]
      refine hK (z04 ρ k (some (w.heap.size,1))) _ _ (h.alloc hσ hc hfr hhp 1 _ _ fun keep keepP=>?_) (.ptr _ _ _ fun cs' _=>⟨w.heap.size,1,z00,rfl⟩)
      refine .box _ t vs u (z0j w _) (by simp [hl]) (fun j x hj=>?_) fun j x hj=>?_
      · rw [List.getElem?_map] at hj
        obtain ⟨p,hp,rfl⟩:=Option.map_eq_some_iff.1 hj
        exact hvu j p hp
      · rw [List.getElem?_map] at hj
        obtain ⟨p,hp,rfl⟩:=Option.map_eq_some_iff.1 hj
        exact .pv _ _ (keepP _ _ (hr j p hp))
theorem z6p {t:TypeId} {x:Operand} {f:Nat} {ps:List PV} {p:PV} {fs:Array Field} {fd:Field} {d:TypeDesc} {σ:Heap'} (ho:o.op = .field t x f) (hx:fr.ev x=some (.pv (.agg ps)))
    (hu:P.underlying t=some (.struct fs)) (hf:fs[f]? = some fd) (hd:P.underlying fd.type=some d) (hrow:d.isRow=false) (hp:ps[fd.offset]? = some p):OkV P c R1 o fr σ (.pv p):=by
  intro ρ w a h
  have hr:=h.ev hx
  generalize hv:a.eval x=v at hr
  cases hr with
  | pv _ _ hr =>
    cases hr with
    | agg _ vs u hl hvu hr =>
      refine ⟨u fd.offset,fun w2 _=>?_,.pv _ _ (hr _ _ hp)⟩
      simp [execOp,ho,hv,Instr.field,Sem.run_bind,run_underlying hu,hf,part,asAgg,z3g hd,hrow,hvu _ _ hp]
end
section
variable {P:Program} {c:Cx} {R1:Nat->Prop} {o:Oper} {fr:Fr} {hp:Hp} {σ:Heap'} {Q:Exit->Fr->Heap'->Prop}
theorem RepP.keepIt {own:Nat->Prop} {w w':World} {b0:Nat} {p:PV} {v:Value} (h:RepP own w p v) (hs:w.heap.size<=w'.heap.size) (h0:∀ off sp,w.cell? ⟨b0,off,sp⟩=none)
    (hk:∀ b,b≠b0->w'.heap[b]? = w.heap[b]?):RepP own w' p v:=by
  have key:∀ (b off:Nat) (x:Value),w.cell? ⟨b,off,none⟩=some x->w'.cell? ⟨b,off,none⟩=some x:=by
    intro b off x hx
    by_cases e:b=b0
    · subst e;rw [h0] at hx;cases hx
    · rw [<- hx];exact World.cell?_of_block (a:=⟨b,off,none⟩) (hk b e)
  induction h with
  | val v=>exact .val v
  | seq els a cap b off u ha hb hl hm hc _ ih=>exact .seq els a cap b off u ha (fun hne=>⟨(hb hne).1,Nat.lt_of_lt_of_le (hb hne).2 hs⟩) hl hm (fun i el hi j c hj=>key _ _ _ (hc i el hi j c hj)) ih
  | agg cs vs u hl hv _ ih=>exact .agg cs vs u hl hv ih
  | ept cs off b o u hb hc _ ih=>exact .ept cs off b o u ⟨hb.1,Nat.lt_of_lt_of_le hb.2 hs⟩ (fun j c hj=>key _ _ _ (hc j c hj)) ih
theorem RepI.mapP {F:Nat->Prop} {ρ:Loc} {w w':World} {x:IV} {v:Value} (hk:∀ p v,RepP (owned F ρ) w p v->RepP (owned F ρ) w' p v) (h:RepI F ρ σ w x v):RepI F ρ σ w' x v:=by
  induction h with
  | pv p v h=>exact .pv p v (hk _ _ h)
  | ptr k off v h=>exact .ptr k off v h
  | sl k len v h=>exact .sl k len v h
  | rpt k len off v h=>exact .rpt k len off v h
  | sp k n len v h=>exact .sp k n len v h
  | bs k n v h=>exact .bs k n v h
  | mp k v h=>exact .mp k v h
  | tnil k T v h=>exact .tnil k T v h
  | agg cs vs u hl hv _ ih=>exact .agg cs vs u hl hv ih
  | tup cs vs u hl hv _ ih=>exact .tup cs vs u hl hv ih
  | fn f xs ys vs ws u t hl hv _ hl' hv' _ ih ih'=>exact .fn f xs ys vs ws u t hl hv ih hl' hv' ih'
theorem RepO.mapP {F:Nat->Prop} {ρ:Loc} {w w':World} {b cc:Nat} {o:HO} (hb:w'.heap[b]? = w.heap[b]?) (hk:∀ p v,RepP (owned F ρ) w p v->RepP (owned F ρ) w' p v) (h:RepO F ρ σ w b cc o):RepO F ρ σ w' b cc o:=by
  cases h with
  | box cs e a u h hl hv hr=>exact .box cs e a u (hb.trans h) hl hv fun j x hj=>(hr j x hj).mapP hk
  | row s els a u h hs hl hm hw hv hr=>exact .row s els a u (hb.trans h) hs hl hm hw hv fun i el hi j x hj=>hk _ _ (hr i el hi j x hj)
  | map es a t u h hl hv hr=>exact .map es a t u (hb.trans h) hl hv fun i k p hi=>hk _ _ (hr i k p hi)
abbrev itv (b0:Nat):IV:=.pv (.val (.pointer (some ⟨b0,0,none⟩)))
theorem Sub.cons {fr':Fr} {d:Nat} {x:IV} (h:Sub σ fr fr'):Sub σ ((d,x)::fr) ((d,x)::fr'):=by
  intro t y hy
  simp only [Fr.get] at hy ⊢
  cases hb:Nat.beq d t with
  | true=>rw [hb] at hy;cases hy;exact ⟨_,rfl,fun _ _ _ _ h=>h⟩
  | false=>rw [hb] at hy;exact h t y hy
end
section
variable {P:Program} {c:Cx} {R1:Nat->Prop} {o:Oper} {fr:Fr} {hp:Hp} {σ:Heap'} {Q:Exit->Fr->Heap'->Prop}
theorem z9u {t e:TypeId} {x:Operand} (ho:o.op = .call { callee:=.builtin .cap,args:=#[x],argTypes:=#[t] }) (hx:fr.ev x=some (.pv (.val (.slice none 0 0)))) (hu:P.underlying t=some (.slice e)):OkV P c R1 o fr σ (iInt 0):=by
  intro ρ w a h
  refine ⟨.int .i64 0,fun w2 _=>?_,z0r _⟩
  simp [execOp,ho,z03 h hx,resolve,Sem.run_bind,invoke,builtin,Builtin.cap_,run_underlying hu,goInt]
theorem Sub.rfl':Sub σ fr fr:=fun _ y hy=>⟨y,hy,fun _ _ _ _ h=>h⟩
theorem All.freezeCell {ρ:Loc} {w:World} {a:Act} {k k2 j n:Nat} {s:RT} {els:List (List PV)} {cs:List IV} (h:All c ρ (look hp) w fr a) (hk:look hp k=some (.row s els)) (hn:els.length=n) (hk2:look hp k2=some (.box cs)) (hj:cs[j]? = some (.sl k n)) (hne:k≠k2) :
    All c (z04 ρ k none) (look ((k2,some (.box (cs.set j (.pv (.seq els)))))::(k,none)::hp)) w fr a:=by
  have h':=h.drop (k:=k)
  have hown:∀ b,owned c.F (z04 ρ k none) b->owned c.F ρ b:=fun b hb=>by
    rcases hb with hb | ⟨i,cc,hi⟩
    · exact .inl hb
    · by_cases e:i=k
      · subst e;rw [z00] at hi;cases hi
      · rw [z0i (Ne.symm e)] at hi;exact .inr ⟨i,cc,hi⟩
  have hlk:∀ i,i≠k2->look ((k2,some (.box (cs.set j (.pv (.seq els)))))::(k,none)::hp) i=look ((k,none)::hp) i:=fun i hi=>z08 (Ne.symm hi)
  have hlk2:look ((k2,some (.box (cs.set j (.pv (.seq els)))))::(k,none)::hp) k2=some (.box (cs.set j (.pv (.seq els)))):=z0b
  have hk2':look ((k,none)::hp) k2=some (.box cs):=z8h hne hk2
  have hnew:∀ v,RepI c.F ρ (look hp) w (.sl k n) v->RepP (owned c.F (z04 ρ k none)) w (.seq els) v:=by
    intro v hv
    cases hv with
    | sl _ _ _ hv =>
      obtain ⟨_,h2⟩:=hv s els hk
      rcases h2 hn with ⟨b,cc,hρ,rfl⟩ | ⟨_,hz,rfl⟩
      · obtain ⟨o1,h3,h4⟩:=h.rel.obj k b cc hρ
        rw [hk] at h3;cases h3
        cases h4 with
        | row _ _ r u h3 hs hl hm hwe hcells hu =>
          rw [<- hn]
          refine .seq els _ cc b 0 u (fun _=>rfl) (fun _=>⟨fun ho=>?_,h.rel.lt hρ⟩) oM0 hm (fun i el hi q x hq=>?_) fun i el hi q x hq=>(hu i el hi q x hq).own hown
          · rcases ho with ho | ⟨i,cc',hi⟩
            · exact h.rel.apart _ _ _ hρ ho
            · by_cases e:i=k
              · subst e;rw [z00] at hi;cases hi
              · rw [z0i (Ne.symm e)] at hi;exact e (h.rel.inj _ _ _ _ _ hi hρ)
          · rw [z0w h3,Nat.zero_add,hwe el (List.mem_of_getElem? hi)]
            exact hcells i el hi q x hq
      · have hnil:els=[]:=List.eq_nil_of_length_eq_zero oM0
        subst hnil
        exact .seq [] none 0 0 0 (fun _ _=>undef) sI0 sI0 sI0 (by simp [maxLen]) sI0 sI0
  have hconv:∀ x v,RepI c.F (z04 ρ k none) (look ((k,none)::hp)) w x v->RepI c.F (z04 ρ k none) (look ((k2,some (.box (cs.set j (.pv (.seq els)))))::(k,none)::hp)) w x v:=by
    intro x v hx
    induction hx with
    | pv p v hp=>exact .pv p v hp
    | ptr i off v hi =>
      refine .ptr i off v fun cs' h2=>?_
      by_cases e:i=k2
      · subst e;exact hi _ hk2'
      · rw [hlk i e] at h2;exact hi _ h2
    | sl i len v hi =>
      refine .sl i len v fun s' els' h2=>?_
      by_cases e:i=k2
      · subst e;rw [hlk2] at h2;cases h2
      · rw [hlk i e] at h2;exact hi _ _ h2
    | sp i n len v hi =>
      refine .sp i n len v fun s' els' h2=>?_
      by_cases e:i=k2
      · subst e;rw [hlk2] at h2;cases h2
      · rw [hlk i e] at h2;exact hi _ _ h2
    | rpt i len off v hi =>
      refine .rpt i len off v fun s' els' h2=>?_
      by_cases e:i=k2
      · subst e;rw [hlk2] at h2;cases h2
      · rw [hlk i e] at h2;exact hi _ _ h2
    | bs i n v hi =>
      refine .bs i n v fun cs' h2=>?_
      by_cases e:i=k2
      · subst e;exact hi _ hk2'
      · rw [hlk i e] at h2;exact hi _ h2
    | mp i v hi =>
      refine .mp i v fun es h2=>?_
      by_cases e:i=k2
      · subst e;rw [hlk2] at h2;cases h2
      · rw [hlk i e] at h2;exact hi _ h2
    | tnil i T v hi =>
      refine .tnil i T v fun cs' h2=>?_
      by_cases e:i=k2
      · subst e;exact hi _ hk2'
      · rw [hlk i e] at h2;exact hi _ h2
    | agg cs vs u hl hv _ ih=>exact .agg cs vs u hl hv ih
    | tup cs vs u hl hv _ ih=>exact .tup cs vs u hl hv ih
    | fn f xs ys vs ws u t hl hv _ hl' hv' _ ih ih'=>exact .fn f xs ys vs ws u t hl hv ih hl' hv' ih'
  refine ⟨⟨h'.rel.inj,h'.rel.apart,h'.rel.old,fun i b cc hi=>?_,fun i o h1 h2=>?_⟩,fun t x hx=>?_,?_,h'.df,h'.sz,h.kk⟩
  · obtain ⟨o1,h1,h2⟩:=h'.rel.obj i b cc hi
    by_cases e:i=k2
    · subst e
      rw [hk2'] at h1;cases h1
      refine ⟨_,hlk2,?_⟩
      have hρi:ρ i=some (b,cc):=by rwa [z0i hne] at hi
      obtain ⟨o3,h3,h4⟩:=h.rel.obj i b cc hρi
      rw [hk2] at h3;cases h3
      cases h2 with
      | box _ e' r u h5 hl hv hr =>
        cases h4 with
        | box _ e2 r2 u2 h6 hl2 hv2 hr2 =>
          rw [h5] at h6;cases h6
          refine .box _ e' r u h5 (by simpa using hl) (fun q x hq=>?_) fun q x hq=>?_
          · by_cases eq:q=j
            · subst eq
              exact hv q _ hj
            · rw [List.getElem?_set_ne (Ne.symm eq)] at hq;exact hv q x hq
          · by_cases eq:q=j
            · subst eq
              have hlt:q<cs.length:=(List.getElem?_eq_some_iff.1 hj).1
              rw [List.getElem?_set_self hlt] at hq;cases hq
              have e3:u q=u2 q:=by
                have a1:=hv q _ hj;have a2:=hv2 q _ hj
                rw [a1] at a2;exact Option.some.inj a2
              rw [e3]
              exact .pv _ _ (hnew _ (hr2 q _ hj))
            · rw [List.getElem?_set_ne (Ne.symm eq)] at hq;exact hconv _ _ (hr q x hq)
    · refine ⟨o1,(hlk i e).trans h1,?_⟩
      cases h2 with
      | box cs' e' r u h hl hv hr=>exact .box cs' e' r u h hl hv fun q x hq=>hconv _ _ (hr q x hq)
      | row s' els' r u h hs hl hm hw hv hr=>exact .row s' els' r u h hs hl hm hw hv hr
      | map es r t u h hl hv hr=>exact .map es r t u h hl hv hr
  · by_cases e:i=k2
    · subst e
      rw [z0i hne] at h2
      obtain ⟨s',h3⟩:=h.rel.real i _ hk2 h2
      cases h3
    · rw [hlk i e] at h1;exact h'.rel.real i o h1 h2
  · obtain ⟨v,hv,hr⟩:=h'.fr t x hx
    exact ⟨v,hv,hconv _ _ hr⟩
  · have t:=h'.tr
    refine ⟨t.os,t.tape,t.output,t.size,t.blk,t.own,fun i a1 a2 e1 e2=>?_,fun i a1 a2 e1 e2=>?_,fun i s1 s2 a1 a2 e1 e2 hl=>?_,fun i s1 s2 a1 a2 e1 e2=>?_,fun i a2 e2=>?_,fun i a2 e2=>?_,fun i s1 a2 e2=>?_⟩
    all_goals by_cases e:i=k2
    · subst e;exact t.box i _ _ e1 hk2'
    · rw [hlk i e] at e2;exact t.box i _ _ e1 e2
    · subst e;rw [hlk2] at e2;cases e2
    · rw [hlk i e] at e2;exact t.map i _ _ e1 e2
    · subst e;rw [hlk2] at e2;cases e2
    · rw [hlk i e] at e2;exact t.row i _ _ _ _ e1 e2 hl
    · subst e;rw [hlk2] at e2;cases e2
    · rw [hlk i e] at e2;exact t.grow i _ _ _ _ e1 e2
    · subst e;exact t.kindB i _ hk2'
    · rw [hlk i e] at e2;exact t.kindB i _ e2
    · subst e;rw [hlk2] at e2;cases e2
    · rw [hlk i e] at e2;exact t.kindM i _ e2
    · subst e;rw [hlk2] at e2;cases e2
    · rw [hlk i e] at e2;exact t.kindR i _ _ e2
theorem Tr.freezeCell {x:Code} {k k2 j n:Nat} {s:RT} {els:List (List PV)} {cs:List IV} (hk:look hp k=some (.row s els)) (hn:els.length=n) (hk2:look hp k2=some (.box cs)) (hj:cs[j]? = some (.sl k n)) (hne:k≠k2)
    (h:Tr P c x fr (look ((k2,some (.box (cs.set j (.pv (.seq els)))))::(k,none)::hp)) Q):Tr P c x fr (look hp) Q:=fun _ w a ha=>h _ w a (ha.freezeCell hk hn hk2 hj hne)
theorem Tr.growCell {x:Code} {k k2 j:Nat} {cs:List IV} (s:RT) (hk2:look hp k2=some (.box cs)) (hj:cs[j]? = some (.pv (.val (.slice none 0 0)))) (hσ:look hp k=none) (hc:c.σ k=none) (hfr:nmFr k fr=false) (hhp:nmHp k hp=false)
    (h:Tr P c x fr (look ((k2,some (.box (cs.set j (.sl k 0))))::(k,some (.row s []))::hp)) Q):Tr P c x fr (look hp) Q:=by
  intro ρ w a ha
  obtain ⟨hk,h'⟩:=ha.ghost hσ hc hfr hhp s
  refine h ρ w a ?_
  have hne:k≠k2:=fun e=>by subst e;rw [hσ] at hk2;cases hk2
  have hk2':look ((k,some (.row s []))::hp) k2=some (.box cs):=z8h hne hk2
  have hlk:∀ i,i≠k2->look ((k2,some (.box (cs.set j (.sl k 0))))::(k,some (.row s []))::hp) i=look ((k,some (.row s []))::hp) i:=fun i hi=>z08 (Ne.symm hi)
  have hlk2:look ((k2,some (.box (cs.set j (.sl k 0))))::(k,some (.row s []))::hp) k2=some (.box (cs.set j (.sl k 0))):=z0b
  have hconv:∀ x v,RepI c.F ρ (look ((k,some (.row s []))::hp)) w x v->RepI c.F ρ (look ((k2,some (.box (cs.set j (.sl k 0))))::(k,some (.row s []))::hp)) w x v:=by
    intro x v hx
    induction hx with
    | pv p v hp=>exact .pv p v hp
    | ptr i off v hi =>
      refine .ptr i off v fun cs' h2=>?_
      by_cases e:i=k2
      · subst e;exact hi _ hk2'
      · rw [hlk i e] at h2;exact hi _ h2
    | sl i len v hi =>
      refine .sl i len v fun s' els' h2=>?_
      by_cases e:i=k2
      · subst e;rw [hlk2] at h2;cases h2
      · rw [hlk i e] at h2;exact hi _ _ h2
    | sp i n len v hi =>
      refine .sp i n len v fun s' els' h2=>?_
      by_cases e:i=k2
      · subst e;rw [hlk2] at h2;cases h2
      · rw [hlk i e] at h2;exact hi _ _ h2
    | rpt i len off v hi =>
      refine .rpt i len off v fun s' els' h2=>?_
      by_cases e:i=k2
      · subst e;rw [hlk2] at h2;cases h2
      · rw [hlk i e] at h2;exact hi _ _ h2
    | bs i n v hi =>
      refine .bs i n v fun cs' h2=>?_
      by_cases e:i=k2
      · subst e;exact hi _ hk2'
      · rw [hlk i e] at h2;exact hi _ h2
    | mp i v hi =>
      refine .mp i v fun es h2=>?_
      by_cases e:i=k2
      · subst e;rw [hlk2] at h2;cases h2
      · rw [hlk i e] at h2;exact hi _ h2
    | tnil i T v hi =>
      refine .tnil i T v fun cs' h2=>?_
      by_cases e:i=k2
      · subst e;exact hi _ hk2'
      · rw [hlk i e] at h2;exact hi _ h2
    | agg cs vs u hl hv _ ih=>exact .agg cs vs u hl hv ih
    | tup cs vs u hl hv _ ih=>exact .tup cs vs u hl hv ih
    | fn f xs ys vs ws u t hl hv _ hl' hv' _ ih ih'=>exact .fn f xs ys vs ws u t hl hv ih hl' hv' ih'
  refine ⟨⟨h'.rel.inj,h'.rel.apart,h'.rel.old,fun i b cc hi=>?_,fun i o h1 h2=>?_⟩,fun t x hx=>?_,?_,h'.df,h'.sz,h'.kk⟩
  · obtain ⟨o1,h1,h2⟩:=h'.rel.obj i b cc hi
    by_cases e:i=k2
    · subst e
      rw [hk2'] at h1;cases h1
      refine ⟨_,hlk2,?_⟩
      cases h2 with
      | box _ e' r u h5 hl hv hr =>
        refine .box _ e' r u h5 (by simpa using hl) (fun q x hq=>?_) fun q x hq=>?_
        · by_cases eq:q=j
          · subst eq;exact hv q _ hj
          · rw [List.getElem?_set_ne (Ne.symm eq)] at hq;exact hv q x hq
        · by_cases eq:q=j
          · subst eq
            have hlt:q<cs.length:=(List.getElem?_eq_some_iff.1 hj).1
            rw [List.getElem?_set_self hlt] at hq;cases hq
            have hnil:=(hr q _ hj).val
            rw [hnil]
            refine .sl _ _ _ fun s1 els1 h1=>?_
            rw [hlk _ hne,z0b] at h1
            cases h1
            exact ⟨Nat.zero_le _,fun _=>.inr ⟨hk,rfl,rfl⟩⟩
          · rw [List.getElem?_set_ne (Ne.symm eq)] at hq;exact hconv _ _ (hr q x hq)
    · refine ⟨o1,(hlk i e).trans h1,?_⟩
      cases h2 with
      | box cs' e' r u h hl hv hr=>exact .box cs' e' r u h hl hv fun q x hq=>hconv _ _ (hr q x hq)
      | row s' els' r u h hs hl hm hw hv hr=>exact .row s' els' r u h hs hl hm hw hv hr
      | map es r t u h hl hv hr=>exact .map es r t u h hl hv hr
  · by_cases e:i=k2
    · subst e
      obtain ⟨s',h3⟩:=h'.rel.real i _ hk2' h2
      cases h3
    · rw [hlk i e] at h1;exact h'.rel.real i o h1 h2
  · obtain ⟨v,hv,hr⟩:=h'.fr t x hx
    exact ⟨v,hv,hconv _ _ hr⟩
  · have t:=h'.tr
    refine ⟨t.os,t.tape,t.output,t.size,t.blk,t.own,fun i a1 a2 e1 e2=>?_,fun i a1 a2 e1 e2=>?_,fun i s1 s2 a1 a2 e1 e2 hl=>?_,fun i s1 s2 a1 a2 e1 e2=>?_,fun i a2 e2=>?_,fun i a2 e2=>?_,fun i s1 a2 e2=>?_⟩
    all_goals by_cases e:i=k2
    · subst e;exact t.box i _ _ e1 hk2'
    · rw [hlk i e] at e2;exact t.box i _ _ e1 e2
    · subst e;rw [hlk2] at e2;cases e2
    · rw [hlk i e] at e2;exact t.map i _ _ e1 e2
    · subst e;rw [hlk2] at e2;cases e2
    · rw [hlk i e] at e2;exact t.row i _ _ _ _ e1 e2 hl
    · subst e;rw [hlk2] at e2;cases e2
    · rw [hlk i e] at e2;exact t.grow i _ _ _ _ e1 e2
    · subst e;exact t.kindB i _ hk2'
    · rw [hlk i e] at e2;exact t.kindB i _ e2
    · subst e;rw [hlk2] at e2;cases e2
    · rw [hlk i e] at e2;exact t.kindM i _ e2
    · subst e;rw [hlk2] at e2;cases e2
    · rw [hlk i e] at e2;exact t.kindR i _ _ e2
theorem tup2_sub {F:Nat->Prop} {ρ:Loc} {w:World} {x x' y:IV} {v:Value} (hx:∀ v,RepI F ρ σ w x v->RepI F ρ σ w x' v) (h:RepI F ρ σ w (.tup [x,y]) v):RepI F ρ σ w (.tup [x',y]) v:=by
  cases h with
  | tup _ vs u hl hv hr =>
    refine .tup _ vs u hl (fun j z hj=>?_) fun j z hj=>?_
    · match j,hj with
      | 0,_=>exact hv 0 x rfl
      | 1,hj=>exact hv 1 y rfl
      | j+2,hj=>simp at hj
    · match j,hj with
      | 0,hj=>cases hj;exact hx _ (hr 0 x rfl)
      | 1,hj=>cases hj;exact hr 1 y rfl
      | j+2,hj=>simp at hj
end
section
variable {P:Program} {c:Cx} {fr:Fr} {hp:Hp} {Q:Exit->Fr->Heap'->Prop}
theorem ok_max {R1:Nat->Prop} {o:Oper} {σ:Heap'} {t:TypeId} {x y:Operand} {k:IntKind} {m n:Int} (ho:o.op = .call { callee:=.builtin .max,args:=#[x,y],argTypes:=#[t,t] }) (hx:fr.ev x=some (.pv (.val (.int k m)))) (hy:fr.ev y=some (.pv (.val (.int k n)))) :
    OkV P c R1 o fr σ (.pv (.val (.int k (if m<n then n else m)))):=by
  intro ρ w a h
  refine ⟨.int k (if m<n then n else m),fun w2 _=>?_,z0r _⟩
  simp [execOp,ho,z03 h hx,z03 h hy,resolve,invoke,builtin,Builtin.max_,Builtin.max2]
end
end Go.Proofs.Ytnpiekoeammkgaa
