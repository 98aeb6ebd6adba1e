/- PART 1 of 9 of a proof: see the last part. -/
import Derived.Deep.Fields
import Derived.Deep.MidRow
import Derived.Ground.GgzProg
import Derived.Ground.SlgmProg
import Derived.JoinedCond
import Derived.Laws.BytesString
import Derived.Laws.Cells
import Derived.Laws.Pointers
import Derived.Lib.AppendZeros
import Derived.Lib.ItoaLen
import Derived.Lib.ItoaMem
import Derived.Lib.LaidTab
import Derived.MapKept
import Derived.OpenShut
import Derived.OrdersHeld
import Derived.ProofKit
import Derived.SevenTiedAt
import Derived.Shelf.SlIter.Nil
import Derived.Shelf.SlMaps.Clone
import Derived.Shelf.SortM.Plain
import Derived.Shelf.SortM.SortNone
import Derived.Shelf.Strconv.Itoa4
import Derived.SizedLaws
import Derived.Sort.KeysCollected
import Derived.Still
import Derived.StillTactics
import Derived.Tactics2
import Derived.Test.YtjlaalpfpecikaaGreatDoorCards
import Derived.Test.YtjlaalpfpecikaaGreatDoorChecked
import Derived.Test.YtjlaalpfpecikaaGreatDoorProg
import Derived.Test.YtjlaalpfpecikaaGreatDoorRows
import Derived.Test.YtjlaalpfpecikaaGreatDoorTie
import Derived.WalkKit
import Derived.WideKeyArgs
import Derived.WideKeyRuns
set_option maxRecDepth 20000
set_option maxHeartbeats 8000000
set_option linter.unusedSimpArgs false
set_option linter.unusedVariables false
set_option linter.unusedSectionVars false
namespace Go.Proofs.YtjlaalpfpecikaaGreatDoor
open Go
theorem Gf:True:=True.intro
theorem Gg{α0:Sort _}{a0:α0}:a0=a0/\True:=⟨rfl,trivial⟩
theorem Gi{α0 α1:Sort _}{a0:α0}{a1:α1}:a0=a0/\a1=a1/\True:=⟨rfl,rfl,trivial⟩
theorem Gj{α0 α1 α2:Sort _}{a0:α0}{a1:α1}{a2:α2}:a0=a0/\a1=a1/\a2=a2/\True:=⟨rfl,rfl,rfl,trivial⟩
theorem Gk{α0 α1 α2 α3:Sort _}{a0:α0}{a1:α1}{a2:α2}{a3:α3}:a0=a0/\a1=a1/\a2=a2/\a3=a3/\True:=⟨rfl,rfl,rfl,rfl,trivial⟩
theorem Gl{α0 α1 α2 α3 α4:Sort _}{a0:α0}{a1:α1}{a2:α2}{a3:α3}{a4:α4}:a0=a0/\a1=a1/\a2=a2/\a3=a3/\a4=a4/\True:=⟨rfl,rfl,rfl,rfl,rfl,trivial⟩
theorem Gm{α0 α1 α2 α3 α4 α5:Sort _}{a0:α0}{a1:α1}{a2:α2}{a3:α3}{a4:α4}{a5:α5}:a0=a0/\a1=a1/\a2=a2/\a3=a3/\a4=a4/\a5=a5/\True:=⟨rfl,rfl,rfl,rfl,rfl,rfl,trivial⟩
theorem Gp{α0 α1 α2 α3 α4 α5 α6:Sort _}{a0:α0}{a1:α1}{a2:α2}{a3:α3}{a4:α4}{a5:α5}{a6:α6}:a0=a0/\a1=a1/\a2=a2/\a3=a3/\a4=a4/\a5=a5/\a6=a6/\True:=⟨rfl,rfl,rfl,rfl,rfl,rfl,rfl,trivial⟩
abbrev A0:=@Bool.and_eq_true
abbrev A1:=@if_neg
abbrev A3:=@List.length_cons
abbrev A4:=@ByteArray.size_append
abbrev A5:=@if_pos
abbrev A6:=@List.length_nil
abbrev A7:=@List.getElem?_eq_some_iff
abbrev A8:=@Option.map_eq_some_iff
abbrev A9:=@absurd
abbrev Aa:=@beq_eq_false_iff_ne
abbrev Ab:=@List.length_map
abbrev Ac:=@Nat.lt_succ_self
abbrev Ad:=@List.getElem?_eq_getElem
abbrev Ae:=@List.drop_eq_nil_of_le
abbrev Af:=@List.mem_of_getElem?
abbrev Ag:=@Nat.le_refl
abbrev Ah:=@congrArg
abbrev Ai:=@Sem.run_bind
abbrev Aj:=@Nat.zero_le
abbrev Ak:=@Nat.eq_of_beq_eq_true
abbrev Al:=@List.mem_singleton
abbrev Am:=@of_decide_eq_false
abbrev An:=@Nat.not_lt_zero
abbrev Ao:=@Option.bind_eq_some_iff
abbrev Ap:=@of_decide_eq_true
abbrev Aq:=@List.mem_cons
abbrev As:=@Bool.false_eq_true
abbrev At:=@beq_iff_eq
abbrev Au:=@List.getElem?_append_left
abbrev Av:=@eq_of_beq
abbrev Aw:=@Result.andThen_ok
abbrev Ax:=@List.getD_eq_getElem?_getD
abbrev Ay:=@List.eq_nil_of_length_eq_zero
abbrev Az:=@List.take_of_length_le
abbrev B0:=@Array.getD_eq_getD_getElem?
abbrev B3:=@List.mem_append
abbrev B4:=@List.getElem?_append_right
abbrev B5:=@Nat.le_of_ble_eq_true
abbrev B6:=@Bool.true_and
abbrev B7:=@List.map_cons
abbrev B8:=@List.length_append
abbrev B9:=@run_underlying
abbrev Ba:=@decide_eq_true_eq
abbrev Bb:=@Bool.or_eq_true
abbrev Bc:=@List.getElem?_map
abbrev Be:=@List.cons_append
abbrev Bf:=@Bool.true_or
abbrev Bg:=@Nat.lt_of_lt_of_le
abbrev Bh:=@Array.getElem?_toList
abbrev Bi:=@Bool.not_eq_true'
abbrev Bj:=@List.all_eq_true
abbrev Bk:=@Bool.or_true
abbrev Bl:=@Nat.le_add_right
abbrev Bm:=@Nat.le_trans
abbrev Bn:=@Bool.or_eq_false_iff
abbrev Bo:=@List.getElem?_set_ne
abbrev Bp:=@List.getElem?_set_self
abbrev Bq:=@List.mem_append_left
abbrev Br:=@List.sizeOf_lt_of_mem
abbrev Bs:=@List.filter_cons_of_pos
abbrev Bt:=@Option.bind_some
abbrev Bu:=@Nat.zero_add
abbrev Bv:=@if_false
abbrev Bw:=@Array.length_toList
abbrev Bx:=@Nat.zero_lt_one
abbrev By:=@Classical.byContradiction
abbrev Bz:=@List.mem_map
abbrev C0:=@Option.some.inj
abbrev C1:=@List.not_mem_nil
abbrev C2:=@Nat.mul_le_mul_right
abbrev C3:=@List.getElem?_take
abbrev C4:=@Ne.symm
abbrev C5:=@List.filter_cons_of_neg
abbrev C6:=@if_true
abbrev C7:=@Nat.le_of_lt_succ
abbrev C8:=@List.map_set
abbrev C9:=@List.mem_append_right
abbrev Ca:=@Nat.add_zero
abbrev Cb:=@decide_eq_true
abbrev Cc:=@Array.getElem?_eq_some_iff
abbrev Cd:=@Bool.and_true
abbrev Ce:=@Bool.false_or
abbrev Cf:=@List.exists_cons_of_ne_nil
abbrev Cg:=@decide_eq_false_iff_not
abbrev Ch:=@Sem.run_pure
abbrev Ci:=@List.append_assoc
abbrev Cj:=@Option.getD_some
abbrev Ck:=@List.contains_append
abbrev Cl:=@Option.some.injEq
abbrev Cm:=@List.prefix_refl
abbrev Cn:=@Bool.eq_iff_iff
abbrev Co:=@MapKept.run_getObj_map
abbrev Cp:=@List.map_append
abbrev Cq:=@ByteArray.size_extract
abbrev Cr:=@List.nodup_append
abbrev Cs:=@Oper.upon_value
abbrev Ct:=@List.getElem?_drop
abbrev Cu:=@Addr.add_mid
abbrev Cv:=@List.map_nil
abbrev Cw:=@Array.getElem?_setIfInBounds
abbrev Cy:=@List.append_nil
abbrev Cz:=@List.getElem?_concat_length
abbrev D0:=@List.length_pos_iff
abbrev D1:=@Bool.and_false
abbrev D2:=@Bool.false_and
abbrev D3:=@IntWalk.i64_in
abbrev D4:=@List.getElem_mem
abbrev D5:=@List.getElem?_cons_zero
abbrev D6:=@List.mem_cons_self
abbrev D7:=@cond_false
abbrev D8:=@List.drop_eq_getElem_cons
abbrev D9:=@List.mem_or_eq_of_mem_set
abbrev Da:=@Option.map_some
abbrev Db:=@List.length_take
abbrev Dc:=@List.take_append_drop
abbrev Dd:=@Int.le_refl
abbrev De:=@List.all_cons
abbrev Df:=@List.mem_map_of_mem
abbrev Dg:=@Nat.add_mul
abbrev Dh:=@List.set_append_right
abbrev Di:=@Nat.beq_refl
abbrev Dj:=@Nat.min_eq_left
abbrev Dk:=@decide_eq_false
abbrev Dl:=@List.eq_of_mem_replicate
abbrev Dm:=@World.cell?_of_block
abbrev Dn:=@Bool.not_false
abbrev Do:=@Array.toList_append
abbrev Dp:=@List.mem_filter
abbrev Dq:=@List.nil_append
abbrev Dr:=@MapKept.run_findKey
abbrev Ds:=@Array.getElem?_eq_none
abbrev Dt:=@ByteArray.data_extract
abbrev Du:=@Int.tdiv_eq_ediv_of_nonneg
abbrev Dv:=@Bool.not_eq_true
abbrev Dw:=@Int.zero_add
abbrev Dx:=@List.getElem?_toArray
abbrev Dy:=@Nat.lt_or_ge
abbrev Dz:=@Prod.mk.injEq
abbrev E3:=@MapKept.run_checkKey
abbrev E4:=@List.foldl_append
abbrev E5:=@List.length_set
abbrev E6:=@cond_true
abbrev E7:=@List.getElem?_replicate
abbrev E8:=@List.takeWhile_cons
abbrev E9:=@Nat.le_mul_of_pos_right
abbrev Ea:=@Bool.and_assoc
abbrev Eb:=@List.length_eq_one_iff
abbrev Ec:=@Prod.ext
abbrev Ed:=@Array.getElem?_modify
abbrev Ee:=@List.foldl_cons
abbrev Ef:=@List.length_replicate
abbrev Eg:=@List.map_map
abbrev Eh:=@List.nodup_cons
abbrev Ei:=@Prod.mk.inj
abbrev Ej:=@and_congr_right
abbrev Ek:=@List.map_take
abbrev El:=@Array.getElem?_append_left
abbrev Em:=@List.getLast?_eq_getElem?
abbrev En:=@List.mem_range
abbrev Eo:=@List.cons_ne_nil
abbrev Ep:=@List.length_drop
abbrev Er:=@List.take_length
abbrev Es:=@Nat.mod_eq_of_lt
abbrev Et:=@Array.getElem?_push
abbrev Eu:=@wpList_plain
abbrev Ev:=@Bool.or_false
abbrev Ew:=@List.contains_cons
abbrev Ey:=@List.getLast?_cons_cons
abbrev Ez:=@List.filter_eq_nil_iff
abbrev F0:=@Bool.eq_false_iff
abbrev F2:=@List.flatMap_cons
abbrev F3:=@List.size_toArray
abbrev F4:=@Nat.mul_add
abbrev F5:=@run_storeCells_at
abbrev F6:=@List.takeWhile_prefix
abbrev F7:=@Nat.add_comm
abbrev F8:=@Nat.add_mul_div_right
abbrev F9:=@setRow_other
abbrev Fa:=@Array.toList_inj
abbrev Fb:=@Nat.div_eq_of_lt
abbrev Fc:=@List.forall_mem_cons
abbrev Fd:=@List.drop_succ_cons
abbrev Fe:=@List.replicate_succ
abbrev Ff:=@List.take_succ_cons
abbrev Fg:=@Nat.le_succ
abbrev Fh:=@Oper.upon_enter
abbrev Fi:=@Option.map_none
abbrev Fj:=@setRow_heap
abbrev Fk:=@List.set_cons_zero
abbrev Fm:=@List.set_set
abbrev Fo:=@grownCap_le_maxLen
abbrev Fp:=@or_false
abbrev Fq:=@Array.ext'
abbrev Fs:=@MapKept.bytes_beq
abbrev Ft:=@World.cells?_some
abbrev Fv:=@Bool.not_true
abbrev Fx:=@Nat.add_assoc
abbrev Fy:=@List.isEmpty_iff
abbrev Fz:=@Bool.or_self
abbrev G2:=@List.all_nil
abbrev G3:=@Nat.le_of_lt
abbrev G4:=@callsIn_wide
abbrev G5:=@DataW.trod_int
abbrev G6:=@Int.mul_nonneg
abbrev G7:=@Nat.mul_le_mul
abbrev G8:=@run_loadAt_mid
abbrev G9:=@size_zeroCells
abbrev Ga:=@wp_region_list
abbrev Gb:=@Nat.one_mul
abbrev Gc:=@List.any_cons
abbrev Gd:=@Nat.mod_lt
abbrev Ge:=@wp_mono
theorem kR0{α:Sort _}{a b:α}(h:a=b:=by kernel_rfl):a=b:=h
theorem oM0{p:Prop}(h:p:=by omega):p:=h
theorem sI0{p:Prop}(h:p:=by simp):p:=h
theorem dC0{p:Prop}(h:p:=by decide):p:=h
theorem h30{α β γ:Sort _}:α → β → γ → False → False:=λ_ _ _ h=>h
def tabs:List (Nat×Array Value):=[(0,(Lib.pow10Tab.map λz=>Value.int .u64 z).toArray)]
inductive PV where
 |val (v:Value)
 |seq (els:List (List PV))
 |agg (cs:List PV)
 |ept (cs:List PV) (off:Nat)
instance:Inhabited PV:=⟨.val default⟩
inductive IV where
 |pv (p:PV)
 |ptr (k off:Nat)
 |sl (k len:Nat)
 |rpt (k len off:Nat)
 |sp (k n len:Nat)
 |bs (k n:Nat)
 |mp (k:Nat)
 |tnil (k T:Nat)
 |agg (cs:List IV)
 |tup (vs:List IV)
 |fn (f:Fn) (first cap:List IV)
instance:Inhabited IV:=⟨.pv default⟩
structure RT where
 e:TypeId
 n:Nat
inductive HO where
 |box (cs:List IV)
 |row (s:RT) (els:List (List PV))
 |map (es:List (Value×PV))
abbrev Heap':=Nat->Option HO
abbrev Loc:=Nat->Option (Nat×Nat)
inductive RepP(own:Nat->Prop)(w:World):PV->Value->Prop where
 |val (v:Value):RepP own w (.val v) v
 |seq (els:List (List PV)) (a:Option Addr) (cap b off:Nat) (u:Nat->Nat->Value)
  (ha:els≠[]->a=some ⟨b,off,none⟩) (hb:els≠[] -> ¬own b/\b<w.heap.size) (hl:els.length<=cap) (hm:cap<=maxLen)
  (hc:∀i el,els[i]?=some el->∀j c,el[j]?=some c->w.cell? ⟨b,off+i*el.length+j,none⟩=some (u i j))
  (hr:∀i el,els[i]?=some el->∀j c,el[j]?=some c->RepP own w c (u i j)):RepP own w (.seq els) (.slice a els.length cap)
 |agg (cs:List PV) (vs:Array Value) (u:Nat->Value) (hl:vs.size=cs.length) (hv:∀j c,cs[j]?=some c->vs[j]?=some (u j))
  (hr:∀j c,cs[j]?=some c->RepP own w c (u j)):RepP own w (.agg cs) (.agg vs)
 |ept (cs:List PV) (off b o:Nat) (u:Nat->Value) (hb:¬own b/\b<w.heap.size)
  (hc:∀j c,cs[j]?=some c->w.cell? ⟨b,o+j,none⟩=some (u j))
  (hr:∀j c,cs[j]?=some c->RepP own w c (u j)):RepP own w (.ept cs off) (.pointer (some ⟨b,o+off,none⟩))
def owned(F:Nat->Prop)(ρ:Loc)(b:Nat):Prop:=F b∨∃k c,ρ k=some (b,c)
inductive RepI(F:Nat->Prop)(ρ:Loc)(σ:Heap')(w:World):IV->Value->Prop where
 |tnil (k T:Nat) (v:Value) (h:∀cs,σ k=some (.box cs)->∃b,ρ k=some (b,T)/\v=.pointer none):RepI F ρ σ w (.tnil k T) v
 |pv (p:PV) (v:Value) (h:RepP (owned F ρ) w p v):RepI F ρ σ w (.pv p) v
 |ptr (k off:Nat) (v:Value) (h:∀cs,σ k=some (.box cs)->∃b c,ρ k=some (b,c)/\v=.pointer (some ⟨b,off,none⟩)):RepI F ρ σ w (.ptr k off) v
 |sl (k len:Nat) (v:Value) (h:∀s els,σ k=some (.row s els)->len<=els.length/\(els.length=len ->
  (∃b c,ρ k=some (b,c)/\v=.slice (some ⟨b,0,none⟩) len c)∨(ρ k=none/\len=0/\v=.slice none 0 0))):RepI F ρ σ w (.sl k len) v
 |rpt (k len off:Nat) (v:Value) (h:∀s els,σ k=some (.row s els)->len<=els.length/\(els.length=len->∃b c,ρ k=some (b,c)/\v=.pointer (some ⟨b,off,none⟩))):RepI F ρ σ w (.rpt k len off) v
 |sp (k n len:Nat) (v:Value) (h:∀s els,σ k=some (.row s els)->len<=els.length/\(els.length=len->(n<=len/\∃b c,ρ k=some (b,c)/\v=.slice (some ⟨b,0,none⟩) n c)∨(ρ k=none/\len=0/\n=0/\v=.slice none 0 0))):RepI F ρ σ w (.sp k n len) v
 |bs (k n:Nat) (v:Value) (h:∀cs,σ k=some (.box cs)->∃b c,ρ k=some (b,c)/\n<=c/\c<=maxLen/\v=.slice (some ⟨b,0,none⟩) n c):RepI F ρ σ w (.bs k n) v
 |mp (k:Nat) (v:Value) (h:∀es,σ k=some (.map es)->∃b c,ρ k=some (b,c)/\v=.map (some b)):RepI F ρ σ w (.mp k) v
 |agg (cs:List IV) (vs:Array Value) (u:Nat->Value) (hl:vs.size=cs.length) (hv:∀j c,cs[j]?=some c->vs[j]?=some (u j))
  (hr:∀j c,cs[j]?=some c->RepI F ρ σ w c (u j)):RepI F ρ σ w (.agg cs) (.agg vs)
 |tup (cs:List IV) (vs:Array Value) (u:Nat->Value) (hl:vs.size=cs.length) (hv:∀j c,cs[j]?=some c->vs[j]?=some (u j))
  (hr:∀j c,cs[j]?=some c->RepI F ρ σ w c (u j)):RepI F ρ σ w (.tup cs) (.tuple vs)
 |fn (f:Fn) (xs ys:List IV) (vs ws:Array Value) (u t:Nat->Value) (hl:vs.size=xs.length) (hv:∀j c,xs[j]?=some c->vs[j]?=some (u j))
  (hr:∀j c,xs[j]?=some c->RepI F ρ σ w c (u j)) (hl':ws.size=ys.length) (hv':∀j c,ys[j]?=some c->ws[j]?=some (t j))
  (hr':∀j c,ys[j]?=some c->RepI F ρ σ w c (t j)):RepI F ρ σ w (.fn f xs ys) (.func f vs ws)
def j5i:Nat:=18446744073709551616
def tyOk(c e n:Nat):Prop:=(j5i<=c->c=j5i+e/\n=2)/\(2<=c->c<=maxLen->c<=n)
theorem tyOk1(e n:Nat):tyOk 1 e n:=⟨λh=>A9 h dC0,λh=>A9 h dC0⟩
inductive RepO(F:Nat->Prop)(ρ:Loc)(σ:Heap')(w:World)(b c:Nat):HO->Prop where
 |box (cs:List IV) (e:TypeId) (a:Array Value) (u:Nat->Value) (h:w.heap[b]?=some (.cells a e (0,0))) (hl:cs.length<=a.size)
  (hv:∀j x,cs[j]?=some x->a[j]?=some (u j)) (hr:∀j x,cs[j]?=some x->RepI F ρ σ w x (u j)) (ht:tyOk c e a.size:=by first|exact tyOk1 _ _|assumption|(simp only[Array.size_setIfInBounds];assumption)):RepO F ρ σ w b c (.box cs)
 |row (s:RT) (els:List (List PV)) (a:Array Value) (u:Nat->Nat->Value) (h:w.heap[b]?=some (.cells a s.e (0,0))) (hs:a.size=c*s.n) (hl:els.length<=c) (hm:c<=maxLen)
  (hw:∀el∈els,el.length=s.n) (hv:∀i el,els[i]?=some el->∀j x,el[j]?=some x->a[i*s.n+j]?=some (u i j))
  (hr:∀i el,els[i]?=some el->∀j x,el[j]?=some x->RepP (owned F ρ) w x (u i j)):RepO F ρ σ w b c (.row s els)
 |map (es:List (Value×PV)) (a:Array MapEntry) (t:Nat) (u:Nat->Value) (h:w.heap[b]?=some (.map a t)) (hl:a.size=es.length)
  (hv:∀i k p,es[i]?=some (k,p)->∃m:MapEntry,a[i]?=some m/\m.key=k/\m.val=u i)
  (hr:∀i k p,es[i]?=some (k,p)->RepP (owned F ρ) w p (u i)) (hst:MapKept.Stamped a t:=by first|assumption|exact MapKept.stamped_empty _):RepO F ρ σ w b c (.map es)
structure RelH(F:Nat->Prop)(ρ:Loc)(σ:Heap')(w:World):Prop where
 inj:∀k k' b c c',ρ k=some (b,c) -> ρ k'=some (b,c')->k=k'
 apart:∀k b c,ρ k=some (b,c) -> ¬F b
 old:∀b,F b->b<w.heap.size
 obj:∀k b c,ρ k=some (b,c)->∃o,σ k=some o/\RepO F ρ σ w b c o
 real:∀k o,σ k=some o -> ρ k=none->∃s,o=.row s []
theorem RelH.ty{F:Nat->Prop}{ρ:Loc}{σ:Heap'}{w:World}(h:RelH F ρ σ w){k b cc:Nat}{cs:List IV}{r:Array Value}{e:TypeId}{f:Nat×Nat}(hk:σ k=some (.box cs))(hρ:ρ k=some (b,cc))(h3:w.heap[b]?=some (.cells r e f)):tyOk cc e r.size:=by
 obtain⟨o,h1,h2⟩:=h.obj k b cc hρ;rw[hk]at h1;cases h1
 cases h2 with
 |box _ e' a u h4 hl hv hr ht=>rw[h3]at h4;cases h4;exact ht
theorem RepO.lt{F:Nat->Prop}{ρ:Loc}{σ:Heap'}{w:World}{b c:Nat}{o:HO}(h:RepO F ρ σ w b c o):b<w.heap.size:=by
 cases h<;>(rename_i h _ _ ; rcases Dy b w.heap.size with g|g;exact g;simp[Ds g]at *)
theorem RelH.lt{F:Nat->Prop}{ρ:Loc}{σ:Heap'}{w:World}(h:RelH F ρ σ w){k b c:Nat}(hk:ρ k=some (b,c)):b<w.heap.size:=by
 obtain⟨o,_,ho⟩:=h.obj k b c hk;exact ho.lt
theorem RelH.own_lt{F:Nat->Prop}{ρ:Loc}{σ:Heap'}{w:World}(h:RelH F ρ σ w){b:Nat}(hb:owned F ρ b):b<w.heap.size:=by
 rcases hb with hb|⟨k,c,hk⟩
 ·exact h.old b hb
 ·exact h.lt hk
theorem RepP.keep{own own':Nat->Prop}{w w':World}{p:PV}{v:Value}(h:RepP own w p v)(hs:w.heap.size<=w'.heap.size)
 (hk:∀b,b<w.heap.size -> ¬own b->w'.heap[b]?=w.heap[b]? /\ ¬own' b):RepP own' w' p v:=by
 induction h with
 |val v=>exact .val v
 |seq els a cap b off u ha hb hl hm hc _ ih =>
  refine .seq els a cap b off u ha (λhne=>⟨(hk b (hb hne).2 (hb hne).1).2,Bg (hb hne).2 hs⟩) hl hm (λi el hi j c hj=>?_) ih;have hne:els≠[]:=by intro h0;simp[h0]at hi
  rw[<- hc i el hi j c hj]
  exact Dm (a:=⟨b,_,none⟩) (hk b (hb hne).2 (hb hne).1).1
 |agg cs vs u hl hv _ ih=>exact .agg cs vs u hl hv ih
 |ept cs off b o u hb hc _ ih =>
  refine .ept cs off b o u ⟨(hk b hb.2 hb.1).2,Bg hb.2 hs⟩ (λj c hj=>?_) ih;rw[<- hc j c hj];exact Dm (a:=⟨b,_,none⟩) (hk b hb.2 hb.1).1
inductive Names(P:Nat->Prop):IV->Prop where
 |ptr {k off:Nat} (h:P k):Names P (.ptr k off)
 |sl {k len:Nat} (h:P k):Names P (.sl k len)
 |rpt {k len off:Nat} (h:P k):Names P (.rpt k len off)
 |sp {k n len:Nat} (h:P k):Names P (.sp k n len)
 |bs {k n:Nat} (h:P k):Names P (.bs k n)
 |mp {k:Nat} (h:P k):Names P (.mp k)
 |tnil {k T:Nat} (h:P k):Names P (.tnil k T)
 |agg {cs:List IV} {c:IV} (hc:c∈cs) (h:Names P c):Names P (.agg cs)
 |tup {cs:List IV} {c:IV} (hc:c∈cs) (h:Names P c):Names P (.tup cs)
 |fn1 {f:Fn} {xs ys:List IV} {c:IV} (hc:c∈xs) (h:Names P c):Names P (.fn f xs ys)
 |fn2 {f:Fn} {xs ys:List IV} {c:IV} (hc:c∈ys) (h:Names P c):Names P (.fn f xs ys)
structure Trans(F:Nat->Prop)(R:Nat->Prop)(ρ:Loc)(σ:Heap')(w:World)(ρ':Loc)(σ':Heap')(w':World):Prop where
 os:w'.os=w.os
 tape:w'.tape=w.tape
 output:w'.output=w.output
 size:w.heap.size<=w'.heap.size
 blk:∀b,b<w.heap.size->(∀k c,ρ k=some (b,c)->R k)->w'.heap[b]?=w.heap[b]?
 own:∀k b c,ρ' k=some (b,c)->b<w.heap.size -> ρ k=some (b,c)∨∃k0 c0,ρ k0=some (b,c0) /\ ¬R k0
 box:∀k cs cs',σ k=some (.box cs) -> σ' k=some (.box cs') -> ρ' k=ρ k
 map:∀k es es',σ k=some (.map es) -> σ' k=some (.map es') -> ρ' k=ρ k
 row:∀k s s' els els',σ k=some (.row s els) -> σ' k=some (.row s' els')->els'.length=els.length -> ρ' k=ρ k
 grow:∀k s s' els els',σ k=some (.row s els) -> σ' k=some (.row s' els')->els.length<=els'.length
 kindB:∀k cs',σ' k=some (.box cs') -> σ k=none∨∃cs,σ k=some (.box cs)
 kindM:∀k es',σ' k=some (.map es') -> σ k=none∨∃es,σ k=some (.map es)
 kindR:∀k s els',σ' k=some (.row s els') -> σ k=none∨∃els,σ k=some (.row s els)
theorem owned.keep{F R:Nat->Prop}{ρ ρ':Loc}{σ σ':Heap'}{w w':World}(t:Trans F R ρ σ w ρ' σ' w'){b:Nat}(hb:b<w.heap.size)(hn:¬owned F ρ b):w'.heap[b]?=w.heap[b]? /\ ¬owned F ρ' b:=by
 refine⟨t.blk b hb λk c hk=>A9 (.inr ⟨k,c,hk⟩) hn,λho=>hn ?_⟩;rcases ho with ho|⟨k,c,hk⟩
 ·exact .inl ho
 ·rcases t.own k b c hk hb with g|⟨k0,c0,g,_⟩
  ·exact .inr ⟨k,c,g⟩
  ·exact .inr ⟨k0,c0,g⟩
def Kept(w:World)(own:Nat->Prop):Prop:=∀e∈tabs,(∃T f,w.heap[e.1]?=some (.cells e.2 T f)) /\ ¬own e.1
theorem Kept.mono{w:World}{own own':Nat->Prop}(h:Kept w own)(hs:∀b,own' b->own b):Kept w own':=λe he=>⟨(h e he).1,λho=>(h e he).2 (hs _ ho)⟩
theorem Kept.keep{F R:Nat->Prop}{ρ ρ':Loc}{σ σ':Heap'}{w w':World}(h:Kept w (owned F ρ))(t:Trans F R ρ σ w ρ' σ' w'):Kept w' (owned F ρ'):=λe he=>by
 obtain⟨⟨T,f,h1⟩,h2⟩:=h e he;obtain⟨k1,k2⟩:=owned.keep t (Cc.1 h1).1 h2;exact⟨⟨T,f,by rw[k1];exact h1⟩,k2⟩
theorem Trans.refl(F R:Nat->Prop)(ρ:Loc)(σ:Heap')(w:World):Trans F R ρ σ w ρ σ w where
 os:=rfl
 tape:=rfl
 output:=rfl
 size:=Ag _
 blk _ _ _:=rfl
 own _ _ _ h _:=.inl h
 box _ _ _ _ _:=rfl
 map _ _ _ _ _:=rfl
 row _ _ _ _ _ _ _ _:=rfl
 grow k s s' els els' h h':=by rw[h]at h';cases h';exact Ag _
 kindB k cs' h:=.inr ⟨_,h⟩
 kindM k es' h:=.inr ⟨_,h⟩
 kindR k s els' h:=.inr ⟨_,h⟩
theorem Trans.trans{F R R':Nat->Prop}{ρ ρ' ρ'':Loc}{σ σ' σ'':Heap'}{w w' w'':World}(t:Trans F R ρ σ w ρ' σ' w')(t':Trans F R' ρ' σ' w' ρ'' σ'' w'')
 (hR:∀k,R k->R' k) (hnew:∀k,σ' k=none -> σ'' k≠none -> σ k=none):Trans F R ρ σ w ρ'' σ'' w'' where
 os:=t'.os.trans t.os
 tape:=t'.tape.trans t.tape
 output:=t'.output.trans t.output
 size:=Bm t.size t'.size
 blk b hb h:=(t'.blk b (Bg hb t.size) λk c hk=>(t.own k b c hk hb).elim (λg=>hR k (h k c g)) λ⟨k0,c0,g,gn⟩=>A9 (h k0 c0 g) gn).trans (t.blk b hb h)
 own k b c h hb:=(t'.own k b c h (Bg hb t.size)).elim (λg=>t.own k b c g hb) λ⟨k0,c0,g,gn⟩=>(t.own k0 b c0 g hb).elim (λq=>.inr ⟨k0,c0,q,λr=>gn (hR k0 r)⟩) .inr
 box k cs cs'' h h'':=by
  rcases t'.kindB k cs'' h'' with h0|⟨cs',h'⟩
  ·rw[hnew k h0 (by simp[h''])]at h;cases h
  ·exact(t'.box k cs' cs'' h' h'').trans (t.box k cs cs' h h')
 map k cs cs'' h h'':=by
  rcases t'.kindM k cs'' h'' with h0|⟨cs',h'⟩
  ·rw[hnew k h0 (by simp[h''])]at h;cases h
  ·exact(t'.map k cs' cs'' h' h'').trans (t.map k cs cs' h h')
 row k s s'' els els'' h h'' hl:=by
  rcases t'.kindR k s'' els'' h'' with h0|⟨els',h'⟩
  ·rw[hnew k h0 (by simp[h''])]at h;cases h
  ·have g:=t.grow k _ _ _ _ h h';have g':=t'.grow k _ _ _ _ h' h'';exact(t'.row k _ _ els' els'' h' h'' oM0).trans (t.row k _ _ els els' h h' oM0)
 grow k s s'' els els'' h h'':=by
  rcases t'.kindR k s'' els'' h'' with h0|⟨els',h'⟩
  ·rw[hnew k h0 (by simp[h''])]at h;cases h
  ·exact Bm (t.grow k _ _ _ _ h h') (t'.grow k _ _ _ _ h' h'')
 kindB k cs'' h'':=by
  rcases t'.kindB k cs'' h'' with h0|⟨cs',h'⟩
  ·exact .inl (hnew k h0 (by simp[h'']))
  ·exact t.kindB k cs' h'
 kindM k cs'' h'':=by
  rcases t'.kindM k cs'' h'' with h0|⟨cs',h'⟩
  ·exact .inl (hnew k h0 (by simp[h'']))
  ·exact t.kindM k cs' h'
 kindR k s els'' h'':=by
  rcases t'.kindR k s els'' h'' with h0|⟨els',h'⟩
  ·exact .inl (hnew k h0 (by simp[h'']))
  ·exact t.kindR k s els' h'
theorem RepP.trans'{F R:Nat->Prop}{ρ ρ':Loc}{σ σ':Heap'}{w w':World}(t:Trans F R ρ σ w ρ' σ' w'){p:PV}{v:Value}(h:RepP (owned F ρ) w p v):RepP (owned F ρ') w' p v :=
 h.keep t.size λ_ hb hn=>owned.keep t hb hn
theorem RepI.trans'{F R:Nat->Prop}{ρ ρ':Loc}{σ σ':Heap'}{w w':World}(t:Trans F R ρ σ w ρ' σ' w'){x:IV}{v:Value}(h:RepI F ρ σ w x v)
 (hn:¬Names (λk=>σ k=none /\ σ' k≠none) x):RepI F ρ' σ' w' x v:=by
 induction h with
 |pv p v h=>exact .pv p v (h.trans' t)
 |tnil k T v h =>
  refine .tnil k T v λcs' h'=>?_;rcases t.kindB k cs' h' with h0|⟨cs,h0⟩
  ·exact A9 (Names.tnil ⟨h0,by simp[h']⟩) hn
  ·obtain⟨b,hk,hv⟩:=h cs h0
   exact⟨b,(t.box k cs cs' h0 h').trans hk,hv⟩
 |ptr k off v h =>
  refine .ptr k off v λcs' h'=>?_;rcases t.kindB k cs' h' with h0|⟨cs,h0⟩
  ·exact A9 (Names.ptr ⟨h0,by simp[h']⟩) hn
  ·obtain⟨b,c,hk,hv⟩:=h cs h0
   exact⟨b,c,(t.box k cs cs' h0 h').trans hk,hv⟩
 |sl k len v h =>
  refine .sl k len v λs els' h'=>?_;rcases t.kindR k s els' h' with h0|⟨els,h0⟩
  ·exact A9 (Names.sl ⟨h0,by simp[h']⟩) hn
  ·have h1:=h s els h0;have hg:=t.grow k s s els els' h0 h';refine⟨Bm h1.1 hg,λhl=>?_⟩;have he:els.length=len:=by have:=h1.1;omega
   have hr:=t.row k s s els els' h0 h' oM0;rcases h1.2 he with⟨b,c,hk,hv⟩|⟨hk,hz,hv⟩
   ·exact .inl ⟨b,c,hr.trans hk,hv⟩
   ·exact .inr ⟨hr.trans hk,hz,hv⟩
 |sp k n len v h =>
  refine .sp k n len v λs els' h'=>?_;rcases t.kindR k s els' h' with h0|⟨els,h0⟩
  ·exact A9 (Names.sp ⟨h0,by simp[h']⟩) hn
  ·have h1:=h s els h0;have hg:=t.grow k s s els els' h0 h';refine⟨Bm h1.1 hg,λhl=>?_⟩;have he:els.length=len:=by have:=h1.1;omega
   have hr:=t.row k s s els els' h0 h' oM0;rcases h1.2 he with⟨hnl,b,c,hk,hv⟩|⟨hk,hz,hv⟩
   ·exact .inl ⟨hnl,b,c,hr.trans hk,hv⟩
   ·exact .inr ⟨hr.trans hk,hz,hv⟩
 |rpt k len off v h =>
  refine .rpt k len off v λs els' h'=>?_;rcases t.kindR k s els' h' with h0|⟨els,h0⟩
  ·exact A9 (Names.rpt ⟨h0,by simp[h']⟩) hn
  ·have h1:=h s els h0;have hg:=t.grow k s s els els' h0 h';refine⟨Bm h1.1 hg,λhl=>?_⟩;have he:els.length=len:=by have:=h1.1;omega
   obtain⟨b,c,hk,hv⟩:=h1.2 he
   exact⟨b,c,(t.row k s s els els' h0 h' oM0).trans hk,hv⟩
 |bs k n v h =>
  refine .bs k n v λcs' h'=>?_;rcases t.kindB k cs' h' with h0|⟨cs,h0⟩
  ·exact A9 (Names.bs ⟨h0,by simp[h']⟩) hn
  ·obtain⟨b,c,hk,hv⟩:=h cs h0
   exact⟨b,c,(t.box k cs cs' h0 h').trans hk,hv⟩
 |mp k v h =>
  refine .mp k v λcs' h'=>?_;rcases t.kindM k cs' h' with h0|⟨cs,h0⟩
  ·exact A9 (Names.mp ⟨h0,by simp[h']⟩) hn
  ·obtain⟨b,c,hk,hv⟩:=h cs h0
   exact⟨b,c,(t.map k cs cs' h0 h').trans hk,hv⟩
 |agg cs vs u hl hv _ ih=>exact .agg cs vs u hl hv λj c hj=>ih j c hj λhc=>hn (.agg (Af hj) hc)
 |tup cs vs u hl hv _ ih=>exact .tup cs vs u hl hv λj c hj=>ih j c hj λhc=>hn (.tup (Af hj) hc)
 |fn f xs ys vs ws u t' hl hv _ hl' hv' _ ih ih' =>
  exact .fn f xs ys vs ws u t' hl hv (λj c hj=>ih j c hj λhc=>hn (.fn1 (Af hj) hc)) hl' hv' (λj c hj=>ih' j c hj λhc=>hn (.fn2 (Af hj) hc))
abbrev Fr:=List (Nat×IV)
def Fr.get:Fr->Nat->Option IV
 |[],_=>none
 |(k,x)::r,t=>bif Nat.beq k t then some x else Fr.get r t
def Fr.put(fr:Fr):Option Nat->IV->Fr
 |some t,x=>(t,x)::fr
 |none,_=>fr
def Fr.ev(fr:Fr):Operand->Option IV
 |.tmp t=>fr.get t
 |.const v=>some (.pv (.val v))
 |.global _=>none
 |.func f=>some (.pv (.val (.func (.func f) #[] #[])))
structure Cx where
 F:Nat->Prop
 R:Nat->Prop
 ρ:Loc
 σ:Heap'
 w:World
 n:Nat
structure All(c:Cx)(ρ:Loc)(σ:Heap')(w:World)(fr:Fr)(a:Act):Prop where
 rel:RelH c.F ρ σ w
 fr:∀t x,fr.get t=some x->∃v,a.tmps[t]?=some v/\RepI c.F ρ σ w x v
 tr:Trans c.F c.R c.ρ c.σ c.w ρ σ w
 df:a.defers=[]
 sz:a.tmps.size=c.n
 kk:Kept c.w (owned c.F c.ρ)
theorem All.kept{c:Cx}{ρ:Loc}{σ:Heap'}{w:World}{fr:Fr}{a:Act}(h:All c ρ σ w fr a):Kept w (owned c.F ρ):=h.kk.keep h.tr
theorem All.ev{c:Cx}{ρ:Loc}{σ:Heap'}{w:World}{fr:Fr}{a:Act}(h:All c ρ σ w fr a){o:Operand}{x:IV}(hx:fr.ev o=some x):RepI c.F ρ σ w x (a.eval o):=by
 cases o with
 |tmp t =>
  obtain⟨v,hv,hr⟩:=h.fr t x hx
  simpa[Act.eval,hv]using hr
 |const v=>cases hx;exact .pv _ _ (.val v)
 |global g=>cases hx
 |func f=>cases hx;exact .pv _ _ (.val _)
theorem All.step{c:Cx}{ρ ρ':Loc}{σ σ':Heap'}{w w':World}{fr:Fr}{a:Act}{R':Nat->Prop}(h:All c ρ σ w fr a)(t:Trans c.F R' ρ σ w ρ' σ' w')(hR:∀k,c.R k->R' k)
 (hrel:RelH c.F ρ' σ' w') (hnew:∀k,σ k=none -> σ' k≠none->c.σ k=none) (hfr:∀t x,fr.get t=some x -> ¬Names (λk=>σ k=none /\ σ' k≠none) x):All c ρ' σ' w' fr a where
 rel:=hrel
 fr t' x hx:=by
  obtain⟨v,hv,hr⟩:=h.fr t' x hx;exact⟨v,hv,hr.trans' t (hfr t' x hx)⟩
 tr:=h.tr.trans t hR hnew
 df:=h.df
 sz:=h.sz
 kk:=h.kk
theorem All.put{c:Cx}{ρ:Loc}{σ:Heap'}{w:World}{fr:Fr}{a:Act}(h:All c ρ σ w fr a){d:Option Tmp}{x:IV}{v:Value}(hx:RepI c.F ρ σ w x v)(hd:∀t,d=some t->t<c.n) :
 All c ρ σ w (fr.put d x) (a.put d v):=by
 cases d with
 |none=>exact h
 |some t =>
  refine⟨h.rel,λt' x' hx'=>?_,h.tr,h.df,by simp[Act.put,h.sz],h.kk⟩;simp only[Fr.put,Fr.get]at hx'
  by_cases e:t=t'
  ·subst e;rw[show Nat.beq t t=true from Di t]at hx';simp only[E6,Cl]at hx';subst hx';exact⟨v,by simp[Act.put,h.sz,hd t rfl],hx⟩
  ·rw[show Nat.beq t t'=false from by cases hb:Nat.beq t t' with|true=>exact A9 (Ak hb) e|false=>rfl]at hx';obtain⟨u,hu,hr⟩:=h.fr t' x' hx';exact⟨u,by simp[Act.put,e,hu],hr⟩
theorem All.weaken{c:Cx}{ρ:Loc}{σ:Heap'}{w:World}{fr fr':Fr}{a:Act}(h:All c ρ σ w fr a)(hs:∀t x,fr'.get t=some x->fr.get t=some x):All c ρ σ w fr' a :=
 ⟨h.rel,λt x hx=>h.fr t x (hs t x hx),h.tr,h.df,h.sz,h.kk⟩
def Ok(P:Program)(c:Cx)(o:Oper)(fr:Fr)(σ:Heap')(x:IV)(σ':Heap'):Prop :=
 ∀ρ w a K Q,All c ρ σ w fr a->(∀ρ' w' v,All c ρ' σ' w' fr a->RepI c.F ρ' σ' w' x v->K (a.put o.dst v) w')->o.wp P a w K Q
def lift(c:Cx)(Q:Exit->Fr->Heap'->Prop)(e:Exit)(a:Act)(w:World):Prop:=∃ρ σ fr,All c ρ σ w fr a/\Q e fr σ
def WL(P:Program)(c:Cx)(ops:Array Oper)(Q:Exit->Fr->Heap'->Prop)(l:List Oper)(fr:Fr)(σ:Heap'):Prop :=
 ∀ρ w a,All c ρ σ w fr a->wpList P ops (lift c Q) l a w
def Tr(P:Program)(c:Cx)(code:Code)(fr:Fr)(σ:Heap')(Q:Exit->Fr->Heap'->Prop):Prop :=
 ∀ρ w a,All c ρ σ w fr a->code.wp P (lift c Q) a w
section
variable {P:Program} {c:Cx} {R1:Nat->Prop} {o:Oper} {fr:Fr} {σ:Heap'}
def SameFor(F R1:Nat->Prop)(ρ:Loc)(w w2:World):Prop:=∀b,b<w.heap.size->(¬owned F ρ b∨∃k cc,R1 k /\ ρ k=some (b,cc))->w2.heap[b]?=w.heap[b]?
theorem SameFor.refl(F R1:Nat->Prop)(ρ:Loc)(w:World):SameFor F R1 ρ w w:=λ_ _ _=>rfl
def OkV(P:Program)(c:Cx)(R1:Nat->Prop)(o:Oper)(fr:Fr)(σ:Heap')(x:IV):Prop :=
 ∀ρ w a,All c ρ σ w fr a->∃v,(∀w2,SameFor c.F R1 ρ w w2->(execOp a.eval o).run P w2=.ok (.value v) w2)/\RepI c.F ρ σ w x v
theorem OkV.ok{P:Program}{c:Cx}{R1:Nat->Prop}{o:Oper}{fr:Fr}{σ:Heap'}{x:IV}(h:OkV P c R1 o fr σ x):Ok P c o fr σ x σ:=by
 intro ρ w a K Q ha hK;obtain⟨v,hr,hv⟩:=h ρ w a ha;unfold Oper.wp;rw[hr w (.refl _ _ _ _)];exact hK ρ w v ha hv
theorem RepI.val{F:Nat->Prop}{ρ:Loc}{w:World}{v u:Value}(h:RepI F ρ σ w (.pv (.val v)) u):u=v:=by
 cases h with
 |pv _ _ h=>cases h;rfl
theorem z0v{ρ:Loc}{w:World}{a:Act}(h:All c ρ σ w fr a){y:Operand}{v:Value}(hy:fr.ev y=some (.pv (.val v))):a.eval y=v:=(h.ev hy).val
theorem z3c{F:Nat->Prop}{ρ:Loc}{w:World}(v:Value):RepI F ρ σ w (.pv (.val v)) v:=.pv _ _ (.val v)
theorem z2p{y:Operand}{x:IV}(ho:o.op=.move y)(hy:fr.ev y=some x):OkV P c R1 o fr σ x :=
 λρ w a h=>⟨a.eval y,λ_ _=>by simp[execOp,ho],h.ev hy⟩
theorem z3s{y:Operand}{x:IV}(ho:o.op=.assign y)(hy:fr.ev y=some x):OkV P c R1 o fr σ x :=
 λρ w a h=>⟨a.eval y,λ_ _=>by simp[execOp,ho],h.ev hy⟩
theorem z5h{q x y:Operand}{z:IV}(ho:o.op=.pick q x y)(hq:fr.ev q=some (.pv (.val (.bool true))))(hy:fr.ev x=some z):OkV P c R1 o fr σ z :=
 λρ w a h=>⟨a.eval x,λ_ _=>by simp[execOp,ho,z0v h hq,asBool],h.ev hy⟩
theorem z1j{q x y:Operand}{z:IV}(ho:o.op=.pick q x y)(hq:fr.ev q=some (.pv (.val (.bool false))))(hy:fr.ev y=some z):OkV P c R1 o fr σ z :=
 λρ w a h=>⟨a.eval y,λ_ _=>by simp[execOp,ho,z0v h hq,asBool],h.ev hy⟩
def z3f:BinOp->IntKind->Int->Int->Option Value
 |.add,k,m,n=>some (.int k (k.wrap (m+n)))
 |.sub,k,m,n=>some (.int k (k.wrap (m-n)))
 |.mul,k,m,n=>some (.int k (k.wrap (m*n)))
 |.quo,k,m,n=>if n=0 then none else some (.int k (k.wrap (m.tdiv n)))
 |.rem,k,m,n=>if n=0 then none else some (.int k (m.tmod n))
 |.and,k,m,n=>some (.int k (k.wrap (BitVec.ofInt k.bits m &&& BitVec.ofInt k.bits n).toNat))
 |.or,k,m,n=>some (.int k (k.wrap (BitVec.ofInt k.bits m ||| BitVec.ofInt k.bits n).toNat))
 |.xor,k,m,n=>some (.int k (k.wrap (BitVec.ofInt k.bits m ^^^ BitVec.ofInt k.bits n).toNat))
 |.eql,_,m,n=>some (.bool (m==n))
 |.neq,_,m,n=>some (.bool (m != n))
 |.lss,_,m,n=>some (.bool (decide (m<n)))
 |.leq,_,m,n=>some (.bool (decide (m<=n)))
 |.gtr,_,m,n=>some (.bool (decide (m > n)))
 |.geq,_,m,n=>some (.bool (decide (m≥n)))
 |_,_,_,_=>none
theorem yw6{op:BinOp}{k:IntKind}{m n:Int}{v:Value}(h:z3f op k m n=some v)(t:TypeId)(w:World) :
 (binOp op t (.int k m) (.int k n)).run P w=.ok v w:=by
 cases op<;>simp only[z3f]at h<;>first
  |(cases h;done)
  |(split at h<;>cases h;simp[binOp,Op.intDiv, *];done)
  |(cases h;simp[binOp,Op.intArith,Op.intBits,Op.intCmp];done)
theorem z80{op:BinOp}{t:TypeId}{x y:Operand}{k k':IntKind}{m n:Int}(w:World):(eqGuard op t x y (.int k m) (.int k' n)).run P w=.ok () w:=by
 unfold eqGuard;split<;>simp
theorem zr7{op:BinOp}{t u:TypeId}{x y:Operand}{k:IntKind}{m n:Int}{v:Value}(ho:o.op=.binOp op t x y u)(hx:fr.ev x=some (.pv (.val (.int k m))))(hy:fr.ev y=some (.pv (.val (.int k n))))
 (hv:z3f op k m n=some v):OkV P c R1 o fr σ (.pv (.val v)) :=
 λρ w a h=>⟨v,λ_ _=>by simp[execOp,ho,z0v h hx,z0v h hy,Ai,z80,yw6 hv],z3c v⟩
theorem ok_shl{t u:TypeId}{x y:Operand}{k k':IntKind}{m n:Int}(ho:o.op=.binOp .shl t x y u)(hx:fr.ev x=some (.pv (.val (.int k m))))(hy:fr.ev y=some (.pv (.val (.int k' n))))
 (hn:0<=n):OkV P c R1 o fr σ (.pv (.val (.int k (k.wrap (m*2 ^ (min n.toNat k.bits)))))) :=
 λρ w a h=>⟨_,λ_ _=>by simp[execOp,ho,z0v h hx,z0v h hy,z80,binOp,Op.shift,show ¬n<0 by omega],z3c _⟩
theorem ok_shr{t u:TypeId}{x y:Operand}{k k':IntKind}{m n:Int}(ho:o.op=.binOp .shr t x y u)(hx:fr.ev x=some (.pv (.val (.int k m))))(hy:fr.ev y=some (.pv (.val (.int k' n))))
 (hn:0<=n):OkV P c R1 o fr σ (.pv (.val (.int k (m.fdiv (2 ^ (min n.toNat k.bits)))))) :=
 λρ w a h=>⟨_,λ_ _=>by simp[execOp,ho,z0v h hx,z0v h hy,z80,binOp,Op.shift,show ¬n<0 by omega],z3c _⟩
def y51:BinOp->ByteArray->ByteArray->Option Value
 |.add,x,y=>if ((x.size+y.size:Nat):Int) > IntKind.i64.max then none else some (.string (x++y))
 |.eql,x,y=>some (.bool (x.toList==y.toList))
 |.neq,x,y=>some (.bool (!(x.toList==y.toList)))
 |.lss,x,y=>some (.bool (Op.bytesLess x.toList y.toList))
 |.leq,x,y=>some (.bool (Op.bytesLess x.toList y.toList||x.toList==y.toList))
 |.gtr,x,y=>some (.bool (!(Op.bytesLess x.toList y.toList||x.toList==y.toList)))
 |.geq,x,y=>some (.bool (!Op.bytesLess x.toList y.toList))
 |_,_,_=>none
theorem yw7{op:BinOp}{x y:ByteArray}{v:Value}(h:y51 op x y=some v)(t:TypeId)(w:World) :
 (binOp op t (.string x) (.string y)).run P w=.ok v w:=by
 cases op<;>simp only[y51]at h<;>first
  |(cases h;done)
  |(split at h<;>cases h;simp only[binOp,Op.stringOp];rw[A1 (by assumption)];rfl)
  |(cases h;simp[binOp,Op.stringOp];done)
theorem y1u{op:BinOp}{t:TypeId}{x y:Operand}{s s':ByteArray}(w:World):(eqGuard op t x y (.string s) (.string s')).run P w=.ok () w:=by
 unfold eqGuard;split<;>simp
theorem bSt{op:BinOp}{t u:TypeId}{x y:Operand}{s s':ByteArray}{v:Value}(ho:o.op=.binOp op t x y u)(hx:fr.ev x=some (.pv (.val (.string s))))(hy:fr.ev y=some (.pv (.val (.string s'))))
 (hv:y51 op s s'=some v):OkV P c R1 o fr σ (.pv (.val v)) :=
 λρ w a h=>⟨v,λ_ _=>by simp[execOp,ho,z0v h hx,z0v h hy,Ai,y1u,yw7 hv],z3c v⟩
theorem zb7{op:BinOp}{t:TypeId}{x y:Operand}{s s':Bool}(w:World):(eqGuard op t x y (.bool s) (.bool s')).run P w=.ok () w:=by
 unfold eqGuard;split<;>simp
theorem y8z{t:TypeId}{p q:Bool}{w:World}(hu:P.underlying t=some .bool):(binOp .eql t (.bool p) (.bool q)).run P w=.ok (.bool (p==q)) w:=by
 have h:binOp .eql t (.bool p) (.bool q)=(Op.equalIn (9999+1) t (.bool p) (.bool q) >>= λr=>pure (.bool r)):=rfl;rw[h,Ai,run_equalIn_bool _ _ _ _ _ hu];rfl
theorem y90{t:TypeId}{p q:Bool}{w:World}(hu:P.underlying t=some .bool):(binOp .neq t (.bool p) (.bool q)).run P w=.ok (.bool (!(p==q))) w:=by
 have h:binOp .neq t (.bool p) (.bool q)=(Op.equalIn (9999+1) t (.bool p) (.bool q) >>= λr=>pure (.bool (!r))):=rfl;rw[h,Ai,run_equalIn_bool _ _ _ _ _ hu];rfl
theorem ye1{t u:TypeId}{x y:Operand}{p q:Bool}(ho:o.op=.binOp .eql t x y u)(hx:fr.ev x=some (.pv (.val (.bool p))))(hy:fr.ev y=some (.pv (.val (.bool q))))
 (hu:P.underlying t=some .bool):OkV P c R1 o fr σ (.pv (.val (.bool (p==q)))) :=
 λρ w a h=>⟨_,λ_ _=>by simp only[execOp,ho,z0v h hx,z0v h hy,Ai,zb7,Aw,y8z hu];rfl,z3c _⟩
theorem ye6{t u:TypeId}{x y:Operand}{p q:Bool}(ho:o.op=.binOp .neq t x y u)(hx:fr.ev x=some (.pv (.val (.bool p))))(hy:fr.ev y=some (.pv (.val (.bool q))))
 (hu:P.underlying t=some .bool):OkV P c R1 o fr σ (.pv (.val (.bool (!(p==q))))) :=
 λρ w a h=>⟨_,λ_ _=>by simp only[execOp,ho,z0v h hx,z0v h hy,Ai,zb7,Aw,y90 hu];rfl,z3c _⟩
theorem yo2{t:TypeId}{x:Operand}{p:Bool}(ho:o.op=.unOp .not t x)(hx:fr.ev x=some (.pv (.val (.bool p)))):OkV P c R1 o fr σ (.pv (.val (.bool (!p)))) :=
 λρ w a h=>⟨_,λ_ _=>by simp[execOp,ho,z0v h hx,Op.unary],z3c _⟩
theorem ok_neg{t:TypeId}{x:Operand}{k:IntKind}{n:Int}(ho:o.op=.unOp .neg t x)(hx:fr.ev x=some (.pv (.val (.int k n)))):OkV P c R1 o fr σ (.pv (.val (.int k (k.wrap (0-n))))) :=
 λρ w a h=>⟨_,λ_ _=>by simp[execOp,ho,z0v h hx,Op.unary,Op.intArith],z3c _⟩
theorem y15{s t:TypeId}{x:Operand}{k k':IntKind}{n:Int}(ho:o.op=.convert s t x)(hx:fr.ev x=some (.pv (.val (.int k n))))(hs:∃d,P.underlying s=some d)(hu:P.underlying t=some (.int k')) :
 OkV P c R1 o fr σ (.pv (.val (.int k' (k'.wrap n)))):=by
 obtain⟨d,hd⟩:=hs;refine λρ w a h=>⟨.int k' (k'.wrap n),λw2 _=>?_,z3c _⟩;simp only[execOp,ho,z0v h hx,convert,Ai,B9 hd,B9 hu,Aw,Conv.intToInt];rfl
theorem RepI.inv_seq{F:Nat->Prop}{ρ:Loc}{w:World}{els:List (List PV)}{v:Value}(h:RepI F ρ σ w (.pv (.seq els)) v):RepP (owned F ρ) w (.seq els) v:=by
 cases h;assumption
theorem RepI.inv_ept{F:Nat->Prop}{ρ:Loc}{w:World}{cs:List PV}{off:Nat}{v:Value}(h:RepI F ρ σ w (.pv (.ept cs off)) v):RepP (owned F ρ) w (.ept cs off) v:=by
 cases h;assumption
theorem z1a{t:TypeId}{n:Nat}(h:(P.info? t).map (·.size)=some n)(w:World):(sizeOf t).run P w=.ok n w:=by
 cases hq:P.info? t with
 |none=>simp[hq]at h
 |some i=>simp[hq]at h;simp[sizeOf,typeInfo,hq,h]
theorem iSq{t e:TypeId}{x y:Operand}{els:List (List PV)}{el:List PV}{k:IntKind}{m:Int}{i:Nat}(ho:o.op=.indexAddr t x y)(hx:fr.ev x=some (.pv (.seq els)))(hy:fr.ev y=some (.pv (.val (.int k m))))
 (hu:P.underlying t=some (.slice e)) (hi:els[i]?=some el) {s:Nat} (he':(P.info? e).map (·.size)=some s) (hs:el.length=s) (hm:m=i):OkV P c R1 o fr σ (.pv (.ept el 0)):=by
 subst hm;refine λρ w a h=>?_;have he:(P.info? e).map (·.size)=some el.length:=hs▸he';have hr:=(h.ev hx).inv_seq;have hlt:i<els.length:=(A7.1 hi).1;generalize hv:a.eval x=v at hr
 cases hr with
 |seq _ ad cap b off u ha hb hl hm hc hr =>
  have hne:els≠[]:=by intro h0;simp[h0]at hlt
  obtain rfl:=ha hne;refine⟨.pointer (some ⟨b,off+i*el.length,none⟩),λw2 _=>?_,.pv _ _ (.ept el 0 b (off+i*el.length) (u i) (hb hne) (λj z hj=>hc i el hi j z hj) (λj z hj=>hr i el hi j z hj))⟩;simp[execOp,ho,hv,z0v h hy,Instr.indexAt,Ai,asIntOf,B9 hu,hlt,z1a he,Cu]
def y55(P:Program)(t:TypeId)(f off:Nat):Prop:=∃fs fd s,P.underlying t=some (.struct fs)/\fs[f]?=some fd/\fd.offset=off/\(P.info? fd.type).map (·.size)=some (s+1)
theorem y8g{t:TypeId}{x:Operand}{f fo:Nat}{cs:List PV}{off:Nat}(ho:o.op=.fieldAddr t x f)(hx:fr.ev x=some (.pv (.ept cs off)))
 (hfo:y55 P t f fo):OkV P c R1 o fr σ (.pv (.ept cs (off+fo))):=by
 refine λρ w a h=>?_;obtain⟨fs,fd,s,hu,hf,rfl,hs⟩:=hfo;have hr:=(h.ev hx).inv_ept;generalize hv:a.eval x=v at hr
 cases hr with
 |ept _ _ b o' u hb hc hr =>
  refine⟨.pointer (some ⟨b,o'+(off+fd.offset),none⟩),λw2 _=>?_,.pv _ _ (.ept cs _ b o' u hb hc hr)⟩;simp[execOp,ho,hv,Instr.fieldAt,Ai,B9 hu,hf,Instr.sureAddr,fieldPlace,z1a hs,Cu,Fx]
theorem z5x{t:TypeId}{d:TypeDesc}(hu:P.underlying t=some d)(w:World):(isAgg t).run P w=.ok d.isRow w:=by
 unfold isAgg;rw[Ai,B9 hu w]
 cases d<;>simp
theorem y17{t:TypeId}{x:Operand}{d:TypeDesc}{cs:List PV}{off:Nat}{z:PV}(ho:o.op=.load t x)(hx:fr.ev x=some (.pv (.ept cs off)))
 (hu:P.underlying t=some d) (hd:d.isRow=false) (hz:cs[off]?=some z):OkV P c R1 o fr σ (.pv z):=by
 refine λρ w a h=>?_;have hr:=(h.ev hx).inv_ept;generalize hv:a.eval x=v at hr
 cases hr with
 |ept _ _ b o' u hb hc hr =>
  refine⟨u off,λw2 h2=>?_,.pv _ _ (hr off z hz)⟩;have hcell:w2.cell? ⟨b,o'+off,none⟩=some (u off):=(Dm (a:=⟨b,o'+off,none⟩) (h2 b hb.2 (.inl hb.1))).trans (hc off z hz);simp[execOp,ho,hv,Instr.loadAt,Instr.sureAddr,loadVar,Ai,z5x hu,hd,run_load,hcell]
theorem lEA{t:TypeId}{x:Operand}{d:TypeDesc}{cs:List PV}{off n:Nat}(ho:o.op=.load t x)(hx:fr.ev x=some (.pv (.ept cs off)))
 (hu:P.underlying t=some d) (hd:d.isRow=true) (hs:(P.info? t).map (·.size)=some n) (hn:off+n<=cs.length):OkV P c R1 o fr σ (.pv (.agg ((cs.drop off).take n))):=by
 refine λρ w a h=>?_;have hr:=(h.ev hx).inv_ept;generalize hv:a.eval x=v at hr
 cases hr with
 |ept _ _ b o' u hb hc hr =>
  have hlen:(((List.range n).map λj=>u (off+j)):List Value).length=n:=by simp
  have hrow:∀w2,SameFor c.F R1 ρ w w2->w2.rangeAt b (o'+off) ((List.range n).map λj=>u (off+j)):=by
   intro w2 h2 j v' hj;have hjn:j<n:=by have:=(A7.1 hj).1;simpa using this
   have hv':v'=u (off+j):=by simpa[hjn]using hj.symm
   have hcs:cs[off+j]?=some (cs[off+j]'oM0):=Ad oM0;rw[hv',Fx];exact(Dm (a:=⟨b,_,none⟩) (h2 b hb.2 (.inl hb.1))).trans (hc (off+j) _ hcs)
  refine⟨_,λw2 h2=>by simp only[execOp,ho,hv,Ai,G8 (P:=P) w2 b (o'+off) t _ d (hrow w2 h2) hu hd (by rw[hlen];exact hs)];rfl,.pv _ _ (.agg _ _ (λj=>u (off+j)) ?_ ?_ ?_)⟩
  ·simp;omega
  ·intro j z hj;have hjn:j<n:=by have:=(A7.1 hj).1;simp at this;omega
   simp[hjn]
  ·intro j z hj;rw[C3]at hj;split at hj
   ·rw[Ct]at hj;exact hr _ z hj
   ·cases hj
theorem yv3{t:TypeId}{x:Operand}{e:TypeId}{els:List (List PV)}(ho:o.op=.call { callee:=.builtin .len,args:=#[x],argTypes:=#[t] })(hx:fr.ev x=some (.pv (.seq els)))
 (hu:P.underlying t=some (.slice e)) {n:Nat} (hn:els.length=n):OkV P c R1 o fr σ (.pv (.val (.int .i64 n))):=by
 subst hn;refine λρ w a h=>?_;have hr:=(h.ev hx).inv_seq;generalize hv:a.eval x=v at hr
 cases hr with
 |seq _ ad cap b off u ha hb hl hm hc hr =>
  refine⟨.int .i64 els.length,λw2 _=>?_,z3c _⟩;simp[execOp,ho,hv,resolve,Ai,invoke,builtin,Builtin.len_,B9 hu,goInt]
end
abbrev Hp:=List (Nat×Option HO)
def look:Hp->Nat->Option HO
 |[],_=>none
 |(k,o)::r,j=>bif Nat.beq k j then o else look r j
theorem z45{k j:Nat}(h:k≠j):Nat.beq k j=false:=by
 cases hb:Nat.beq k j with
 |true=>exact A9 (Ak hb) h
 |false=>rfl
theorem z1h{k:Nat}{o:Option HO}{r:Hp}:look ((k,o)::r) k=o:=by simp[look]
theorem yd6{k j:Nat}{o x:Option HO}{r:Hp}(h:k≠j)(hr:look r j=x):look ((k,o)::r) j=x:=by simp[look,z45 h,hr]
theorem z1n{k j:Nat}{o:Option HO}{r:Hp}(h:k≠j):look ((k,o)::r) j=look r j:=yd6 h rfl
def z18(ρ:Loc)(k:Nat)(l:Option (Nat×Nat)):Loc:=λj=>bif Nat.beq k j then l else ρ j
theorem z09{ρ:Loc}{k:Nat}{l:Option (Nat×Nat)}:z18 ρ k l k=l:=by simp[z18]
theorem z2u{ρ:Loc}{k j:Nat}{l:Option (Nat×Nat)}(h:k≠j):z18 ρ k l j=ρ j:=by simp[z18,z45 h]
theorem Names.imp{P Q:Nat->Prop}{x:IV}(h:Names P x)(hi:∀k,P k->Q k):Names Q x:=by
 induction h with
 |ptr h=>exact .ptr (hi _ h)
 |sl h=>exact .sl (hi _ h)
 |rpt h=>exact .rpt (hi _ h)
 |sp h=>exact .sp (hi _ h)
 |bs h=>exact .bs (hi _ h)
 |mp h=>exact .mp (hi _ h)
 |tnil h=>exact .tnil (hi _ h)
 |agg hc _ ih=>exact .agg hc ih
 |tup hc _ ih=>exact .tup hc ih
 |fn1 hc _ ih=>exact .fn1 hc ih
 |fn2 hc _ ih=>exact .fn2 hc ih
theorem Names.some{P:Nat->Prop}{x:IV}(h:Names P x):∃k,P k:=by
 induction h with
 |ptr h=>exact⟨_,h⟩
 |sl h=>exact⟨_,h⟩
 |rpt h=>exact⟨_,h⟩
 |sp h=>exact⟨_,h⟩
 |bs h=>exact⟨_,h⟩
 |mp h=>exact⟨_,h⟩
 |tnil h=>exact⟨_,h⟩
 |agg _ _ ih=>exact ih
 |tup _ _ ih=>exact ih
 |fn1 _ _ ih=>exact ih
 |fn2 _ _ ih=>exact ih
def HO.has(o:HO)(x:IV):Prop:=∃cs,o=.box cs/\x∈cs
theorem RepO.keep{F R:Nat->Prop}{ρ ρ':Loc}{σ σ':Heap'}{w w':World}(t:Trans F R ρ σ w ρ' σ' w'){b c:Nat}{o:HO}(h:RepO F ρ σ w b c o)(hb:w'.heap[b]?=w.heap[b]?)
 (hn:∀x,o.has x -> ¬Names (λk=>σ k=none /\ σ' k≠none) x):RepO F ρ' σ' w' b c o:=by
 cases h with
 |box cs e a u h hl hv hr=>exact .box cs e a u (hb.trans h) hl hv λj x hj=>(hr j x hj).trans' t (hn x ⟨cs,rfl,Af hj⟩)
 |row s els a u h hs hl hm hw hv hr=>exact .row s els a u (hb.trans h) hs hl hm hw hv λi el hi j x hj=>(hr i el hi j x hj).trans' t
 |map es a t' u h hl hv hr=>exact .map es a t' u (hb.trans h) hl hv λi k p hi=>(hr i k p hi).trans' t
def HO.fits:HO->HO->Prop
 |.box _,.box _=>True
 |.row s els,.row s' els'=>s=s'/\els.length<=els'.length
 |.map _,.map _=>True
 |_,_=>False
theorem All.write{c:Cx}{ρ:Loc}{hp:Hp}{w w':World}{fr:Fr}{a:Act}{k b cc:Nat}{o o':HO}(h:All c ρ (look hp) w fr a)(hk:ρ k=some (b,cc))(hσ:look hp k=some o)(hf:o.fits o')(hR:¬c.R k)
 (hos:w'.os=w.os) (ht:w'.tape=w.tape) (hout:w'.output=w.output) (hsz:w'.heap.size=w.heap.size) (hblk:∀j,j≠b->w'.heap[j]?=w.heap[j]?)
 (ho':(∀x v,RepI c.F ρ (look hp) w x v->RepI c.F ρ (look ((k,some o')::hp)) w' x v)->(∀x v,RepP (owned c.F ρ) w x v->RepP (owned c.F ρ) w' x v)->RepO c.F ρ (look ((k,some o')::hp)) w' b cc o') :
 All c ρ (look ((k,some o')::hp)) w' fr a:=by
 have hlk:∀j,j≠k->look ((k,some o')::hp) j=look hp j:=λj hj=>z1n (C4 hj);have hlk':look ((k,some o')::hp) k=some o':=z1h;have t:Trans c.F (· ≠ k) ρ (look hp) w ρ (look ((k,some o')::hp)) w':=by
  refine⟨hos,ht,hout,by omega,λj hj hall=>hblk j λe=>?_,λ_ _ _ h' _=>.inl h',λ_ _ _ _ _=>rfl,λ_ _ _ _ _=>rfl,λ_ _ _ _ _ _ _ _=>rfl,?_,?_,?_,?_⟩
  ·exact hall k cc (e▸hk) rfl
  ·intro j s s' els els' h1 h2
   by_cases e:j=k
   ·subst e;rw[hσ]at h1;rw[hlk']at h2
    cases h1;cases h2
    exact hf.2
   ·rw[hlk j e,h1]at h2;cases h2;exact Ag _
  ·intro j cs' h2
   by_cases e:j=k
   ·subst e;rw[hlk']at h2;cases h2
    cases o with
    |box cs=>exact .inr ⟨cs,hσ⟩
    |row=>exact hf.elim
    |map=>exact hf.elim
   ·rw[hlk j e]at h2;exact .inr ⟨_,h2⟩
  ·intro j cs' h2
   by_cases e:j=k
   ·subst e;rw[hlk']at h2;cases h2
    cases o with
    |map cs=>exact .inr ⟨cs,hσ⟩
    |row=>exact hf.elim
    |box=>exact hf.elim
   ·rw[hlk j e]at h2;exact .inr ⟨_,h2⟩
  ·intro j s cs' h2
   by_cases e:j=k
   ·subst e;rw[hlk']at h2;cases h2
    cases o with
    |row s' cs=>obtain⟨rfl,_⟩:=hf;exact .inr ⟨cs,hσ⟩
    |map=>exact hf.elim
    |box=>exact hf.elim
   ·rw[hlk j e]at h2;exact .inr ⟨_,h2⟩
 have hnone:∀j,¬(look hp j=none/\look ((k,some o')::hp) j≠none):=λj hj=>by
  by_cases e:j=k
  ·subst e;rw[hσ]at hj;cases hj.1
  ·rw[hlk j e]at hj;exact hj.2 hj.1
 have hnn:∀x,¬Names (λj=>look hp j=none/\look ((k,some o')::hp) j≠none) x:=λx hx=>by
  obtain⟨j,hj⟩:=hx.some;exact hnone j hj
 refine h.step t (λj hj e=>hR (e▸hj)) ⟨h.rel.inj,h.rel.apart,λb hb=>by rw[hsz];exact h.rel.old b hb,λj b' c' hj=>?_,λj o1 h1 h2=>?_⟩ (λj h1 h2=>A9 ⟨h1,h2⟩ (hnone j)) λ_ x _=>hnn x
 ·by_cases e:j=k
  ·subst e;rw[hk]at hj;cases hj
   exact⟨o',hlk',ho' (λx v hx=>hx.trans' t (hnn x)) λx v hx=>hx.trans' t⟩
  ·obtain⟨o1,h1,h2⟩:=h.rel.obj j b' c' hj;refine⟨o1,(hlk j e).trans h1,h2.keep t (hblk b' λe'=>e ?_) λx _=>hnn x⟩;subst e';exact h.rel.inj _ _ _ _ _ hj hk
 ·by_cases e:j=k
  ·subst e;rw[hk]at h2;cases h2
  ·rw[hlk j e]at h1;exact h.rel.real j o1 h1 h2
def nm(k:Nat):IV->Bool
 |.pv _=>false
 |.ptr j _=>Nat.beq k j
 |.sl j _=>Nat.beq k j
 |.rpt j _ _=>Nat.beq k j
 |.sp j _ _=>Nat.beq k j
 |.bs j _=>Nat.beq k j
 |.mp j=>Nat.beq k j
 |.tnil j _=>Nat.beq k j
 |.agg cs=>nms k cs
 |.tup cs=>nms k cs
 |.fn _ xs ys=>nms k xs||nms k ys
where nms (k:Nat):List IV->Bool
 |[]=>false
 |x::r=>nm k x||nms k r
theorem z5r{k:Nat}:∀{l:List IV}{x:IV},nm.nms k l=false->x∈l->nm k x=false
 |y::r,x,h,hx=>by
  simp only[nm.nms,Bn]at h;rcases Aq.1 hx with rfl|hx
  ·exact h.1
  ·exact z5r h.2 hx
theorem zz6{k:Nat}{x:IV}(h:Names (· = k) x):nm k x=true:=by
 induction h with
 |ptr h=>subst h;exact Di _
 |sl h=>subst h;exact Di _
 |rpt h=>subst h;exact Di _
 |sp h=>subst h;exact Di _
 |bs h=>subst h;exact Di _
 |mp h=>subst h;exact Di _
 |tnil h=>subst h;exact Di _
 |agg hc _ ih =>
  cases hb:nm k (.agg _)with
  |true=>rfl
  |false=>simp only[nm]at hb;rw[z5r hb hc]at ih;cases ih
 |tup hc _ ih =>
  cases hb:nm k (.tup _)with
  |true=>rfl
  |false=>simp only[nm]at hb;rw[z5r hb hc]at ih;cases ih
 |fn1 hc _ ih =>
  cases hb:nm k (.fn _ _ _)with
  |true=>rfl
  |false=>simp only[nm,Bn]at hb;rw[z5r hb.1 hc]at ih;cases ih
 |fn2 hc _ ih =>
  cases hb:nm k (.fn _ _ _)with
  |true=>rfl
  |false=>simp only[nm,Bn]at hb;rw[z5r hb.2 hc]at ih;cases ih
def nmFr(k:Nat):Fr->Bool
 |[]=>false
 |(_,x)::r=>nm k x||nmFr k r
def nmHp(k:Nat):Hp->Bool
 |[]=>false
 |(_,some (.box cs))::r=>nm.nms k cs||nmHp k r
 |(_,_)::r=>nmHp k r
theorem zm7{k:Nat}:∀{fr:Fr}{t:Nat}{x:IV},nmFr k fr=false->fr.get t=some x->nm k x=false
 |(j,y)::r,t,x,h,hx=>by
  simp only[nmFr,Bn]at h;simp only[Fr.get]at hx
  cases hb:Nat.beq j t with
  |true=>rw[hb]at hx;cases hx;exact h.1
  |false=>rw[hb]at hx;exact zm7 h.2 hx
theorem z94{k:Nat}:∀{hp:Hp}{j:Nat}{cs:List IV},nmHp k hp=false->look hp j=some (.box cs)->nm.nms k cs=false
 |(i,o)::r,j,cs,h,hx=>by
  simp only[look]at hx
  cases hb:Nat.beq i j with
  |true =>
   rw[hb]at hx;simp only[E6]at hx;subst hx;simp only[nmHp,Bn]at h
   exact h.1
  |false =>
   rw[hb]at hx;refine z94 (j:=j) ?_ hx
   cases o with
   |none=>simpa[nmHp]using h
   |some o=>cases o<;>simp_all[nmHp]
theorem All.alloc{c:Cx}{ρ:Loc}{hp:Hp}{w:World}{fr:Fr}{a:Act}{k:Nat}(h:All c ρ (look hp) w fr a)(hσ:look hp k=none)(hc:c.σ k=none)(hfr:nmFr k fr=false)(hhp:nmHp k hp=false)
 (cc:Nat) (o:HO) (ob:Obj)
 (ho:(∀x v,RepI c.F ρ (look hp) w x v->nm k x=false->RepI c.F (z18 ρ k (some (w.heap.size,cc))) (look ((k,some o)::hp)) (w.alloc ob) x v) ->
  (∀x v,RepP (owned c.F ρ) w x v->RepP (owned c.F (z18 ρ k (some (w.heap.size,cc)))) (w.alloc ob) x v) ->
  RepO c.F (z18 ρ k (some (w.heap.size,cc))) (look ((k,some o)::hp)) (w.alloc ob) w.heap.size cc o) :
 All c (z18 ρ k (some (w.heap.size,cc))) (look ((k,some o)::hp)) (w.alloc ob) fr a:=by
 have hlk:∀j,j≠k->look ((k,some o)::hp) j=look hp j:=λj hj=>z1n (C4 hj);have hlk':look ((k,some o)::hp) k=some o:=z1h;have hρ:∀j,j≠k->z18 ρ k (some (w.heap.size,cc)) j=ρ j:=λj hj=>z2u (C4 hj);have hρk:ρ k=none:=by
  cases hk:ρ k with
  |none=>rfl
  |some l=>obtain⟨o',h',_⟩:=h.rel.obj k l.1 l.2 hk;rw[hσ]at h';cases h'
 have hheap:∀j,j<w.heap.size->(w.alloc ob).heap[j]?=w.heap[j]?:=λj hj=>by
  show(w.heap.push ob)[j]?=_;rw[Et,A1 oM0]
 have hne:∀j x,look hp j=some x->j≠k:=λj x hj e=>by subst e;rw[hσ]at hj;cases hj
 have t:Trans c.F (λ_=>True) ρ (look hp) w (z18 ρ k (some (w.heap.size,cc))) (look ((k,some o)::hp)) (w.alloc ob):=by
  refine⟨rfl,rfl,rfl,by simp,λj hj _=>hheap j hj,?_,λj _ _ h1 _=>hρ j (hne _ _ h1),λj _ _ h1 _=>hρ j (hne _ _ h1),λj _ _ _ _ h1 _ _=>hρ j (hne _ _ h1),?_,?_,?_,?_⟩
  ·intro j b c' hj hb
   by_cases e:j=k
   ·subst e;rw[z09]at hj;cases hj;omega
   ·rw[hρ j e]at hj;exact .inl hj
  ·intro j s s' els els' h1 h2;rw[hlk j (hne _ _ h1),h1]at h2
   cases h2;exact Ag _
  all_goals intro j
  iterate 2
   ·intro cs h2
    by_cases e:j=k
    ·subst e;exact .inl hσ
    ·rw[hlk j e]at h2;exact .inr ⟨_,h2⟩
  ·intro s cs h2
   by_cases e:j=k
   ·subst e;exact .inl hσ
   ·rw[hlk j e]at h2;exact .inr ⟨_,h2⟩
 have hnew:∀j,look hp j=none/\look ((k,some o)::hp) j≠none->j=k:=λj hj=>By λe=>hj.2 ((hlk j e).trans hj.1);have hnn:∀x,nm k x=false -> ¬Names (λj=>look hp j=none/\look ((k,some o)::hp) j≠none) x:=λx hx hn=>by
  rw[zz6 (hn.imp hnew)]at hx;cases hx
 refine h.step t (λ_ _=>trivial) ⟨?_,?_,λb hb=>Bg (h.rel.old b hb) sI0,λj b' c' hj=>?_,λj o1 h1 h2=>?_⟩ (λj h1 h2=>hnew j ⟨h1,h2⟩▸hc) λt x hx=>hnn x (zm7 hfr hx)
 ·intro j j' b c1 c2 h1 h2
  by_cases e:j=k<;>by_cases e':j'=k
  ·rw[e,e']
  ·subst e;rw[z09]at h1;rw[hρ j' e']at h2
   cases h1
   have:=h.rel.lt h2;omega
  ·subst e';rw[z09]at h2;rw[hρ j e]at h1
   cases h2
   have:=h.rel.lt h1;omega
  ·rw[hρ j e]at h1;rw[hρ j' e']at h2;exact h.rel.inj _ _ _ _ _ h1 h2
 ·intro j b c1 h1 hF
  by_cases e:j=k
  ·subst e;rw[z09]at h1;cases h1
   have:=h.rel.old _ hF;omega
  ·rw[hρ j e]at h1;exact h.rel.apart _ _ _ h1 hF
 ·by_cases e:j=k
  ·subst e;rw[z09]at hj;cases hj
   exact⟨o,hlk',ho (λx v hx hk=>hx.trans' t (hnn x hk)) λx v hx=>hx.trans' t⟩
  ·rw[hρ j e]at hj;obtain⟨o1,h1,h2⟩:=h.rel.obj j b' c' hj;refine⟨o1,(hlk j e).trans h1,h2.keep t (hheap b' h2.lt) λx ⟨cs,h3,h4⟩=>hnn x ?_⟩;subst h3;exact z5r (z94 hhp h1) h4
 ·by_cases e:j=k
  ·subst e;rw[z09]at h2;cases h2
  ·rw[hlk j e]at h1;rw[hρ j e]at h2;exact h.rel.real j o1 h1 h2
theorem All.drop{c:Cx}{ρ:Loc}{hp:Hp}{w:World}{fr:Fr}{a:Act}{k:Nat}(h:All c ρ (look hp) w fr a):All c (z18 ρ k none) (look ((k,none)::hp)) w fr a:=by
 have hlk:∀j,j≠k->look ((k,none)::hp) j=look hp j:=λj hj=>z1n (C4 hj);have hlk':look ((k,none)::hp) k=none:=z1h;have hρ:∀j,j≠k->z18 ρ k none j=ρ j:=λj hj=>z2u (C4 hj);have hne:∀j x,look ((k,none)::hp) j=some x->j≠k:=λj x hj e=>by subst e;rw[hlk']at hj;cases hj
 have t:Trans c.F (λ_=>True) ρ (look hp) w (z18 ρ k none) (look ((k,none)::hp)) w:=by
  refine⟨rfl,rfl,rfl,Ag _,λj hj _=>rfl,?_,λj _ _ _ h1=>hρ j (hne _ _ h1),λj _ _ _ h1=>hρ j (hne _ _ h1),λj _ _ _ _ _ h1 _=>hρ j (hne _ _ h1),?_,?_,?_,?_⟩
  ·intro j b c' hj hb
   by_cases e:j=k
   ·subst e;rw[z09]at hj;cases hj
   ·rw[hρ j e]at hj;exact .inl hj
  ·intro j s s' els els' h1 h2;rw[hlk j (hne _ _ h2),h1]at h2
   cases h2;exact Ag _
  all_goals intro j
  iterate 2 ·intro cs h2;rw[hlk j (hne _ _ h2)]at h2;exact .inr ⟨_,h2⟩
  ·intro s cs h2;rw[hlk j (hne _ _ h2)]at h2;exact .inr ⟨_,h2⟩
 have hnone:∀j,¬(look hp j=none/\look ((k,none)::hp) j≠none):=λj hj=>by
  by_cases e:j=k
  ·subst e;exact hj.2 hlk'
  ·rw[hlk j e]at hj;exact hj.2 hj.1
 have hnn:∀x,¬Names (λj=>look hp j=none/\look ((k,none)::hp) j≠none) x:=λx hx=>by
  obtain⟨j,hj⟩:=hx.some;exact hnone j hj
 refine h.step t (λ_ _=>trivial) ⟨?_,?_,h.rel.old,λj b' c' hj=>?_,λj o1 h1 h2=>?_⟩ (λj h1 h2=>A9 ⟨h1,h2⟩ (hnone j)) λ_ x _=>hnn x
 ·intro j j' b c1 c2 h1 h2
  by_cases e:j=k
  ·subst e;rw[z09]at h1;cases h1
  ·by_cases e':j'=k
   ·subst e';rw[z09]at h2;cases h2
   ·rw[hρ j e]at h1;rw[hρ j' e']at h2;exact h.rel.inj _ _ _ _ _ h1 h2
 ·intro j b c1 h1 hF
  by_cases e:j=k
  ·subst e;rw[z09]at h1;cases h1
  ·rw[hρ j e]at h1;exact h.rel.apart _ _ _ h1 hF
 ·by_cases e:j=k
  ·subst e;rw[z09]at hj;cases hj
  ·rw[hρ j e]at hj;obtain⟨o1,h1,h2⟩:=h.rel.obj j b' c' hj;exact⟨o1,(hlk j e).trans h1,h2.keep t rfl λx _=>hnn x⟩
 ·have e:=hne _ _ h1;rw[hlk j e]at h1;rw[hρ j e]at h2;exact h.rel.real j o1 h1 h2
theorem All.rename{c:Cx}{ρ:Loc}{hp:Hp}{w:World}{fr:Fr}{a:Act}{k k' b cc:Nat}{o:HO}(h:All c ρ (look hp) w fr a)(hk:ρ k=some (b,cc))(hσ:look hp k=some o)(hR:¬c.R k)(hσ':look hp k'=none)(hc:c.σ k'=none)
 (hfr:nmFr k' fr=false) (hhp:nmHp k' hp=false):All c (z18 (z18 ρ k none) k' (some (b,cc))) (look ((k',some o)::(k,none)::hp)) w fr a:=by
 have hne:k≠k':=λe=>by subst e;rw[hσ]at hσ';cases hσ'
 have s1:look ((k',some o)::(k,none)::hp) k'=some o:=z1h;have s2:look ((k',some o)::(k,none)::hp) k=none:=(z1n hne.symm).trans z1h;have s3:∀j,j≠k'->j≠k->look ((k',some o)::(k,none)::hp) j=look hp j:=λj e1 e2=>(z1n (C4 e1)).trans (z1n (C4 e2));have r1:z18 (z18 ρ k none) k' (some (b,cc)) k'=some (b,cc):=z09;have r2:z18 (z18 ρ k none) k' (some (b,cc)) k=none:=(z2u hne.symm).trans z09;have r3:∀j,j≠k'->j≠k->z18 (z18 ρ k none) k' (some (b,cc)) j=ρ j:=λj e1 e2=>(z2u (C4 e1)).trans (z2u (C4 e2));have hk'n:ρ k'=none:=by
  cases hr:ρ k' with
  |none=>rfl
  |some p=>obtain⟨b1,c1⟩:=p;obtain⟨o1,h1,_⟩:=h.rel.obj k' b1 c1 hr;rw[hσ']at h1;cases h1
 generalize z18 (z18 ρ k none) k' (some (b,cc))=ρ' at r1 r2 r3⊢;generalize look ((k',some o)::(k,none)::hp)=σ' at s1 s2 s3⊢;have hs:∀j o',σ' j=some o'->j≠k'->look hp j=some o' /\ ρ' j=ρ j:=λj o' hj e1=>by
  by_cases e2:j=k
  ·subst e2;rw[s2]at hj;cases hj
  ·rw[s3 j e1 e2]at hj;exact⟨hj,r3 j e1 e2⟩
 have both:∀j o1 o2,look hp j=some o1 -> σ' j=some o2->look hp j=some o2 /\ ρ' j=ρ j:=λj o1 o2 h1 h2=>hs j o2 h2 λe=>by subst e;rw[hσ']at h1;cases h1
 have t:Trans c.F (· ≠ k) ρ (look hp) w ρ' σ' w:=by
  refine⟨rfl,rfl,rfl,Ag _,λ_ _ _=>rfl,λj b1 c1 hj _=>?_,λj cs cs' h1 h2=>(both _ _ _ h1 h2).2,λj cs cs' h1 h2=>(both _ _ _ h1 h2).2,λj _ _ _ _ h1 h2 _=>(both _ _ _ h1 h2).2,λj s s' els els' h1 h2=>?_,λj cs h2=>?_,λj cs h2=>?_,λj s cs h2=>?_⟩
  ·by_cases e1:j=k'
   ·subst e1;rw[r1]at hj;cases hj;exact .inr ⟨k,cc,hk,λh=>h rfl⟩
   ·by_cases e2:j=k
    ·subst e2;rw[r2]at hj;cases hj
    ·rw[r3 j e1 e2]at hj;exact .inl hj
  ·have:=(both _ _ _ h1 h2).1;rw[h1]at this;cases this;exact Ag _
  all_goals
   by_cases e1:j=k'
   ·subst e1;exact .inl hσ'
   ·exact .inr ⟨_,(hs j _ h2 e1).1⟩
 have hnew:∀j,look hp j=none /\ σ' j≠none->j=k':=λj hj=>By λe=>hj.2 (by
  by_cases e2:j=k
  ·subst e2;exact s2
  ·rw[s3 j e e2];exact hj.1)
 have hnn:∀x,nm k' x=false -> ¬Names (λj=>look hp j=none /\ σ' j≠none) x:=λx hx hn=>by
  rw[zz6 (hn.imp hnew)]at hx;cases hx
 have hO:∀j b' c' o',look hp j=some o'->RepO c.F ρ (look hp) w b' c' o'->RepO c.F ρ' σ' w b' c' o':=λj b' c' o' hj h2=>h2.keep t rfl λx ⟨cs,h3,h4⟩=>hnn x (by
  subst h3;exact z5r (z94 hhp hj) h4)
 refine h.step t (λj hj e=>hR (e▸hj)) ⟨?_,?_,h.rel.old,λj b' c' hj=>?_,λj o1 h1 h2=>?_⟩ (λj h1 h2=>hnew j ⟨h1,h2⟩▸hc) λt x hx=>hnn x (zm7 hfr hx)
 ·intro j j' b1 c1 c2 h1 h2;have get:∀j c1,ρ' j=some (b1,c1)->∃i,ρ i=some (b1,c1)/\(i=j∨(i=k/\j=k')):=λj c1 h1=>by
   by_cases e1:j=k'
   ·subst e1;rw[r1]at h1;cases h1;exact⟨k,hk,.inr ⟨rfl,rfl⟩⟩
   ·by_cases e2:j=k
    ·subst e2;rw[r2]at h1;cases h1
    ·rw[r3 j e1 e2]at h1;exact⟨j,h1,.inl rfl⟩
  have nk:∀j c1,ρ' j=some (b1,c1)->j≠k:=λj c1 h1 e=>by subst e;rw[r2]at h1;cases h1
  obtain⟨i,g1,g2⟩:=get j c1 h1;obtain⟨i',g1',g2'⟩:=get j' c2 h2;have e:=h.rel.inj _ _ _ _ _ g1 g1';have n1:=nk j c1 h1;have n2:=nk j' c2 h2;rcases g2 with g2|⟨g2,g3⟩<;>rcases g2' with g2'|⟨g2',g3'⟩
  ·rw[<- g2,<- g2',e]
  ·exact A9 (g2.symm.trans (e.trans g2')) n1
  ·exact A9 (g2'.symm.trans (e.symm.trans g2)) n2
  ·rw[g3,g3']
 ·intro j b1 c1 h1 hF
  by_cases e1:j=k'
  ·subst e1;rw[r1]at h1;cases h1;exact h.rel.apart _ _ _ hk hF
  ·by_cases e2:j=k
   ·subst e2;rw[r2]at h1;cases h1
   ·rw[r3 j e1 e2]at h1;exact h.rel.apart _ _ _ h1 hF
 ·by_cases e1:j=k'
  ·subst e1;rw[r1]at hj;cases hj
   obtain⟨o1,h1,h2⟩:=h.rel.obj k b cc hk;rw[hσ]at h1;cases h1
   exact⟨o,s1,hO k _ _ _ hσ h2⟩
  ·by_cases e2:j=k
   ·subst e2;rw[r2]at hj;cases hj
   ·rw[r3 j e1 e2]at hj;obtain⟨o1,h1,h2⟩:=h.rel.obj j b' c' hj;exact⟨o1,(s3 j e1 e2).trans h1,hO j _ _ _ h1 h2⟩
 ·by_cases e1:j=k'
  ·subst e1;rw[r1]at h2;cases h2
  ·by_cases e2:j=k
   ·subst e2;rw[s2]at h1;cases h1
   ·rw[s3 j e1 e2]at h1;rw[r3 j e1 e2]at h2;exact h.rel.real j o1 h1 h2
section
variable {P:Program} {c:Cx} {R1:Nat->Prop} {o:Oper} {fr:Fr} {hp:Hp}
theorem RepO.inv_box{F:Nat->Prop}{ρ:Loc}{σ:Heap'}{w:World}{b cc:Nat}{cs:List IV}(h:RepO F ρ σ w b cc (.box cs)) :
 ∃(e:TypeId)(a:Array Value)(u:Nat->Value),w.heap[b]?=some (.cells a e (0,0))/\cs.length<=a.size/\(∀j x,cs[j]?=some x->a[j]?=some (u j))/\∀j x,cs[j]?=some x->RepI F ρ σ w x (u j):=by
 cases h with
 |box _ e a u h hl hv hr=>exact⟨e,a,u,h,hl,hv,hr⟩
theorem All.box{ρ:Loc}{w:World}{a:Act}(h:All c ρ (look hp) w fr a){x:Operand}{k off:Nat}{cs:List IV}(hx:fr.ev x=some (.ptr k off))(hk:look hp k=some (.box cs)) :
 ∃(b cc:Nat)(e:TypeId)(r:Array Value)(u:Nat->Value),a.eval x=.pointer (some ⟨b,off,none⟩) /\ ρ k=some (b,cc)/\w.heap[b]?=some (.cells r e (0,0))/\cs.length<=r.size/\(∀j x,cs[j]?=some x->r[j]?=some (u j))/\∀j x,cs[j]?=some x->RepI c.F ρ (look hp) w x (u j):=by
 have hr:=h.ev hx;generalize hv:a.eval x=v at hr
 cases hr with
 |ptr _ _ _ hh =>
  obtain⟨b,cc,hρ,rfl⟩:=hh cs hk;obtain⟨o1,h1,h2⟩:=h.rel.obj k b cc hρ;rw[hk]at h1;cases h1
  obtain⟨e,r,u,h3,h4,h5,h6⟩:=h2.inv_box;exact⟨b,cc,e,r,u,rfl,hρ,h3,h4,h5,h6⟩
theorem z4t{w:World}{b:Nat}{r:Array Value}{e:TypeId}(h:w.heap[b]?=some (.cells r e (0,0)))(j:Nat):w.cell? ⟨b,j,none⟩=r[j]?:=by simp[World.cell?,h]
theorem y8h{t:TypeId}{x:Operand}{f fo:Nat}{k off:Nat}{cs:List IV}(ho:o.op=.fieldAddr t x f)(hx:fr.ev x=some (.ptr k off))(hk:look hp k=some (.box cs))
 (hfo:y55 P t f fo):OkV P c R1 o fr (look hp) (.ptr k (off+fo)):=by
 refine λρ w a h=>?_;obtain⟨fs,fd,s,hu,hf,rfl,hs⟩:=hfo;obtain⟨b,cc,e,r,u,hv,hρ,h3,h4,h5,h6⟩:=h.box hx hk;refine⟨.pointer (some ⟨b,off+fd.offset,none⟩),λw2 _=>?_,.ptr _ _ _ λcs' _=>⟨b,cc,hρ,rfl⟩⟩;simp[execOp,ho,hv,Instr.fieldAt,Ai,B9 hu,hf,Instr.sureAddr,fieldPlace,z1a hs,Cu]
theorem y16{t:TypeId}{x:Operand}{d:TypeDesc}{k off:Nat}{cs:List IV}{z:IV}(ho:o.op=.load t x)(hx:fr.ev x=some (.ptr k off))(hk:look hp k=some (.box cs))
 (hu:P.underlying t=some d) (hd:d.isRow=false) (hz:cs[off]?=some z) (hR1:R1 k):OkV P c R1 o fr (look hp) z:=by
 refine λρ w a h=>?_;obtain⟨b,cc,e,r,u,hv,hρ,h3,h4,h5,h6⟩:=h.box hx hk;refine⟨u off,λw2 h2=>?_,h6 off z hz⟩;have h3':w2.heap[b]?=some (.cells r e (0,0)):=(h2 b (h.rel.lt hρ) (.inr ⟨k,cc,hR1,hρ⟩)).trans h3;simp[execOp,ho,hv,Instr.loadAt,Instr.sureAddr,loadVar,Ai,z5x hu,hd,run_load,z4t h3',h5 off z hz]
theorem y8s{w:World}{b:Nat}{r:Array Value}{e:TypeId}(h:w.heap[b]?=some (.cells r e (0,0)))(off n:Nat):w.rangeAt b off ((r.toList.drop off).take n):=by
 intro j v hj;rw[C3]at hj;split at hj
 ·rw[Ct]at hj;rw[z4t h];simpa using hj
 ·cases hj
theorem z7s{t:TypeId}{x:Operand}{d:TypeDesc}{k off n:Nat}{cs:List IV}(ho:o.op=.load t x)(hx:fr.ev x=some (.ptr k off))(hk:look hp k=some (.box cs))
 (hu:P.underlying t=some d) (hd:d.isRow=true) (hs:(P.info? t).map (·.size)=some n) (hn:off+n<=cs.length) (hR1:R1 k):OkV P c R1 o fr (look hp) (.agg ((cs.drop off).take n)):=by
 refine λρ w a h=>?_;obtain⟨b,cc,e,r,u,hv,hρ,h3,h4,h5,h6⟩:=h.box hx hk;have hlen:((r.toList.drop off).take n).length=n:=by simp;omega
 refine⟨_,λw2 h2=>by simp only[execOp,ho,hv,Ai,G8 (P:=P) w2 b off t _ d (y8s ((h2 b (h.rel.lt hρ) (.inr ⟨k,cc,hR1,hρ⟩)).trans h3) off n) hu hd (by rw[hlen];exact hs)];rfl,.agg _ _ (λj=>u (off+j)) ?_ ?_ ?_⟩
 ·simp;omega
 ·intro j z hj;have hjn:j<n:=by have:=(A7.1 hj).1;simp at this;omega
  rw[C3,A5 hjn,Ct]at hj;have:=h5 _ z hj;simp[hjn];simpa using this
 ·intro j z hj;rw[C3]at hj;split at hj
  ·rw[Ct]at hj;exact h6 _ z hj
  ·cases hj
def z7v:List IV->Option (List PV)
 |[]=>some []
 |.pv p::r=>(z7v r).map (p :: ·)
 |_::_=>none
theorem z9a:∀{cs:List IV}{ps:List PV},z7v cs=some ps->ps.length=cs.length/\∀(j:Nat)(p:PV),ps[j]?=some p->cs[j]?=some (IV.pv p)
 |[],ps,h=>by cases h;exact⟨rfl,λj p hj=>by simp at hj⟩
 |.pv q::r,ps,h=>by
  simp only[z7v,A8]at h;obtain⟨qs,hq,rfl⟩:=h;obtain⟨hl,hg⟩:=z9a hq;refine⟨by simp[hl],λj p hj=>?_⟩
  cases j with
  |zero=>simpa using hj
  |succ j=>exact hg j p (by simpa using hj)
 |.ptr .. :: _,_,h|.sl .. :: _,_,h|.rpt .. :: _,_,h|.sp .. :: _,_,h|.bs .. :: _,_,h|.mp .. :: _,_,h|.agg .. :: _,_,h|.tup .. :: _,_,h|.fn .. :: _,_,h=>by cases h
theorem RepI.purify{F:Nat->Prop}{ρ:Loc}{σ:Heap'}{w:World}{cs:List IV}{ps:List PV}{v:Value}(h:RepI F ρ σ w (.agg cs) v)(hp:z7v cs=some ps):RepI F ρ σ w (.pv (.agg ps)) v:=by
 cases h with
 |agg _ vs u hl hv hr =>
  obtain⟨h1,h2⟩:=z9a hp;refine .pv _ _ (.agg ps vs u oM0 (λj p hj=>hv j _ (h2 j p hj)) λj p hj=>?_);have:=hr j _ (h2 j p hj)
  cases this;assumption
theorem OkV.sub{σ:Heap'}{x y:IV}(h:OkV P c R1 o fr σ x)(hs:∀F ρ w v,RepI F ρ σ w x v->RepI F ρ σ w y v):OkV P c R1 o fr σ y :=
 λρ w a ha=>let ⟨v,hr,hv⟩:=h ρ w a ha;⟨v,hr,hs _ _ _ _ hv⟩
theorem lBP{t:TypeId}{x:Operand}{d:TypeDesc}{k off n:Nat}{cs:List IV}{ps:List PV}(ho:o.op=.load t x)(hx:fr.ev x=some (.ptr k off))(hk:look hp k=some (.box cs))
 (hu:P.underlying t=some d) (hd:d.isRow=true) (hs:(P.info? t).map (·.size)=some n) (hn:off+n<=cs.length) (hps:z7v ((cs.drop off).take n)=some ps) (hR1:R1 k):OkV P c R1 o fr (look hp) (.pv (.agg ps)) :=
 (z7s ho hx hk hu hd hs hn hR1).sub λ_ _ _ _ h=>h.purify hps
def PV.one:PV->Bool
 |.val v=>v.oneCell'
 |.agg _=>false
 |_=>true
theorem RepP.one{own:Nat->Prop}{w:World}{p:PV}{v:Value}(h:RepP own w p v)(hp:p.one=true):v.oneCell'=true:=by
 cases h<;>first|rfl|exact hp|cases hp
def IV.firm(σ:Heap'):IV->Prop
 |.pv p=>p.one=true
 |.ptr k _=>∃cs,σ k=some (.box cs)
 |.sl k len=>∃s els,σ k=some (.row s els)/\els.length=len
 |.rpt k len _=>∃s els,σ k=some (.row s els)/\els.length=len
 |.sp k _ len=>∃s els,σ k=some (.row s els)/\els.length=len
 |.bs k _=>∃cs,σ k=some (.box cs)
 |.mp k=>∃es,σ k=some (.map es)
 |.tnil _ _=>False
 |.agg _=>False
 |.tup _=>False
 |.fn ..=>True
theorem RepI.one{F:Nat->Prop}{ρ:Loc}{σ:Heap'}{w:World}{x:IV}{v:Value}(h:RepI F ρ σ w x v)(hx:x.firm σ):v.oneCell'=true:=by
 cases h with
 |pv p v h=>exact h.one hx
 |ptr k off v h=>obtain⟨cs,hk⟩:=hx;obtain⟨b,cc,_,rfl⟩:=h cs hk;rfl
 |sl k len v h =>
  obtain⟨s,els,hk,hl⟩:=hx
  rcases(h s els hk).2 hl with⟨b,cc,_,rfl⟩|⟨_,_,rfl⟩<;>rfl
 |rpt k len off v h=>obtain⟨s,els,hk,hl⟩:=hx;obtain⟨b,cc,_,rfl⟩:=(h s els hk).2 hl;rfl
 |sp k n len v h =>
  obtain⟨s,els,hk,hl⟩:=hx
  rcases(h s els hk).2 hl with⟨_,b,cc,_,rfl⟩|⟨_,_,_,rfl⟩<;>rfl
 |bs k n v h=>obtain⟨cs,hk⟩:=hx;obtain⟨b,cc,_,cap,_,_,rfl⟩:=h cs hk;rfl
 |mp k v h=>obtain⟨es,hk⟩:=hx;obtain⟨b,cc,_,rfl⟩:=h es hk;rfl
 |tnil=>exact hx.elim
 |agg=>exact hx.elim
 |tup=>exact hx.elim
 |fn=>rfl
theorem zr8{σ σ':Heap'}(h:∀ρ w a,All c ρ σ w fr a->∃ρ' w',(execOp a.eval o).run P w=.ok .skip w'/\All c ρ' σ' w' fr a):Ok P c o fr σ (.pv (.val undef)) σ':=by
 intro ρ w a K Q ha hK;obtain⟨ρ',w',hr,ha'⟩:=h ρ w a ha;unfold Oper.wp;rw[hr];have:=hK ρ' w' undef ha' (z3c _);show K (a.put o.dst undef) w';exact this
theorem sBx{t:TypeId}{x y:Operand}{k off:Nat}{cs:List IV}{z:IV}(ho:o.op=.store t x y)(hx:fr.ev x=some (.ptr k off))(hy:fr.ev y=some z)(hk:look hp k=some (.box cs))
 (hR:¬c.R k) (hs:(P.info? t).map (·.size)=some 1) (hz:z.firm (look hp)) (hoff:off<cs.length):Ok P c o fr (look hp) (.pv (.val undef)) (look ((k,some (.box (cs.set off z)))::hp)):=by
 refine zr8 λρ w a h=>?_;obtain⟨b,cc,e,r,u,hv,hρ,h3,h4,h5,h6⟩:=h.box hx hk;have hyv:=h.ev hy;have h1:=hyv.one hz;generalize hvy:a.eval y=vy at hyv h1;have hst:(storeVar t ⟨b,off,none⟩ vy).run P w=.ok () (w.setRow b (r.setIfInBounds off vy)):=by
  have hcells:vy.cells = #[vy]:=by cases vy<;>first|rfl|cases h1
  have:=F5 P b off e [vy] 0 r w h3 (by simp;omega) (by simpa using h1);simp[storeVar,hcells,Ai,z1a hs,this]
  congr 1
  apply Fq;simp only[Array.toList_setIfInBounds];rw[List.set_eq_take_append_cons_drop,A5 (by simp;omega)]
 refine⟨ρ,w.setRow b (r.setIfInBounds off vy),by simp[execOp,ho,hv,hvy,Instr.storeAt,Instr.sureAddr,hst],?_⟩;refine h.write hρ hk trivial hR rfl rfl rfl sI0 (λj hj=>F9 w b j _ hj) λkeep _=>?_;refine .box _ e (r.setIfInBounds off vy) (λj=>if j=off then vy else u j) (Fj w b r _ e _ h3) (by simp[h4]) (λj x hj=>?_) (λj x hj=>?_) (by have:=h.rel.ty hk hρ h3;simpa using this)
 ·by_cases e1:j=off
  ·subst e1;simp[show j<r.size by omega]
  ·rw[Bo (C4 e1)]at hj;simp[e1,C4 e1,h5 j x hj]
 ·by_cases e1:j=off
  ·subst e1;rw[Bp hoff]at hj
   cases hj
   simpa using keep _ _ hyv
  ·rw[Bo (C4 e1)]at hj;simpa[e1]using keep _ _ (h6 j x hj)
def y1c(cs:List IV)(off:Nat)(zs:List IV):List IV:=cs.take off++zs++cs.drop (off+zs.length)
theorem RepI.inv_agg{F:Nat->Prop}{ρ:Loc}{σ:Heap'}{w:World}{cs:List IV}{v:Value}(h:RepI F ρ σ w (.agg cs) v) :
 ∃(vs:Array Value)(u:Nat->Value),v=.agg vs/\vs.size=cs.length/\(∀j x,cs[j]?=some x->vs[j]?=some (u j))/\∀j x,cs[j]?=some x->RepI F ρ σ w x (u j):=by
 cases h with
 |agg _ vs u hl hv hr=>exact⟨vs,u,rfl,hl,hv,hr⟩
theorem RepI.unpure{F:Nat->Prop}{ρ:Loc}{σ:Heap'}{w:World}{ps:List PV}{v:Value}(h:RepI F ρ σ w (.pv (.agg ps)) v):RepI F ρ σ w (.agg (ps.map .pv)) v:=by
 cases h with
 |pv _ _ h =>
  cases h with
  |agg _ vs u hl hv hr =>
   refine .agg _ vs u (by simp[hl]) (λj x hj=>?_) λj x hj=>?_
   ·simp only[Bc,A8]at hj;obtain⟨p,hp,rfl⟩:=hj;exact hv j p hp
   ·simp only[Bc,A8]at hj;obtain⟨p,hp,rfl⟩:=hj;exact .pv _ _ (hr j p hp)
def IV.parts:IV->Option (List IV)
 |.agg cs=>some cs
 |.pv (.agg ps)=>some (ps.map .pv)
 |_=>none
theorem RepI.parts{F:Nat->Prop}{ρ:Loc}{σ:Heap'}{w:World}{x:IV}{cs:List IV}{v:Value}(h:RepI F ρ σ w x v)(hx:x.parts=some cs):RepI F ρ σ w (.agg cs) v:=by
 unfold IV.parts at hx;split at hx
 ·cases hx;exact h
 ·cases hx;exact h.unpure
 ·cases hx
theorem sBA{t:TypeId}{x y:Operand}{k off:Nat}{cs zs:List IV}{z:IV}(ho:o.op=.store t x y)(hx:fr.ev x=some (.ptr k off))(hy:fr.ev y=some z)(hz:z.parts=some zs)(hk:look hp k=some (.box cs))
 (hR:¬c.R k) (hs:(P.info? t).map (·.size)=some zs.length) (hf:∀z∈zs,z.firm (look hp)) (hoff:off+zs.length<=cs.length):Ok P c o fr (look hp) (.pv (.val undef)) (look ((k,some (.box (y1c cs off zs)))::hp)):=by
 refine zr8 λρ w a h=>?_;obtain⟨b,cc,e,r,u,hv,hρ,h3,h4,h5,h6⟩:=h.box hx hk;obtain⟨vs,t',hvy,hl,hv',hr'⟩:=((h.ev hy).parts hz).inv_agg;have hone:∀v∈vs.toList,v.oneCell'=true:=by
  intro v hv;obtain⟨j,hj⟩:=List.mem_iff_getElem?.1 hv;have hlt:j<zs.length:=by have:=(A7.1 hj).1;simp at this;omega
  have hz':zs[j]?=some zs[j]:=Ad hlt;have h7:=hv' j _ hz';have:v=t' j:=by simp only[Bh]at hj;rw[h7]at hj;cases hj;rfl
  subst this;exact(hr' j _ hz').one (hf _ (D4 hlt))
 have hst:(storeVar t ⟨b,off,none⟩ (.agg vs)).run P w=.ok () (w.setRow b (r.toList.take off++vs.toList++r.toList.drop (off+vs.size)).toArray):=by
  have:=F5 P b off e vs.toList 0 r w h3 (by simp;omega) hone;simp only[Ca,Bw]at this;simp[storeVar,Value.cells,Ai,z1a hs,hl];rw[hl]at this;simpa using this
 refine⟨ρ,w.setRow b (r.toList.take off++vs.toList++r.toList.drop (off+vs.size)).toArray,by simp only[execOp,ho,hv,hvy,Instr.storeAt,Instr.sureAddr,Ai,Ch,Aw,hst],?_⟩;refine h.write hρ hk trivial hR rfl rfl rfl sI0 (λj hj=>F9 w b j _ hj) λkeep _=>?_;refine .box _ e _ (λj=>if off<=j/\j<off+zs.length then t' (j-off)else u j) (Fj w b r _ e _ h3) (by simp[y1c];omega) (λj x hj=>?_) (λj x hj=>?_) (by have:=h.rel.ty hk hρ h3;have e:(r.toList.take off++vs.toList++r.toList.drop (off+vs.size)).toArray.size=r.size:=(by simp;omega);rw[e];exact this)
 ·unfold y1c at hj
  by_cases e1:j<off
  ·have:cs[j]?=some x:=by
    rw[Au (by simp;omega),Au (by simp;omega),C3,A5 e1]at hj;exact hj
   have:=h5 j x this;rw[A1 oM0];simp only[Dx];rw[Au (by simp;omega),Au (by simp;omega),C3,A5 e1];simpa using this
  ·by_cases e2:j<off+zs.length
   ·have:zs[j-off]?=some x:=by
     rw[Au (by simp;omega),B4 (by simp;omega)]at hj;simpa[Dj (show off<=cs.length by omega)]using hj
    have:=hv' _ x this;rw[A5 ⟨by omega,e2⟩];simp only[Dx];rw[Au (by simp;omega),B4 (by simp;omega)];simpa[Dj (show off<=r.size by omega)]using this
   ·have:cs[j]?=some x:=by
     rw[B4 (by simp;omega)]at hj;simp only[Ct,B8,Db,Dj (show off<=cs.length by omega)]at hj
     rwa [show off+zs.length+(j-(off+zs.length))=j by omega]at hj
    have:=h5 j x this;rw[A1 oM0];simp only[Dx];rw[B4 (by simp;omega)];simp only[Ct,B8,Db,Bw,Dj (show off<=r.size by omega)];rw[show off+vs.size+(j-(off+vs.size))=j by omega];simpa using this
 ·unfold y1c at hj
  by_cases e1:j<off
  ·have:cs[j]?=some x:=by
    rw[Au (by simp;omega),Au (by simp;omega),C3,A5 e1]at hj;exact hj
   rw[A1 oM0];exact keep _ _ (h6 j x this)
  ·by_cases e2:j<off+zs.length
   ·have:zs[j-off]?=some x:=by
     rw[Au (by simp;omega),B4 (by simp;omega)]at hj;simpa[Dj (show off<=cs.length by omega)]using hj
    rw[A5 ⟨by omega,e2⟩];exact keep _ _ (hr' _ x this)
   ·have:cs[j]?=some x:=by
     rw[B4 (by simp;omega)]at hj;simp only[Ct,B8,Db,Dj (show off<=cs.length by omega)]at hj
     rwa [show off+zs.length+(j-(off+zs.length))=j by omega]at hj
    rw[A1 oM0];exact keep _ _ (h6 j x this)
theorem z31(w:World)(ob:Obj):(w.alloc ob).heap[w.heap.size]?=some ob:=by
 show(w.heap.push ob)[w.heap.size]?=_;simp
theorem aLc{t:TypeId}{k:Nat}{z:Value}(ho:o.op=.alloc t)(hz:((P.info? t).bind (·.zero))=some z)(hσ:look hp k=none)(hc:c.σ k=none)(hfr:nmFr k fr=false)(hhp:nmHp k hp=false) :
 Ok P c o fr (look hp) (.ptr k 0) (look ((k,some (.box (z.cells.toList.map λv=>.pv (.val v))))::hp)):=by
 intro ρ w a K Q h hK;have hzv:(zeroValue t).run P w=.ok z w:=by
  cases hq:P.info? t with
  |none=>simp[hq]at hz
  |some i=>simp[hq]at hz;simp[zeroValue,typeInfo,hq,hz]
 have hrun:(execOp a.eval o).run P w=.ok (.value (.pointer (some ⟨w.heap.size,0,none⟩))) (w.alloc (.cells z.cells t)):=by
  have hn:(newVar t z).run P w=.ok ⟨w.heap.size,0,none⟩ (w.alloc (.cells z.cells t)):=rfl;simp only[execOp,ho,Instr.alloc,Ai,hzv,hn,Aw];rfl
 unfold Oper.wp;rw[hrun];refine hK (z18 ρ k (some (w.heap.size,1))) _ _ (h.alloc hσ hc hfr hhp 1 _ _ λkeep _=>?_) (.ptr _ _ _ λcs' _=>⟨w.heap.size,1,z09,rfl⟩);refine .box _ t z.cells (λj=>z.cells.getD j undef) (z31 w _) sI0 (λj x hj=>?_) λj x hj=>?_
 ·simp only[Bc,A8]at hj;obtain⟨v,hv,rfl⟩:=hj;simp only[Bh]at hv;simp[hv,B0]
 ·simp only[Bc,A8]at hj;obtain⟨v,hv,rfl⟩:=hj;simp only[Bh]at hv;simp only[B0,hv,Cj];exact z3c _
theorem z95{x:Operand}{i:Nat}{vs:List IV}{z:IV}{σ:Heap'}(ho:o.op=.extract x i)(hx:fr.ev x=some (.tup vs))(hz:vs[i]?=some z):OkV P c R1 o fr σ z:=by
 refine λρ w a h=>?_;have hr:=h.ev hx;generalize hv:a.eval x=v at hr
 cases hr with
 |tup _ ws u hl hv' hr =>
  exact⟨u i,λ_ _=>by simp[execOp,ho,hv,Instr.extract,hv' i z hz],hr i z hz⟩
end
section
variable {P:Program} {c:Cx} {o:Oper} {fr:Fr} {σ:Heap'} {ops:Array Oper} {Q:Exit->Fr->Heap'->Prop}
theorem WL.nil(h:Q .normal fr σ):WL P c ops Q [] fr σ:=λρ _ _ ha=>⟨ρ,σ,fr,ha,h⟩
theorem WL.cons{x:IV}{σ':Heap'}{l:List Oper}{d:Nat}(hg:o.guard=none)(hd:o.dst=some d)(hn:Nat.blt d c.n=true)(hok:Ok P c o fr σ x σ')(h:WL P c ops Q l ((d,x)::fr) σ'):WL P c ops Q (o::l) fr σ :=
 λρ w a ha=>Eu hg λK hK=>hok ρ w a K _ ha λρ' w' _ ha' hv=>hK _ _ (h ρ' w' _ (by
  have:=ha'.put (d:=o.dst) hv (by rw[hd];intro t ht;cases ht;simpa using hn)
  rwa [hd]at this⊢))
theorem M0{x:IV}{l:List Oper}{d:Nat}(hg:o.guard=none)(hd:o.dst=some d)(hn:Nat.blt d c.n=true)(hok:OkV P c (λ_=>True) o fr σ x)(h:WL P c ops Q l ((d,x)::fr) σ):WL P c ops Q (o::l) fr σ :=
 WL.cons hg hd hn hok.ok h
theorem zb0{ρ:Loc}{w:World}{a:Act}{j t:Nat}{oj:Oper}{b:Bool}(h:All c ρ σ w fr a)(hj:ops[j]?=some oj)(ht:oj.dst=some t)(hb:fr.get t=some (.pv (.val (.bool b)))):yielded ops a.tmps j=some b:=by
 obtain⟨v,hv,hr⟩:=h.fr t _ hb;have:=hr.val;subst this;simp[yielded,hj,ht,hv]
theorem WL.yes{x:IV}{σ':Heap'}{l:List Oper}{j t d:Nat}{b:Bool}{oj:Oper}(hg:o.guard=some (j,b))(hj:ops[j]?=some oj)(ht:oj.dst=some t)(hb:fr.get t=some (.pv (.val (.bool b))))(hd:o.dst=some d)(hn:Nat.blt d c.n=true)
 (hok:Ok P c o fr σ x σ') (h:WL P c ops Q l ((d,x)::fr) σ'):WL P c ops Q (o::l) fr σ:=by
 intro ρ w a ha;refine wpList_step λK hK=>?_;rw[A5 (by simp[Region.wanted,hg,zb0 ha hj ht hb])];exact hok ρ w a K _ ha λρ' w' _ ha' hv=>hK _ _ (h ρ' w' _ (by
  have:=ha'.put (d:=o.dst) hv (by rw[hd];intro t ht;cases ht;simpa using hn)
  rwa [hd]at this⊢))
theorem WL.yesV{x:IV}{l:List Oper}{j t d:Nat}{b:Bool}{oj:Oper}(hg:o.guard=some (j,b))(hj:ops[j]?=some oj)(ht:oj.dst=some t)(hb:fr.get t=some (.pv (.val (.bool b))))(hd:o.dst=some d)(hn:Nat.blt d c.n=true)
 (hok:OkV P c (λ_=>True) o fr σ x) (h:WL P c ops Q l ((d,x)::fr) σ):WL P c ops Q (o::l) fr σ:=WL.yes hg hj ht hb hd hn hok.ok h
theorem WL.no{l:List Oper}{j t d:Nat}{b:Bool}{oj:Oper}(hg:o.guard=some (j,!b))(hj:ops[j]?=some oj)(ht:oj.dst=some t)(hb:fr.get t=some (.pv (.val (.bool b))))(hd:o.dst=some d)(hn:Nat.blt d c.n=true)
 (h:WL P c ops Q l ((d,.pv (.val undef))::fr) σ):WL P c ops Q (o::l) fr σ:=by
 intro ρ w a ha;refine wpList_step λK hK=>?_;rw[A1 (by simp[Region.wanted,hg,zb0 ha hj ht hb])];exact hK _ _ (h ρ w _ (by
  have:=ha.put (d:=o.dst) (z3c undef) (by rw[hd];intro t ht;cases ht;simpa using hn)
  rwa [hd]at this⊢))
theorem y7c{ρ:Loc}{w:World}{a:Act}{j t:Nat}{oj:Oper}(h:All c ρ σ w fr a)(hj:ops[j]?=some oj)(ht:oj.dst=some t)(hb:fr.get t=some (.pv (.val undef))):yielded ops a.tmps j=none:=by
 obtain⟨v,hv,hr⟩:=h.fr t _ hb;have:=hr.val;subst this;simp[yielded,hj,ht,hv,undef]
theorem Trans.drew(F R:Nat->Prop)(ρ:Loc)(σ:Heap')(w:World):Trans F R ρ σ w ρ σ { w with drawn:=w.drawn+1 } :=
 ⟨rfl,rfl,rfl,Ag _,λ_ _ _=>rfl,λ_ _ _ h _=>.inl h,λ_ _ _ _ _=>rfl,λ_ _ _ _ _=>rfl,λ_ _ _ _ _ _ _ _=>rfl,
  λk s s' els els' h h'=>by rw[h]at h';cases h';exact Ag _,λ_ _ h=>.inr ⟨_,h⟩,λ_ _ h=>.inr ⟨_,h⟩,λ_ _ _ h=>.inr ⟨_,h⟩⟩
theorem All.drew{ρ:Loc}{w:World}{a:Act}(h:All c ρ σ w fr a):All c ρ σ { w with drawn:=w.drawn+1 } fr a:=by
 have t:=Trans.drew c.F (λ_=>True) ρ σ w;have hnn:∀x,¬Names (λk=>σ k=none /\ σ k≠none) x:=λx hx=>by obtain⟨k,hk⟩:=hx.some;exact hk.2 hk.1
 exact h.step t (λ_ _=>trivial) ⟨h.rel.inj,h.rel.apart,h.rel.old,λk b cc hk=>by
  obtain⟨o1,h1,h2⟩:=h.rel.obj k b cc hk;exact⟨o1,h1,h2.keep t rfl λx _=>hnn x⟩,h.rel.real⟩ (λk h1 h2=>A9 h1 h2) λ_ x _=>hnn x
def thenQ(P:Program)(c:Cx)(y:Code)(Q:Exit->Fr->Heap'->Prop):Exit->Fr->Heap'->Prop
 |.normal,fr,σ=>Tr P c y fr σ Q
 |e,fr,σ=>Q e fr σ
def j0p(id:Nat)(Q:Exit->Fr->Heap'->Prop):Exit->Fr->Heap'->Prop
 |.exit id',fr,σ=>bif Nat.beq id' id then Q .normal fr σ else Q (.exit id') fr σ
 |e,fr,σ=>Q e fr σ
theorem Tr.region{id:Nat}{l:List Oper}(hl:ops.toList=l)(h:WL P c ops Q l fr σ):Tr P c (.region id ops false) fr σ Q :=
 λρ w a ha=>Ga (by rw[hl];exact h ρ w a ha)
theorem Tr.seq{x y:Code}(h:Tr P c x fr σ (thenQ P c y Q)):Tr P c (.seq x y) fr σ Q :=
 λρ w a ha=>wp_seq (Ge (h ρ w a ha) λe a w ⟨ρ,σ,fr,ha,hq⟩=>by
  cases e<;>first|exact hq ρ w a ha|exact⟨ρ,σ,fr,ha,hq⟩)
theorem tSk(h:Q .normal fr σ):Tr P c .skip fr σ Q:=λρ _ _ ha=>wp_skip ⟨ρ,σ,fr,ha,h⟩
theorem tRt(h:Q .ret fr σ):Tr P c .ret fr σ Q:=λρ _ _ ha=>wp_ret ⟨ρ,σ,fr,ha,h⟩
theorem tEx{id:Nat}(h:Q (.exit id) fr σ):Tr P c (.exit id) fr σ Q:=λρ _ _ ha=>wp_exit ⟨ρ,σ,fr,ha,h⟩
theorem tBk{id:Nat}{x:Code}(h:Tr P c x fr σ (j0p id Q)):Tr P c (.block id x) fr σ Q :=
 λρ w a ha=>wp_block (Ge (h ρ w a ha) λe a w ⟨ρ,σ,fr,ha,hq⟩=>by
  cases e with
  |exit id' =>
   simp only[j0p]at hq;show if id'=id then _ else _
   by_cases e:id'=id
   ·subst e;rw[A5 rfl];rw[show Nat.beq id' id'=true from Di _]at hq;exact⟨ρ,σ,fr,ha,hq⟩
   ·rw[A1 e];rw[z45 e]at hq
    exact⟨ρ,σ,fr,ha,hq⟩
  |_=>exact⟨ρ,σ,fr,ha,hq⟩)
theorem Tr.cond{x:Operand}{y z:Code}{t:Bool}(hx:fr.ev x=some (.pv (.val (.bool t))))(hy:t=true->Tr P c y fr σ Q)(hz:t=false->Tr P c z fr σ Q):Tr P c (.cond x y z) fr σ Q :=
 λρ w a ha=>wp_cond_split (z0v ha hx) (λh=>hy h ρ w a ha) λh=>hz h ρ w a ha
theorem Tr.mono{x:Code}{Q':Exit->Fr->Heap'->Prop}(h:Tr P c x fr σ Q)(hq:∀e fr σ,Q e fr σ -> Q' e fr σ):Tr P c x fr σ Q' :=
 λρ w a ha=>Ge (h ρ w a ha) λ_ _ _ ⟨ρ,σ,fr,ha,h⟩=>⟨ρ,σ,fr,ha,hq _ _ _ h⟩
def Sub(σ:Heap')(fr fr':Fr):Prop:=∀t y,fr'.get t=some y->∃x,fr.get t=some x/\∀F ρ w v,RepI F ρ σ w x v->RepI F ρ σ w y v
theorem All.sub{ρ:Loc}{w:World}{fr':Fr}{a:Act}(h:All c ρ σ w fr a)(hs:Sub σ fr fr'):All c ρ σ w fr' a :=
 ⟨h.rel,λt y hy=>by
  obtain⟨x,hx,hr⟩:=hs t y hy;obtain⟨v,hv,h1⟩:=h.fr t x hx;exact⟨v,hv,hr _ _ _ _ h1⟩,h.tr,h.df,h.sz,h.kk⟩
def subB:Fr->Fr->Prop
 |_,[]=>True
 |fr,(t,y)::r=>fr.get t=some y/\subB fr r
theorem Sub.of{fr fr':Fr}(h:subB fr fr'):Sub σ fr fr':=by
 induction fr' with
 |nil=>intro t y hy;cases hy
 |cons p r ih =>
  obtain⟨t0,y0⟩:=p;intro t y hy;simp only[Fr.get]at hy
  cases hb:Nat.beq t0 t with
  |true =>
   rw[hb]at hy;cases hy
   obtain rfl:=Ak hb
   exact⟨_,h.1,λ_ _ _ _ h=>h⟩
  |false=>rw[hb]at hy;exact ih h.2 t y hy
theorem Tr.loop{x:Code}(I:Fr->Heap'->Nat->Prop){n:Nat}(h0:I fr σ n)
 (round:∀fr σ n,I fr σ n->Tr P c x fr σ λe fr' σ'=>match e with
  |.normal=>∃fr'' n',n'<n/\Sub σ' fr' fr''/\I fr'' σ' n'
  |e=>Q e fr' σ'):Tr P c (.loop x) fr σ Q:=by
 intro ρ w a ha b k cs;have key:∀n ρ w a fr σ,All c ρ σ w fr a->I fr σ n ->
  ∃e a' w',lift c Q e a' w'/\Arrives P (lone (b.at a (.code x :: .inLoop x::k)) cs w) b k cs e a' w':=by
  intro n
  induction n using Nat.strongRecOn with
  |_ n ih =>
   intro ρ w a fr σ ha hI;obtain⟨e,a₁,w₁,⟨ρ₁,σ₁,fr₁,ha₁,hq⟩,harr⟩:=round fr σ n hI ρ w a ha b (.inLoop x::k) cs
   cases e with
   |normal =>
    obtain⟨fr₂,n',hlt,hs,hI₁⟩:=hq;obtain⟨e₂,a₂,w₂,hq₂,harr₂⟩:=ih n' hlt ρ₁ w₁ a₁ fr₂ σ₁ (ha₁.sub hs) hI₁
    exact⟨e₂,a₂,w₂,hq₂,.of_steps (Steps.trans harr (.one step_inLoop)) harr₂⟩
   |exit id=>exact⟨_,a₁,w₁,⟨ρ₁,σ₁,fr₁,ha₁,hq⟩,.pass (x:=.inLoop x) rfl (λ_ _=>.inl sI0) harr⟩
   |goto l=>exact⟨_,a₁,w₁,⟨ρ₁,σ₁,fr₁,ha₁,hq⟩,.pass (x:=.inLoop x) rfl (λ_ _=>.inl sI0) harr⟩
   |ret=>exact⟨_,a₁,w₁,⟨ρ₁,σ₁,fr₁,ha₁,hq⟩,.pass (x:=.inLoop x) rfl (λ_ _=>.inl sI0) harr⟩
   |panic ch=>exact⟨_,a₁,w₁,⟨ρ₁,σ₁,fr₁,ha₁,hq⟩,.pass (x:=.inLoop x) rfl (λ_ _=>.inl sI0) harr⟩
   |outgrown=>exact⟨_,a₁,w₁,⟨ρ₁,σ₁,fr₁,ha₁,hq⟩,.pass (x:=.inLoop x) rfl (λ_ _=>.inl sI0) harr⟩
 obtain⟨e,a',w',hq,harr⟩:=key n ρ w a fr σ ha h0;exact⟨e,a',w',hq,.of_steps (.one step_loop) harr⟩
def RepL(F:Nat->Prop)(ρ:Loc)(σ:Heap')(w:World)(xs:List IV)(vs:List Value):Prop:=xs.length=vs.length/\∀(j:Nat)(x:IV),xs[j]?=some x->∃v,vs[j]?=some v/\RepI F ρ σ w x v
def up(l:List (Nat×HO)):Hp:=l.map λp=>(p.1,some p.2)
def SC(P:Program)(f:FuncId)(args:List IV)(pre:List (Nat×HO))(R:Nat->Prop)(r:IV)(post:List (Nat×HO)):Prop :=
 ∀F ρ w vs,Kept w (owned F ρ)->RelH F ρ (look (up pre)) w->RepL F ρ (look (up pre)) w args vs->Calls P f vs.toArray w λe w' =>
  ∃ρ' v,e=.returned v/\RepI F ρ' (look (up post)) w' r v/\RelH F ρ' (look (up post)) w'/\Trans F R ρ (look (up pre)) w ρ' (look (up post)) w'
def frOf:Nat->List IV->Fr
 |_,[]=>[]
 |n,x::r=>(n,x)::frOf (n+1) r
theorem y5f:∀{xs:List IV}{n t:Nat}{x:IV},(frOf n xs).get t=some x->n<=t/\xs[t-n]?=some x
 |y::r,n,t,x,h=>by
  simp only[frOf,Fr.get]at h
  cases hb:Nat.beq n t with
  |true=>rw[hb]at h;obtain rfl:=Ak hb;cases h;exact⟨Ag _,by simp⟩
  |false =>
   rw[hb]at h;obtain⟨h1,h2⟩:=y5f h;refine⟨by omega,?_⟩;rw[show t-n=(t-(n+1))+1 by omega];simpa using h2
def y6b(fn:Func)(fr:Fr):Option IV :=
 match fn.results.toList with
 |[.tmp t]=>fr.get t
 |[]=>some (.tup [])
 |[.tmp t,.tmp u]=>match fr.get t,fr.get u with
  |some x,some y=>some (.tup [x,y])
  |_,_=>none
 |[.tmp t,.tmp u,.tmp s]=>match fr.get t,fr.get u,fr.get s with
  |some x,some y,some z=>some (.tup [x,y,z])
  |_,_,_=>none
 |_=>none
def retQ(fn:Func)(r:IV)(post:List (Nat×HO)):Exit->Fr->Heap'->Prop
 |.ret,fr,σ|.normal,fr,σ=>(∃x,y6b fn fr=some x/\∀F ρ w v,RepI F ρ σ w x v->RepI F ρ σ w r v)/\∀k o,look (up post) k=some o -> σ k=some o
 |_,_,_=>False
theorem yi9{F:Nat->Prop}{ρ:Loc}{w:World}{x y:IV}{u v:Value}(hx:RepI F ρ σ w x u)(hy:RepI F ρ σ w y v):RepI F ρ σ w (.tup [x,y]) (.tuple #[u,v]):=by
 refine .tup _ _ (λj=>if j=0 then u else v) rfl (λj z hj=>?_) λj z hj=>?_
 ·match j with
  |0=>rfl
  |1=>rfl
  |j+2=>simp at hj
 ·match j with
  |0=>cases hj;exact hx
  |1=>cases hj;exact hy
  |j+2=>simp at hj
theorem y2j{F:Nat->Prop}{ρ:Loc}{w:World}{x y z:IV}{u v t:Value}(hx:RepI F ρ σ w x u)(hy:RepI F ρ σ w y v)(hz:RepI F ρ σ w z t):RepI F ρ σ w (.tup [x,y,z]) (.tuple #[u,v,t]):=by
 refine .tup _ _ (λj=>if j=0 then u else if j=1 then v else t) rfl (λj z hj=>?_) λj z hj=>?_
 ·match j with
  |0=>rfl
  |1=>rfl
  |2=>rfl
  |j+3=>simp at hj
 ·match j with
  |0=>cases hj;exact hx
  |1=>cases hj;exact hy
  |2=>cases hj;exact hz
  |j+3=>simp at hj
theorem zs2{fn:Func}{ρ:Loc}{w:World}{a:Act}{x:IV}(h:All c ρ σ w fr a)(hr:y6b fn fr=some x):∃v,(results fn a.tmps).run P w=.ok v w/\RepI c.F ρ σ w x v:=by
 unfold y6b at hr;split at hr
 ·rename_i t heq;obtain⟨v,hv,h1⟩:=h.fr t x hr;refine⟨v,?_,h1⟩;rw[results_tmp (t:=t) (by apply Fa.1;simpa using heq)];simp[hv]
 ·rename_i heq
  cases hr
  refine⟨.tuple #[],results_none (by apply Fa.1;simpa using heq) _ _ _,.tup _ _ (λ_=>undef) rfl (λj z hj=>by simp at hj) λj z hj=>by simp at hj⟩
 ·rename_i t u heq;split at hr
  ·rename_i y z hy hz
   cases hr
   obtain⟨v,hv,h1⟩:=h.fr t y hy;obtain⟨v',hv',h1'⟩:=h.fr u z hz;refine⟨.tuple #[v,v'],?_,yi9 h1 h1'⟩;rw[results_tmp2 (t:=t) (u:=u) (by apply Fa.1;simpa using heq)];simp[hv,hv']
  ·cases hr
 ·rename_i t u s heq;split at hr
  ·rename_i y z q hy hz hq
   cases hr
   obtain⟨v,hv,h1⟩:=h.fr t y hy;obtain⟨v',hv',h1'⟩:=h.fr u z hz;obtain⟨v'',hv'',h1''⟩:=h.fr s q hq;refine⟨.tuple #[v,v',v''],?_,y2j h1 h1' h1''⟩;have heq':fn.results = #[.tmp t,.tmp u,.tmp s]:=by apply Fa.1;simpa using heq
   simp[results,heq',hv,hv',hv'']
  ·cases hr
 ·cases hr
theorem RepP.own{own own':Nat->Prop}{w:World}{p:PV}{v:Value}(h:RepP own w p v)(hk:∀b,own' b->own b):RepP own' w p v:=by
 induction h with
 |val v=>exact .val v
 |seq els a cap b off u ha hb hl hm hc _ ih=>exact .seq els a cap b off u ha (λhne=>⟨λho=>(hb hne).1 (hk _ ho),(hb hne).2⟩) hl hm hc ih
 |agg cs vs u hl hv _ ih=>exact .agg cs vs u hl hv ih
 |ept cs off b o u hb hc _ ih=>exact .ept cs off b o u ⟨λho=>hb.1 (hk _ ho),hb.2⟩ hc ih
open Classical in
theorem All.restrict{ρ:Loc}{σ σ':Heap'}{w:World}{a:Act}(h:All c ρ σ w fr a)(hσ:∀k o,σ' k=some o -> σ k=some o) :
 ∃ρ',All c ρ' σ' w fr a/\∀x v,RepI c.F ρ σ w x v->RepI c.F ρ' σ' w x v:=by
 let ρ':Loc:=λk=>if σ' k=none then none else ρ k
 have hin:∀k,σ' k≠none -> ρ' k=ρ k:=λk hk=>A1 hk;have hout:∀k,σ' k=none -> ρ' k=none:=λk hk=>A5 hk;have hsome:∀k l,ρ' k=some l -> σ' k≠none /\ ρ k=some l:=λk l hk=>by
  by_cases e:σ' k=none
  ·rw[hout k e]at hk;cases hk
  ·exact⟨e,hin k e▸hk⟩
 have t:Trans c.F (λ_=>True) ρ σ w ρ' σ' w:=by
  refine⟨rfl,rfl,rfl,Ag _,λj hj _=>rfl,λk b c hk _=>.inl (hsome _ _ hk).2,λj _ _ _ h1=>hin j (by simp[h1]),λj _ _ _ h1=>hin j (by simp[h1]),λj _ _ _ _ _ h1 _=>hin j (by simp[h1]),?_,?_,?_,?_⟩
  ·intro j s s' els els' h1 h2;rw[hσ _ _ h2]at h1;cases h1;exact Ag _
  all_goals intro j
  iterate 2 ·intro cs h2;exact .inr ⟨_,hσ _ _ h2⟩
  ·intro s cs h2;exact .inr ⟨_,hσ _ _ h2⟩
 have hnone:∀j,¬(σ j=none /\ σ' j≠none):=λj hj=>by
  cases h1:σ' j with
  |none=>exact hj.2 h1
  |some o=>rw[hσ _ _ h1]at hj;cases hj.1
 have hnn:∀x,¬Names (λj=>σ j=none /\ σ' j≠none) x:=λx hx=>by
  obtain⟨j,hj⟩:=hx.some;exact hnone j hj
 refine⟨ρ',h.step t (λ_ _=>trivial) ⟨λk k' b c1 c2 h1 h2=>h.rel.inj _ _ _ _ _ (hsome _ _ h1).2 (hsome _ _ h2).2,λk b c1 h1=>h.rel.apart _ _ _ (hsome _ _ h1).2,h.rel.old,λk b c1 hk=>?_,λk o h1 h2=>?_⟩ (λj h1 h2=>A9 ⟨h1,h2⟩ (hnone j)) λ_ x _=>hnn x,λx v hx=>hx.trans' t (hnn x)⟩
 ·obtain⟨hne,hk'⟩:=hsome _ _ hk;obtain⟨o1,h1,h2⟩:=h.rel.obj k b c1 hk'
  cases h3:σ' k with
  |none=>exact A9 h3 hne
  |some o2=>rw[hσ _ _ h3]at h1;cases h1;exact⟨_,rfl,h2.keep t rfl λx _=>hnn x⟩
 ·rw[hin k (by simp[h1])]at h2;exact h.rel.real k o (hσ _ _ h1) h2
theorem SC.of{f:FuncId}{fn:Func}{code:Code}{args:List IV}{pre post:List (Nat×HO)}{R:Nat->Prop}{r:IV}(hf:P.funcs[f]?=some fn)(hb:fn.body=some code)(hn:args.length<=fn.ntmps)
 (h:∀F ρ w,Tr P ⟨F,R,ρ,look (up pre),w,fn.ntmps⟩ code (frOf 0 args) (look (up pre)) (retQ fn r post)):SC P f args pre R r post:=by
 intro F ρ w vs hkept hrel hargs;refine calls_of_wp hf hb ?_;have ha:All ⟨F,R,ρ,look (up pre),w,fn.ntmps⟩ ρ (look (up pre)) w (frOf 0 args) { tmps:=vs.toArray++Array.replicate (fn.ntmps-vs.toArray.size) undef,defers:=[] }:=by
  refine⟨hrel,λt x hx=>?_,.refl _ _ _ _ _,rfl,?_,hkept⟩
  ·obtain⟨v,hv,hr⟩:=hargs.2 t x (by simpa using(y5f hx).2);refine⟨v,?_,hr⟩;rw[El (by simpa using(A7.1 hv).1)];simpa using hv
  ·have:=hargs.1;simp;omega
 refine Ge (h F ρ w ρ w _ ha) λe a' w' hq=>?_;obtain⟨ρ',σ',fr',ha',hq⟩:=hq
 cases e with
 |ret =>
  obtain⟨⟨x,hx,hs⟩,hσ⟩:=hq;obtain⟨v,hv,h1⟩:=zs2 (P:=P) ha' hx;obtain⟨ρ'',ha'',keep⟩:=ha'.restrict hσ
  exact⟨ha'.df,v,hv,ρ'',v,rfl,keep _ _ (hs _ _ _ _ h1),ha''.rel,ha''.tr⟩
 |normal =>
  obtain⟨⟨x,hx,hs⟩,hσ⟩:=hq;obtain⟨v,hv,h1⟩:=zs2 (P:=P) ha' hx;obtain⟨ρ'',ha'',keep⟩:=ha'.restrict hσ
  exact⟨ha'.df,v,hv,ρ'',v,rfl,keep _ _ (hs _ _ _ _ h1),ha''.rel,ha''.tr⟩
 |_=>exact hq.elim
end
section
variable {P:Program} {c:Cx} {o:Oper} {fr:Fr}
theorem RepI.conv{F F':Nat->Prop}{ρ ρ':Loc}{σ σ':Heap'}{w:World}{x:IV}{v:Value}(h:RepI F ρ σ w x v)(hown:∀b,owned F' ρ' b->owned F ρ b)
 (hn:¬Names (λk=>¬∀o,σ' k=some o -> σ k=some o /\ ρ' k=ρ k) x):RepI F' ρ' σ' w x v:=by
 induction h with
 |pv p v h=>exact .pv p v (h.own hown)
 |ptr k off v h =>
  have hk:∀o,σ' k=some o -> σ k=some o /\ ρ' k=ρ k:=By λe=>hn (.ptr e);refine .ptr k off v λcs h'=>?_;obtain⟨b,c,h1,h2⟩:=h cs (hk _ h').1
  exact⟨b,c,(hk _ h').2.trans h1,h2⟩
 |sl k len v h =>
  have hk:∀o,σ' k=some o -> σ k=some o /\ ρ' k=ρ k:=By λe=>hn (.sl e);refine .sl k len v λs els h'=>⟨(h s els (hk _ h').1).1,λhl=>?_⟩;rw[(hk _ h').2]
  exact(h s els (hk _ h').1).2 hl
 |sp k n len v h =>
  have hk:∀o,σ' k=some o -> σ k=some o /\ ρ' k=ρ k:=By λe=>hn (.sp e);refine .sp k n len v λs els h'=>⟨(h s els (hk _ h').1).1,λhl=>?_⟩;rw[(hk _ h').2]
  exact(h s els (hk _ h').1).2 hl
 |rpt k len off v h =>
  have hk:∀o,σ' k=some o -> σ k=some o /\ ρ' k=ρ k:=By λe=>hn (.rpt e);refine .rpt k len off v λs els h'=>⟨(h s els (hk _ h').1).1,λhl=>?_⟩;rw[(hk _ h').2]
  exact(h s els (hk _ h').1).2 hl
 |bs k n v h =>
  have hk:∀o,σ' k=some o -> σ k=some o /\ ρ' k=ρ k:=By λe=>hn (.bs e);refine .bs k n v λcs h'=>?_;obtain⟨b,c,h1,h2⟩:=h cs (hk _ h').1
  exact⟨b,c,(hk _ h').2.trans h1,h2⟩
 |tnil k T v h =>
  have hk:∀o,σ' k=some o -> σ k=some o /\ ρ' k=ρ k:=By λe=>hn (.tnil e);refine .tnil k T v λcs h'=>?_;obtain⟨b,h1,h2⟩:=h cs (hk _ h').1
  exact⟨b,(hk _ h').2.trans h1,h2⟩
 |mp k v h =>
  have hk:∀o,σ' k=some o -> σ k=some o /\ ρ' k=ρ k:=By λe=>hn (.mp e);refine .mp k v λes h'=>?_;obtain⟨b,c,h1,h2⟩:=h es (hk _ h').1
  exact⟨b,c,(hk _ h').2.trans h1,h2⟩
 |agg cs vs u hl hv _ ih=>exact .agg cs vs u hl hv λj c hj=>ih j c hj λhc=>hn (.agg (Af hj) hc)
 |tup cs vs u hl hv _ ih=>exact .tup cs vs u hl hv λj c hj=>ih j c hj λhc=>hn (.tup (Af hj) hc)
 |fn f xs ys vs ws u t hl hv _ hl' hv' _ ih ih' =>
  exact .fn f xs ys vs ws u t hl hv (λj c hj=>ih j c hj λhc=>hn (.fn1 (Af hj) hc)) hl' hv' (λj c hj=>ih' j c hj λhc=>hn (.fn2 (Af hj) hc))
theorem RepO.conv{F F':Nat->Prop}{ρ ρ':Loc}{σ σ':Heap'}{w:World}{b c:Nat}{ob:HO}(h:RepO F ρ σ w b c ob)(hown:∀b,owned F' ρ' b->owned F ρ b)
 (hn:∀x,ob.has x -> ¬Names (λk=>¬∀o,σ' k=some o -> σ k=some o /\ ρ' k=ρ k) x):RepO F' ρ' σ' w b c ob:=by
 cases h with
 |box cs e a u h hl hv hr=>exact .box cs e a u h hl hv λj x hj=>(hr j x hj).conv hown (hn x ⟨cs,rfl,Af hj⟩)
 |row s els a u h hs hl hm hw hv hr=>exact .row s els a u h hs hl hm hw hv λi el hi j x hj=>(hr i el hi j x hj).own hown
 |map es a t u h hl hv hr=>exact .map es a t u h hl hv λi k p hi=>(hr i k p hi).own hown
def only(ks:List Nat):IV->Bool
 |.pv _=>true
 |.ptr j _=>ks.contains j
 |.sl j _=>ks.contains j
 |.rpt j _ _=>ks.contains j
 |.sp j _ _=>ks.contains j
 |.bs j _=>ks.contains j
 |.mp j=>ks.contains j
 |.tnil j _=>ks.contains j
 |.agg cs=>onlys ks cs
 |.tup cs=>onlys ks cs
 |.fn _ xs ys=>onlys ks xs&&onlys ks ys
where onlys (ks:List Nat):List IV->Bool
 |[]=>true
 |x::r=>only ks x&&onlys ks r
theorem z7t{ks:List Nat}:∀{l:List IV}{x:IV},only.onlys ks l=true->x∈l->only ks x=true
 |y::r,x,h,hx=>by
  simp only[only.onlys,A0]at h;rcases Aq.1 hx with rfl|hx
  ·exact h.1
  ·exact z7t h.2 hx
theorem y3y{ks:List Nat}{x:IV}(h:only ks x=true):¬Names (λk=>k∉ks) x:=by
 intro hn
 induction hn with
 |ptr hk=>exact hk (by simpa[only]using h)
 |sl hk=>exact hk (by simpa[only]using h)
 |rpt hk=>exact hk (by simpa[only]using h)
 |sp hk=>exact hk (by simpa[only]using h)
 |bs hk=>exact hk (by simpa[only]using h)
 |mp hk=>exact hk (by simpa[only]using h)
 |tnil hk=>exact hk (by simpa[only]using h)
 |agg hc _ ih=>exact ih (z7t (by simpa[only]using h) hc)
 |tup hc _ ih=>exact ih (z7t (by simpa[only]using h) hc)
 |fn1 hc _ ih=>simp only[only,A0]at h;exact ih (z7t h.1 hc)
 |fn2 hc _ ih=>simp only[only,A0]at h;exact ih (z7t h.2 hc)
def z97(ks:List Nat):List (Nat×HO)->Bool
 |[]=>true
 |(_,.box cs)::r=>only.onlys ks cs&&z97 ks r
 |(_,_)::r=>z97 ks r
theorem z1o:∀{l:List (Nat×HO)} {k:Nat} {o:HO},look (up l) k=some o->(k,o)∈l
 |(j,q)::r,k,o,h=>by
  simp only[up,B7,look]at h
  cases hb:Nat.beq j k with
  |true=>rw[hb]at h;cases h;obtain rfl:=Ak hb;exact D6
  |false=>rw[hb]at h;exact List.mem_cons_of_mem _ (z1o h)
theorem z2r:∀{l:List (Nat×HO)} {k:Nat},look (up l) k=none↔k∉l.map (·.1)
 |[],k=>by simp[up,look]
 |(j,q)::r,k=>by
  simp only[up,B7,look,Aq,not_or]
  cases hb:Nat.beq j k with
  |true=>obtain rfl:=Ak hb;simp
  |false =>
   have:k≠j:=λe=>by subst e;simp at hb
   simp only[D7,this,not_false_eq_true,true_and];exact z2r
theorem z59:∀{l:List (Nat×HO)} {hp:Hp} {k:Nat},look (up l++hp) k=(look (up l) k).or (look hp k)
 |[],hp,k=>by simp[up,look]
 |(j,q)::r,hp,k=>by
  simp only[up,B7,Be,look]
  cases hb:Nat.beq j k with
  |true=>simp
  |false=>exact z59
theorem z98{ks:List Nat}:∀{l:List (Nat×HO)} {k:Nat} {cs:List IV},z97 ks l=true->(k,HO.box cs)∈l->only.onlys ks cs=true
 |(j,.box ds)::r,k,cs,h,hm=>by
  simp only[z97,A0]at h;rcases Aq.1 hm with e|hm
  ·cases e;exact h.1
  ·exact z98 h.2 hm
 |(j,.row ..)::r,k,cs,h,hm=>by
  rcases Aq.1 hm with e|hm
  ·cases e
  ·exact z98 (by simpa[z97]using h) hm
 |(j,.map ..)::r,k,cs,h,hm=>by
  rcases Aq.1 hm with e|hm
  ·cases e
  ·exact z98 (by simpa[z97]using h) hm
open Classical in
theorem SC.step{f:FuncId}{args:List IV}{pre post:List (Nat×HO)}{R:Nat->Prop}{r:IV}{hp:Hp}{ρ:Loc}{w:World}{a:Act}{vs:List Value}(hsc:SC P f args pre R r post)
 (h:All c ρ (look hp) w fr a) (hargs:RepL c.F ρ (look hp) w args vs) (hpre:∀k o,look (up pre) k=some o->look hp k=some o) (hdom:pre.map (·.1)=post.map (·.1))
 (hR:∀k,c.R k->look (up pre) k=none∨R k) (hr:only (post.map (·.1)) r=true) (hpost:z97 (post.map (·.1)) post=true) :
 Calls P f vs.toArray w λe w'=>∃ρ' v,e=.returned v/\All c ρ' (look (up post++hp)) w' fr a/\RepI c.F ρ' (look (up post++hp)) w' r v:=by
 have hd:∀k,look (up pre) k=none↔look (up post) k=none:=λk=>by rw[z2r,z2r,hdom]
 let ρ1:Loc:=λk=>if look (up pre) k=none then none else ρ k
 let F1:Nat->Prop:=λb=>c.F b∨∃k cc,ρ k=some (b,cc)/\look (up pre) k=none
 have h1in:∀k,look (up pre) k≠none -> ρ1 k=ρ k:=λk hk=>A1 hk;have h1out:∀k,look (up pre) k=none -> ρ1 k=none:=λk hk=>A5 hk;have h1:∀k l,ρ1 k=some l->look (up pre) k≠none /\ ρ k=some l:=λk l hk=>by
  by_cases e:look (up pre) k=none
  ·rw[h1out k e]at hk;cases hk
  ·exact⟨e,(h1in k e)▸hk⟩
 have hown1:∀b,owned F1 ρ1 b->owned c.F ρ b:=λb hb=>by
  rcases hb with(hb|⟨k,cc,hk,_⟩)|⟨k,cc,hk⟩
  ·exact .inl hb
  ·exact .inr ⟨k,cc,hk⟩
  ·exact .inr ⟨k,cc,(h1 k _ hk).2⟩
 have hconv:∀x:IV,¬Names (λk=>¬∀o,look (up pre) k=some o->look hp k=some o /\ ρ1 k=ρ k) x:=λx hx=>by
  obtain⟨k,hk⟩:=hx.some;exact hk λo ho=>⟨hpre k o ho,h1in k (by simp[ho])⟩
 have hrel1:RelH F1 ρ1 (look (up pre)) w:=by
  refine⟨λk k' b cc cc' hk hk'=>h.rel.inj k k' b cc cc' (h1 _ _ hk).2 (h1 _ _ hk').2,λk b cc hk hb=>?_,λb hb=>?_,λk b cc hk=>?_,λk o hk hρ=>?_⟩
  ·rcases hb with hb|⟨k',cc',hk',hn⟩
   ·exact h.rel.apart k b cc (h1 _ _ hk).2 hb
   ·obtain rfl:=h.rel.inj _ _ _ _ _ (h1 _ _ hk).2 hk';exact(h1 _ _ hk).1 hn
  ·rcases hb with hb|⟨k',cc',hk',_⟩
   ·exact h.rel.old b hb
   ·exact h.rel.lt hk'
  ·obtain⟨hne,hk2⟩:=h1 _ _ hk;obtain⟨o1,ho1,ho2⟩:=h.rel.obj k b cc hk2
   cases hl:look (up pre) k with
   |none=>exact A9 hl hne
   |some o2 =>
    rw[hpre k o2 hl]at ho1;cases ho1
    exact⟨_,rfl,ho2.conv hown1 λx _=>hconv x⟩
  ·rw[h1in k (by simp[hk])]at hρ;exact h.rel.real k o (hpre k o hk) hρ
 refine(hsc F1 ρ1 w vs (h.kept.mono hown1) hrel1 ⟨hargs.1,λj x hj=>?_⟩).mono ?_
 ·obtain⟨v,hv,hx⟩:=hargs.2 j x hj;exact⟨v,hv,hx.conv hown1 (hconv x)⟩
 rintro e w' ⟨ρ2,v,rfl,hv,hrel2,t⟩
 let ρ':Loc:=λk=>if look (up pre) k=none then ρ k else ρ2 k
 have h2in:∀k,look (up pre) k≠none -> ρ' k=ρ2 k:=λk hk=>A1 hk;have h2out:∀k,look (up pre) k=none -> ρ' k=ρ k:=λk hk=>A5 hk;have h2none:∀k,look (up pre) k=none -> ρ2 k=none:=λk hk=>by
  cases h3:ρ2 k with
  |none=>rfl
  |some l =>
   obtain⟨o1,ho1,_⟩:=hrel2.obj k l.1 l.2 h3;rw[(hd k).1 hk]at ho1;cases ho1
 have h2:∀k l,ρ2 k=some l->look (up pre) k≠none:=λk l hk e=>by rw[h2none k e]at hk;cases hk
 have hσin:∀k,look (up pre) k≠none->look (up post++hp) k=look (up post) k:=λk hk=>by
  rw[z59]
  cases h3:look (up post) k with
  |none=>exact A9 ((hd k).2 h3) hk
  |some o=>rfl
 have hσout:∀k,look (up pre) k=none->look (up post++hp) k=look hp k:=λk hk=>by
  rw[z59,(hd k).1 hk];rfl
 have hown2:∀b,owned c.F ρ' b->owned F1 ρ2 b:=λb hb=>by
  rcases hb with hb|⟨k,cc,hk⟩
  ·exact .inl (.inl hb)
  ·by_cases e:look (up pre) k=none
   ·rw[h2out k e]at hk;exact .inl (.inr ⟨k,cc,hk,e⟩)
   ·rw[h2in k e]at hk;exact .inr ⟨k,cc,hk⟩
 have hconv2:∀x:IV,only (post.map (·.1)) x=true -> ¬Names (λk=>¬∀o,look (up post++hp) k=some o->look (up post) k=some o /\ ρ' k=ρ2 k) x:=λx hx hn=>by
  refine y3y hx (hn.imp λk hk hmem=>hk λo ho=>?_);have hne:look (up pre) k≠none:=λe=>(z2r.1 ((hd k).1 e)) hmem;rw[hσin k hne]at ho;exact⟨ho,h2in k hne⟩
 have T:Trans c.F (λk=>look (up pre) k=none∨R k) ρ (look hp) w ρ' (look (up post++hp)) w':=by
  refine⟨t.os,t.tape,t.output,t.size,λb hb hall=>t.blk b hb λk cc hk=>?_,λk b cc hk hb=>?_,λk cs cs' e1 e2=>?_,λk cs cs' e1 e2=>?_,λk s s' els els' e1 e2 hl=>?_,λk s s' els els' e1 e2=>?_,λk cs' e2=>?_,λk cs' e2=>?_,λk s els' e2=>?_⟩
  ·obtain⟨hne,hk2⟩:=h1 _ _ hk;exact(hall k cc hk2).resolve_left hne
  ·by_cases e:look (up pre) k=none
   ·rw[h2out k e]at hk;exact .inl hk
   ·rw[h2in k e]at hk;rcases t.own k b cc hk hb with g|⟨k0,c0,g,gn⟩
    ·exact .inl (h1 _ _ g).2
    ·exact .inr ⟨k0,c0,(h1 _ _ g).2,λr=>r.elim (h1 _ _ g).1 gn⟩
  all_goals by_cases e:look (up pre) k=none
  ·exact h2out k e
  ·cases h3:look (up pre) k with
   |none=>exact A9 h3 e
   |some o =>
    rw[hpre k o h3]at e1;cases e1
    rw[hσin k e]at e2;rw[h2in k e,t.box k _ _ h3 e2,h1in k e]
  ·exact h2out k e
  ·cases h3:look (up pre) k with
   |none=>exact A9 h3 e
   |some o =>
    rw[hpre k o h3]at e1;cases e1
    rw[hσin k e]at e2;rw[h2in k e,t.map k _ _ h3 e2,h1in k e]
  ·exact h2out k e
  ·cases h3:look (up pre) k with
   |none=>exact A9 h3 e
   |some o =>
    rw[hpre k o h3]at e1;cases e1
    rw[hσin k e]at e2;rw[h2in k e,t.row k _ _ _ _ h3 e2 hl,h1in k e]
  ·rw[hσout k e,e1]at e2;cases e2;exact Ag _
  ·cases h3:look (up pre) k with
   |none=>exact A9 h3 e
   |some o =>
    rw[hpre k o h3]at e1;cases e1
    rw[hσin k e]at e2;exact t.grow k _ _ _ _ h3 e2
  ·rw[hσout k e]at e2;exact .inr ⟨_,e2⟩
  ·rw[hσin k e]at e2;rcases t.kindB k _ e2 with h3|⟨cs,h3⟩
   ·exact A9 h3 e
   ·exact .inr ⟨cs,hpre k _ h3⟩
  ·rw[hσout k e]at e2;exact .inr ⟨_,e2⟩
  ·rw[hσin k e]at e2;rcases t.kindM k _ e2 with h3|⟨cs,h3⟩
   ·exact A9 h3 e
   ·exact .inr ⟨cs,hpre k _ h3⟩
  ·rw[hσout k e]at e2;exact .inr ⟨_,e2⟩
  ·rw[hσin k e]at e2;rcases t.kindR k _ _ e2 with h3|⟨cs,h3⟩
   ·exact A9 h3 e
   ·exact .inr ⟨cs,hpre k _ h3⟩
 have hnone:∀k,¬(look hp k=none/\look (up post++hp) k≠none):=λk hk=>by
  by_cases e:look (up pre) k=none
  ·rw[hσout k e]at hk;exact hk.2 hk.1
  ·cases h3:look (up pre) k with
   |none=>exact e h3
   |some o=>rw[hpre k o h3]at hk;cases hk.1
 have hnn:∀x:IV,¬Names (λk=>look hp k=none/\look (up post++hp) k≠none) x:=λx hx=>by
  obtain⟨k,hk⟩:=hx.some;exact hnone k hk
 refine⟨ρ',v,rfl,h.step T hR ⟨λk k' b cc cc' hk hk'=>?_,λk b cc hk hb=>?_,λb hb=>Bg (h.rel.old b hb) t.size,λk b cc hk=>?_,λk o hk hρ=>?_⟩ (λk e1 e2=>A9 ⟨e1,e2⟩ (hnone k)) λ_ x _=>hnn x,hv.conv hown2 (hconv2 r hr)⟩
 ·by_cases e:look (up pre) k=none<;>by_cases e':look (up pre) k'=none
  ·rw[h2out k e]at hk;rw[h2out k' e']at hk';exact h.rel.inj _ _ _ _ _ hk hk'
  ·rw[h2out k e]at hk;rw[h2in k' e']at hk';exact A9 (.inr ⟨k,cc,hk,e⟩) (hrel2.apart _ _ _ hk')
  ·rw[h2in k e]at hk;rw[h2out k' e']at hk';exact A9 (.inr ⟨k',cc',hk',e'⟩) (hrel2.apart _ _ _ hk)
  ·rw[h2in k e]at hk;rw[h2in k' e']at hk';exact hrel2.inj _ _ _ _ _ hk hk'
 ·by_cases e:look (up pre) k=none
  ·rw[h2out k e]at hk;exact h.rel.apart _ _ _ hk hb
  ·rw[h2in k e]at hk;exact hrel2.apart _ _ _ hk (.inl hb)
 ·by_cases e:look (up pre) k=none
  ·rw[h2out k e]at hk;obtain⟨o1,ho1,ho2⟩:=h.rel.obj k b cc hk;refine⟨o1,(hσout k e).trans ho1,ho2.keep T (t.blk b (h.rel.lt hk) λk' cc' hk'=>?_) λx _=>hnn x⟩;obtain⟨hne,hk2⟩:=h1 _ _ hk';obtain rfl:=h.rel.inj _ _ _ _ _ hk hk2;exact A9 e hne
  ·rw[h2in k e]at hk;obtain⟨o1,ho1,ho2⟩:=hrel2.obj k b cc hk;refine⟨o1,(hσin k e).trans ho1,ho2.conv hown2 λx ⟨cs,h3,h4⟩=>hconv2 x ?_⟩;subst h3;exact z7t (z98 hpost (z1o ho1)) h4
 ·by_cases e:look (up pre) k=none
  ·rw[hσout k e]at hk;rw[h2out k e]at hρ;exact h.rel.real k o hk hρ
  ·rw[hσin k e]at hk;rw[h2in k e]at hρ;exact hrel2.real k o hk hρ
def z6n(P:Program)(f:FuncId):Prop:=∃fn,P.funcs[f]?=some fn/\(fn.name == "runtime.NumGoroutine")=false/\fn.body.isNone=false
def evs(fr:Fr):List Operand->Option (List IV)
 |[]=>some []
 |x::r=>match fr.ev x,evs fr r with
  |some y,some ys=>some (y::ys)
  |_,_=>none
theorem zh9{σ:Heap'}{ρ:Loc}{w:World}{a:Act}(h:All c ρ σ w fr a):∀{os:List Operand}{xs:List IV},evs fr os=some xs->RepL c.F ρ σ w xs (os.map a.eval)
 |[],xs,hx=>by cases hx;exact⟨rfl,λj x hj=>by simp at hj⟩
 |x::r,xs,hx=>by
  simp only[evs]at hx;split at hx
  ·rename_i y ys hy hys
   cases hx
   have ih:=zh9 h hys;refine⟨by simp[ih.1],λj z hj=>?_⟩
   cases j with
   |zero=>cases hj;exact⟨_,rfl,h.ev hy⟩
   |succ j=>exact ih.2 j z (by simpa using hj)
  ·cases hx
def Subs(σ:Heap')(xs ys:List IV):Prop:=∀F ρ w vs,RepL F ρ σ w xs vs->RepL F ρ σ w ys vs
theorem sRf(σ:Heap')(xs:List IV):Subs σ xs xs:=λ_ _ _ _ h=>h
theorem cRr{f:FuncId}{os:Array Operand}{tys:Array TypeId}{xs args:List IV}{pre post:List (Nat×HO)}{R:Nat->Prop}{r:IV}{hp:Hp}(hsc:SC P f args pre R r post)(hf:z6n P f)
 (ho:o.op=.call { callee:=.value (.func f),args:=os,argTypes:=tys }) (hx:evs fr os.toList=some xs) (hs:Subs (look hp) xs args) (hpre:∀k o,look (up pre) k=some o->look hp k=some o) (hdom:pre.map (·.1)=post.map (·.1))
 (hR:∀k,c.R k->look (up pre) k=none∨R k) (hr:only (post.map (·.1)) r=true) (hpost:z97 (post.map (·.1)) post=true):Ok P c o fr (look hp) r (look (up post++hp)):=by
 intro ρ w a K Q h hK;obtain⟨fn,hfn,hname,hbody⟩:=hf;have hargs:=hs _ _ _ _ (zh9 h hx);have hrun:(execOp a.eval o).run P w=.ok (.enter f (os.toList.map a.eval).toArray) w:=by
  have hcall:(callFunc f (os.toList.map a.eval).toArray).run P w=.ok (.enter f (os.toList.map a.eval).toArray) w:=by
   unfold callFunc;simp only[Ai];show(Result.andThen (.ok P w) _)=_;simp only[Aw,hfn,hname,hbody];rfl
  simp only[execOp,ho,resolve,Act.eval,Deferred.ofValue,Ai,Ch,Aw,invoke];rw[<- hcall]
  congr 2
  apply Fq;simp
 unfold Oper.wp;rw[hrun,Fh];refine(hsc.step h hargs hpre hdom hR hr hpost).mono ?_;rintro e w' ⟨ρ',v,rfl,h1,h2⟩;exact hK ρ' w' v h1 h2
theorem ok_call{f:FuncId}{os:Array Operand}{tys:Array TypeId}{xs args:List IV}{pre post:List (Nat×HO)}{R:Nat->Prop}{r:IV}{hp:Hp}(hsc:SC P f args pre R r post)(hf:z6n P f)
 (ho:o.op=.call { callee:=.value (.func f),args:=os,argTypes:=tys }) (hx:evs fr os.toList=some xs) (hs:Subs (look hp) xs args) (hpre:∀k o,look (up pre) k=some o->look hp k=some o) (hdom:pre.map (·.1)=post.map (·.1))
 (hR:∀k,c.R k->R k) (hr:only (post.map (·.1)) r=true) (hpost:z97 (post.map (·.1)) post=true):Ok P c o fr (look hp) r (look (up post++hp)) :=
 cRr hsc hf ho hx hs hpre hdom (λk h=>.inr (hR k h)) hr hpost
end
section
variable {P:Program} {c:Cx} {R1:Nat->Prop} {o:Oper} {fr:Fr} {hp:Hp} {ops:Array Oper} {Q:Exit->Fr->Heap'->Prop}
theorem All.move{ρ:Loc}{w w':World}{a:Act}{k cc:Nat}{s:RT}{els els':List (List PV)}(h:All c ρ (look hp) w fr a)(hσ:look hp k=some (.row s els))(hlen:els.length<els'.length)
 (hos:w'.os=w.os) (ht:w'.tape=w.tape) (hout:w'.output=w.output) (hsz:w.heap.size<w'.heap.size) (hblk:∀j,j<w.heap.size->w'.heap[j]?=w.heap[j]?)
 (ho:(∀x v,RepP (owned c.F ρ) w x v->RepP (owned c.F (z18 ρ k (some (w.heap.size,cc)))) w' x v)->RepO c.F (z18 ρ k (some (w.heap.size,cc))) (look ((k,some (.row s els'))::hp)) w' w.heap.size cc (.row s els')) :
 All c (z18 ρ k (some (w.heap.size,cc))) (look ((k,some (.row s els'))::hp)) w' fr a:=by
 have hlk:∀j,j≠k->look ((k,some (.row s els'))::hp) j=look hp j:=λj hj=>z1n (C4 hj);have hlk':look ((k,some (.row s els'))::hp) k=some (.row s els'):=z1h;have hρ:∀j,j≠k->z18 ρ k (some (w.heap.size,cc)) j=ρ j:=λj hj=>z2u (C4 hj);have hnk:∀{j x},look hp j=some x->(∀s els,x ≠ .row s els)->j≠k:=λhj hx e=>by subst e;rw[hσ]at hj;cases hj;exact hx _ _ rfl
 have t:Trans c.F (λ_=>True) ρ (look hp) w (z18 ρ k (some (w.heap.size,cc))) (look ((k,some (.row s els'))::hp)) w':=by
  refine⟨hos,ht,hout,G3 hsz,λj hj _=>hblk j hj,?_,λj _ _ h1 _=>hρ j (hnk h1 sI0),λj _ _ h1 _=>hρ j (hnk h1 sI0),?_,?_,?_,?_,?_⟩
  ·intro j b c' hj hb
   by_cases e:j=k
   ·subst e;rw[z09]at hj;cases hj;omega
   ·rw[hρ j e]at hj;exact .inl hj
  ·intro j s1 s2 e1 e2 h1 h2 hl
   by_cases e:j=k
   ·subst e;rw[hσ]at h1;rw[hlk']at h2
    cases h1;cases h2;omega
   ·exact hρ j e
  ·intro j s1 s2 e1 e2 h1 h2
   by_cases e:j=k
   ·subst e;rw[hσ]at h1;rw[hlk']at h2
    cases h1;cases h2;omega
   ·rw[hlk j e,h1]at h2;cases h2;exact Ag _
  all_goals intro j
  iterate 2
   ·intro cs h2
    by_cases e:j=k
    ·subst e;rw[hlk']at h2;cases h2
    ·rw[hlk j e]at h2;exact .inr ⟨_,h2⟩
  ·intro s1 cs h2
   by_cases e:j=k
   ·subst e;rw[hlk']at h2;cases h2;exact .inr ⟨_,hσ⟩
   ·rw[hlk j e]at h2;exact .inr ⟨_,h2⟩
 have hnone:∀j,¬(look hp j=none/\look ((k,some (.row s els'))::hp) j≠none):=λj hj=>by
  by_cases e:j=k
  ·subst e;rw[hσ]at hj;cases hj.1
  ·rw[hlk j e]at hj;exact hj.2 hj.1
 have hnn:∀x,¬Names (λj=>look hp j=none/\look ((k,some (.row s els'))::hp) j≠none) x:=λx hx=>by
  obtain⟨j,hj⟩:=hx.some;exact hnone j hj
 refine h.step t (λ_ _=>trivial) ⟨?_,?_,λb hb=>Nat.lt_trans (h.rel.old b hb) hsz,λj b' c' hj=>?_,λj o1 h1 h2=>?_⟩ (λj h1 h2=>A9 ⟨h1,h2⟩ (hnone j)) λ_ x _=>hnn x
 ·intro j j' b c1 c2 h1 h2
  by_cases e:j=k<;>by_cases e':j'=k
  ·rw[e,e']
  ·subst e;rw[z09]at h1;rw[hρ j' e']at h2
   cases h1
   have:=h.rel.lt h2;omega
  ·subst e';rw[z09]at h2;rw[hρ j e]at h1
   cases h2
   have:=h.rel.lt h1;omega
  ·rw[hρ j e]at h1;rw[hρ j' e']at h2;exact h.rel.inj _ _ _ _ _ h1 h2
 ·intro j b c1 h1 hF
  by_cases e:j=k
  ·subst e;rw[z09]at h1;cases h1
   have:=h.rel.old _ hF;omega
  ·rw[hρ j e]at h1;exact h.rel.apart _ _ _ h1 hF
 ·by_cases e:j=k
  ·subst e;rw[z09]at hj;cases hj
   exact⟨_,hlk',ho λx v hx=>hx.trans' t⟩
  ·rw[hρ j e]at hj;obtain⟨o1,h1,h2⟩:=h.rel.obj j b' c' hj;exact⟨o1,(hlk j e).trans h1,h2.keep t (hblk b' h2.lt) λx _=>hnn x⟩
 ·by_cases e:j=k
  ·subst e;rw[z09]at h2;cases h2
  ·rw[hlk j e]at h1;rw[hρ j e]at h2;exact h.rel.real j o1 h1 h2
theorem All.ghost{ρ:Loc}{w:World}{a:Act}{k:Nat}(h:All c ρ (look hp) w fr a)(hσ:look hp k=none)(hc:c.σ k=none)(hfr:nmFr k fr=false)(hhp:nmHp k hp=false)(s:RT) :
 ρ k=none/\All c ρ (look ((k,some (.row s []))::hp)) w fr a:=by
 have hlk:∀j,j≠k->look ((k,some (.row s []))::hp) j=look hp j:=λj hj=>z1n (C4 hj);have hlk':look ((k,some (.row s []))::hp) k=some (.row s []):=z1h;have hρk:ρ k=none:=by
  cases hk:ρ k with
  |none=>rfl
  |some l=>obtain⟨o',h',_⟩:=h.rel.obj k l.1 l.2 hk;rw[hσ]at h';cases h'
 have hne:∀j x,look hp j=some x->j≠k:=λj x hj e=>by subst e;rw[hσ]at hj;cases hj
 have t:Trans c.F (λ_=>True) ρ (look hp) w ρ (look ((k,some (.row s []))::hp)) w:=by
  refine⟨rfl,rfl,rfl,Ag _,λj hj _=>rfl,λ_ _ _ h _=>.inl h,λ_ _ _ _ _=>rfl,λ_ _ _ _ _=>rfl,λ_ _ _ _ _ _ _ _=>rfl,?_,?_,?_,?_⟩
  ·intro j s s' els els' h1 h2;rw[hlk j (hne _ _ h1),h1]at h2
   cases h2;exact Ag _
  all_goals intro j
  iterate 2
   ·intro cs h2
    by_cases e:j=k
    ·subst e;exact .inl hσ
    ·rw[hlk j e]at h2;exact .inr ⟨_,h2⟩
  ·intro s1 cs h2
   by_cases e:j=k
   ·subst e;exact .inl hσ
   ·rw[hlk j e]at h2;exact .inr ⟨_,h2⟩
 have hnew:∀j,look hp j=none/\look ((k,some (.row s []))::hp) j≠none->j=k:=λj hj=>By λe=>hj.2 ((hlk j e).trans hj.1);have hnn:∀x,nm k x=false -> ¬Names (λj=>look hp j=none/\look ((k,some (.row s []))::hp) j≠none) x:=λx hx hn=>by
  rw[zz6 (hn.imp hnew)]at hx;cases hx
 refine⟨hρk,h.step t (λ_ _=>trivial) ⟨h.rel.inj,h.rel.apart,h.rel.old,λj b' c' hj=>?_,λj o1 h1 h2=>?_⟩ (λj h1 h2=>hnew j ⟨h1,h2⟩▸hc) λt x hx=>hnn x (zm7 hfr hx)⟩
 ·obtain⟨o1,h1,h2⟩:=h.rel.obj j b' c' hj;refine⟨o1,(hlk j (hne _ _ h1)).trans h1,h2.keep t rfl λx ⟨cs,h3,h4⟩=>hnn x ?_⟩;subst h3;exact z5r (z94 hhp h1) h4
 ·by_cases e:j=k
  ·subst e;rw[hlk']at h1;cases h1;exact⟨s,rfl⟩
  ·rw[hlk j e]at h1;exact h.rel.real j o1 h1 h2
theorem All.putFr{ρ:Loc}{σ:Heap'}{w:World}{a:Act}{t:Nat}{x y:IV}(h:All c ρ σ w fr a)(ht:fr.get t=some x)(hxy:∀v,RepI c.F ρ σ w x v->RepI c.F ρ σ w y v):All c ρ σ w ((t,y)::fr) a:=by
 refine⟨h.rel,λt' z hz=>?_,h.tr,h.df,h.sz,h.kk⟩;simp only[Fr.get]at hz
 cases hb:Nat.beq t t' with
 |true =>
  rw[hb]at hz;cases hz
  obtain rfl:=Ak hb;obtain⟨v,hv,hr⟩:=h.fr t x ht
  exact⟨v,hv,hxy v hr⟩
 |false=>rw[hb]at hz;exact h.fr t' z hz
theorem Tr.grow{x:Code}{t k:Nat}(s:RT)(ht:fr.get t=some (.pv (.val (.slice none 0 0))))(hσ:look hp k=none)(hc:c.σ k=none)(hfr:nmFr k fr=false)(hhp:nmHp k hp=false)
 (h:Tr P c x ((t,.sl k 0)::fr) (look ((k,some (.row s []))::hp)) Q):Tr P c x fr (look hp) Q:=by
 intro ρ w a ha;obtain⟨hk,ha'⟩:=ha.ghost hσ hc hfr hhp s;refine h ρ w a (ha'.putFr ht λv hv=>?_);obtain rfl:=hv.val;exact .sl k 0 _ λs' els' _=>⟨Aj _,λ_=>.inr ⟨hk,rfl,rfl⟩⟩
theorem All.row{ρ:Loc}{w:World}{a:Act}(h:All c ρ (look hp) w fr a){x:Operand}{k n:Nat}{s:RT}{els:List (List PV)}(hx:fr.ev x=some (.sl k n))(hk:look hp k=some (.row s els))(hn:els.length=n) :
 (∃(b cc:Nat)(r:Array Value)(u:Nat->Nat->Value),a.eval x=.slice (some ⟨b,0,none⟩) n cc /\ ρ k=some (b,cc)/\w.heap[b]?=some (.cells r s.e (0,0))/\r.size=cc*s.n/\n<=cc/\cc<=maxLen/\(∀el∈els,el.length=s.n) /\
  (∀i el,els[i]?=some el->∀j x,el[j]?=some x->r[i*s.n+j]?=some (u i j))/\∀i el,els[i]?=some el->∀j x,el[j]?=some x->RepP (owned c.F ρ) w x (u i j)) ∨
 (a.eval x=.slice none 0 0 /\ ρ k=none/\els=[]):=by
 have hr:=h.ev hx;generalize hv:a.eval x=v at hr
 cases hr with
 |sl _ _ _ hh =>
  rcases(hh s els hk).2 hn with⟨b,cc,hρ,rfl⟩|⟨hρ,hz,rfl⟩
  ·obtain⟨o1,h1,h2⟩:=h.rel.obj k b cc hρ;rw[hk]at h1;cases h1
   cases h2 with
   |row _ _ r u h3 h4 h5 h6 h7 h8 h9=>exact .inl ⟨b,cc,r,u,rfl,hρ,h3,h4,hn▸h5,h6,h7,h8,h9⟩
  ·exact .inr ⟨rfl,hρ,Ay (hn.trans hz)⟩
theorem yv2{t e:TypeId}{x:Operand}{k n:Nat}{s:RT}{els:List (List PV)}(ho:o.op=.call { callee:=.builtin .len,args:=#[x],argTypes:=#[t] })(hx:fr.ev x=some (.sl k n))(hk:look hp k=some (.row s els))(hn:els.length=n)
 (hu:P.underlying t=some (.slice e)):OkV P c R1 o fr (look hp) (.pv (.val (.int .i64 n))):=by
 intro ρ w a h;refine⟨.int .i64 n,λw2 _=>?_,z3c _⟩;rcases h.row hx hk hn with⟨b,cc,r,u,hv,_⟩|⟨hv,_,he⟩
 ·simp[execOp,ho,hv,resolve,Ai,invoke,builtin,Builtin.len_,B9 hu,goInt]
 ·subst he;subst hn;simp[execOp,ho,hv,resolve,Ai,invoke,builtin,Builtin.len_,B9 hu,goInt]
theorem yv1{t e:TypeId}{x:Operand}(ho:o.op=.call { callee:=.builtin .len,args:=#[x],argTypes:=#[t] })(hx:fr.ev x=some (.pv (.val (.slice none 0 0))))(hu:P.underlying t=some (.slice e)):OkV P c R1 o fr (look hp) (.pv (.val (.int .i64 0))):=by
 intro ρ w a h;refine⟨.int .i64 0,λw2 _=>?_,z3c _⟩;simp[execOp,ho,z0v h hx,resolve,Ai,invoke,builtin,Builtin.len_,B9 hu,goInt]
theorem y3x{t:TypeId}{x:Operand}{s:ByteArray}(ho:o.op=.call { callee:=.builtin .len,args:=#[x],argTypes:=#[t] })(hx:fr.ev x=some (.pv (.val (.string s))))(hu:P.underlying t=some .string):OkV P c R1 o fr (look hp) (.pv (.val (.int .i64 s.size))):=by
 intro ρ w a h;refine⟨.int .i64 s.size,λw2 _=>?_,z3c _⟩;simp[execOp,ho,z0v h hx,resolve,Ai,invoke,builtin,Builtin.len_,B9 hu,goInt]
theorem y7o{s q i j:Nat}(hj:j<s)(h:q=i*s+j):q/s=i/\q%s=j:=by
 subst h;have hs:0<s:=by omega
 exact⟨by rw[F7,F8 _ _ hs,Fb hj,Bu],by rw[F7,Nat.add_mul_mod_self_right,Es hj]⟩
theorem y5e{s m q:Nat}(h:q<m*s):q/s<m/\q%s<s/\q/s*s+q%s=q:=by
 have hs:0<s:=by
  rcases Nat.eq_zero_or_pos s with e|e
  ·subst e;simp at h
  ·exact e
 exact⟨Nat.div_lt_of_lt_mul (by rwa [Nat.mul_comm]),Gd _ hs,by rw[Nat.mul_comm];exact Nat.div_add_mod q s⟩
theorem RepP.flat{own:Nat->Prop}{w:World}{els:List (List PV)}{v:Value}{s:Nat}(h:RepP own w (.seq els) v)(hw:∀el∈els,el.length=s)(hone:∀el∈els,∀x∈el,x.one=true) :
 ∃(a:Option Addr)(cap:Nat)(u:Nat->Nat->Value),v=.slice a els.length cap/\(els≠[]->∃ad:Addr,a=some ad/\∀j y,((List.range (els.length*s)).map λq=>u (q/s) (q%s))[j]?=some y->w.cell? (ad.add j)=some y) /\
  (∀y∈(List.range (els.length*s)).map λq=>u (q/s) (q%s),y.oneCell'=true)/\∀i el,els[i]?=some el->∀j x,el[j]?=some x->RepP own w x (u i j):=by
 cases h with
 |seq _ a cap b off u ha hb hl hm hc hr =>
  have key:∀q,q<els.length*s->∃el x,els[q/s]?=some el/\el.length=s/\el[q%s]?=some x/\x.one=true:=λq hq=>by
   obtain⟨h1,h2,h3⟩:=y5e hq;have he:=hw _ (D4 h1);exact⟨els[q/s],els[q/s][q%s]'oM0,Ad h1,he,Ad _,hone _ (D4 h1) _ (D4 _)⟩
  refine⟨a,cap,u,rfl,λhne=>⟨⟨b,off,none⟩,ha hne,λj y hj=>?_⟩,λy hy=>?_,hr⟩
  ·have hq:j<els.length*s:=by have:=(A7.1 hj).1;simpa using this
   obtain⟨el,x,h1,h2,h3,_⟩:=key j hq;have hy:y=u (j/s) (j%s):=by simpa[hq]using hj.symm
   have:=hc _ el h1 _ x h3;rw[h2]at this;rw[Cu,hy,<- this,Fx,(y5e hq).2.2]
  ·obtain⟨q,hq,rfl⟩:=Bz.1 hy;obtain⟨el,x,h1,h2,h3,h4⟩:=key q (by simpa using hq);exact(hr _ el h1 _ x h3).one h4
theorem ze1{t e:TypeId}(ty:TypeId)(ht:P.underlying t=some (.slice e)){i:TypeInfo}(hi:P.info? e=some i)(w:World)(v:Option Addr)(n cap:Nat)(hn:n<=cap)(a:Option Addr)(cc:Nat) :
 (Builtin.append_ #[t,t] ty #[.slice v n cap,.slice a 0 cc]).run P w=.ok (.slice v n cap) w:=by
 cases v<;>cases a<;>simp[Builtin.append_,B9 ht,sizeOf,typeInfo,hi,Builtin.lenOf,Builtin.firstCells,hn,loadCells,loadCellsFrom,storeCells]
def FlatV(own:Nat->Prop)(w:World)(s:Nat)(els:List (List PV))(v:Value):Prop :=
 ∃(a:Option Addr)(cap:Nat)(u:Nat->Nat->Value),v=.slice a els.length cap/\(els≠[]->∃ad:Addr,a=some ad/\∀j y,((List.range (els.length*s)).map λq=>u (q/s) (q%s))[j]?=some y->w.cell? (ad.add j)=some y) /\
  (∀y∈(List.range (els.length*s)).map λq=>u (q/s) (q%s),y.oneCell'=true)/\∀i el,els[i]?=some el->∀j x,el[j]?=some x->RepP own w x (u i j)
theorem zh2{t:TypeId}{x y:Operand}{k n by_:Nat}{s:RT}{els news:List (List PV)}(ho:o.op=.call { callee:=.builtin .append,args:=#[x,y],argTypes:=#[t,t] })(hx:fr.ev x=some (.sl k n))(hflat:∀ρ w a,All c ρ (look hp) w fr a->FlatV (owned c.F ρ) w s.n news (a.eval y))
 (hk:look hp k=some (.row s els)) (hn:els.length=n) (hR:¬c.R k) (ht:P.underlying t=some (.slice s.e)) (hi:(P.info? s.e).map (λi=>(i.size,i.bytes,(i.zero.map λz=>z.cells.size)))=some (s.n,by_,some s.n)) (hs:0<s.n)
 (hw:∀el∈news,el.length=s.n) (hmax:n+news.length<=maxLen) (hb:(n+news.length)*by_<=140737488355328) :
 Ok P c o fr (look hp) (.sl k (n+news.length)) (look ((k,some (.row s (els++news)))::hp)):=by
 intro ρ w a K Q h hK
 cases hq:P.info? s.e with
 |none=>simp[hq]at hi
 |some i =>
  have hsz:i.size=s.n:=by simp[hq]at hi;exact hi.1
  have hby:i.bytes=by_:=by simp[hq]at hi;exact hi.2.1
  obtain⟨z,hz,hzs⟩:∃z,i.zero=some z/\z.cells.size=s.n:=by simp[hq]at hi;exact hi.2.2
  have hlk':look ((k,some (.row s (els++news)))::hp) k=some (.row s (els++news)):=z1h;obtain⟨ad,cap,u',hvy,had,hone',hr'⟩:=hflat ρ w a h;have hlenN:((List.range (news.length*s.n)).map λq=>u' (q/s.n) (q%s.n)).length=news.length*i.size:=by simp[hsz]
  have hrun:∀(v:Value)(w':World),(Builtin.append_ #[t,t] o.type #[a.eval x,a.eval y]).run P w=.ok v w'->(execOp a.eval o).run P w=.ok (.value v) w':=λv w' hr=>by
   simp only[execOp,ho,resolve,Ai,Ch,Aw,invoke,builtin,List.map_toArray,B7,Cv,hr]
  unfold Oper.wp
  by_cases hm:news=[]
  ·subst hm;simp only[Cy,A6,Ca]at hK hlk'⊢;have hsame:look ((k,some (.row s els))::hp)=look hp:=by
    funext j
    by_cases e:j=k
    ·subst e;rw[z1h,hk]
    ·rw[z1n (C4 e)]
   rw[hsame]at hK;have hv:(Builtin.append_ #[t,t] o.type #[a.eval x,a.eval y]).run P w=.ok (a.eval x) w:=by
    rw[hvy];rcases h.row hx hk hn with⟨b,cc,r,u,hv,_,_,_,hc,_⟩|⟨hv,_,_⟩
    ·rw[hv];exact ze1 _ ht hq w _ _ _ hc _ _
    ·rw[hv];exact ze1 _ ht hq w _ _ _ (Ag _) _ _
   rw[hrun _ _ hv];exact hK ρ w _ h (h.ev hx)
  ·obtain⟨ad,rfl,hcell⟩:=had hm;have hpos:0<news.length:=D0.2 hm;simp only[maxLen]at hmax
   -- the new cells, in their row
   have hvals:∀(r:Array Value)(u:Nat->Nat->Value)(pre:List Value)(rest:List Value),pre.length=n*s.n->(∀el∈els,el.length=s.n)->(∀i el,els[i]?=some el->∀j x,el[j]?=some x->pre[i*s.n+j]?=some (u i j)) ->
    ∀i el,(els++news)[i]?=some el->∀j x,el[j]?=some x ->
     (pre++(List.range (news.length*s.n)).map (λq=>u' (q/s.n) (q%s.n))++rest)[i*s.n+j]?=some (if i<n then u i j else u' (i-n) j):=by
    intro r u pre rest hpl hwe hpre i el hi j x hj
    by_cases hin:i<n
    ·rw[Au oM0]at hi;have h1:=hpre i el hi j x hj;have hlt:=(A7.1 h1).1;rw[A5 hin,Ci,Au hlt,h1]
    ·rw[B4 oM0]at hi;have hlen:=hw el (Af hi);have hj':j<s.n:=by have:=(A7.1 hj).1;omega
     have hi':i-els.length<news.length:=(A7.1 hi).1;have heq:i*s.n+j-n*s.n=(i-n)*s.n+j:=by rw[Nat.sub_mul];have:n*s.n<=i*s.n:=C2 _ oM0;omega
     have hlt:(i-n)*s.n+j<news.length*s.n:=by
      have:(i-n+1)*s.n<=news.length*s.n:=C2 _ oM0;rw[Dg]at this;omega
     obtain⟨d1,d2⟩:=y7o hj' (rfl:(i-n)*s.n+j=(i-n)*s.n+j);have hge:n*s.n<=i*s.n+j:=by have:n*s.n<=i*s.n:=C2 _ oM0;omega
     rw[A1 hin,Ci,B4 oM0,hpl,heq,Au (by simpa using hlt)];simp[hlt,d1,d2]
   have hrow:∀(own':Nat->Prop)(w':World)(u:Nat->Nat->Value),(∀x v,RepP (owned c.F ρ) w x v->RepP own' w' x v)->(∀i el,els[i]?=some el->∀j x,el[j]?=some x->RepP (owned c.F ρ) w x (u i j)) ->
    ∀i el,(els++news)[i]?=some el->∀j x,el[j]?=some x->RepP own' w' x (if i<n then u i j else u' (i-n) j):=by
    intro own' w' u keep hu i el hi j x hj
    by_cases hin:i<n
    ·rw[Au oM0]at hi;rw[A5 hin];exact keep _ _ (hu i el hi j x hj)
    ·rw[B4 oM0,hn]at hi;rw[A1 hin];exact keep _ _ (hr' (i-n) el hi j x hj)
   have hwAll:∀(_:∀el∈els,el.length=s.n),∀el∈els++news,el.length=s.n:=λhe el hel=>(B3.1 hel).elim (he el) (hw el);have hgrow:∀(old:Nat)(pre:List Value)(u:Nat->Nat->Value),old<n+news.length->pre.length=n*s.n->(∀el∈els,el.length=s.n)->(∀i el,els[i]?=some el->∀j x,el[j]?=some x->pre[i*s.n+j]?=some (u i j)) ->
    (∀i el,els[i]?=some el->∀j x,el[j]?=some x->RepP (owned c.F ρ) w x (u i j)) ->
    (Builtin.append_ #[t,t] o.type #[a.eval x,a.eval y]).run P w=.ok (.slice (some ⟨w.heap.size,0,none⟩) (n+news.length) (grownCap w (n+news.length) old s.e))
     (w.drew.alloc (.cells (pre.toArray++((List.range (news.length*s.n)).map λq=>u' (q/s.n) (q%s.n)).toArray++Builtin.zeroCells z.cells (grownCap w (n+news.length) old s.e-(n+news.length))) s.e)) ->
    o.upon P a K Q ((execOp a.eval o).run P w):=by
    intro old pre u hold hpl hwe hpre hu hr;have hge:=grownCap_ge w (n+news.length) old s.e;have hcm:grownCap w (n+news.length) old s.e<=maxLen:=Fo w (n+news.length) old s.e (by simp only[maxLen];omega);rw[hrun _ _ hr];have hnewb:(w.drew.alloc (.cells (pre.toArray++((List.range (news.length*s.n)).map λq=>u' (q/s.n) (q%s.n)).toArray++Builtin.zeroCells z.cells (grownCap w (n+news.length) old s.e-(n+news.length))) s.e)).heap[w.heap.size]?=some (.cells (pre.toArray++((List.range (news.length*s.n)).map λq=>u' (q/s.n) (q%s.n)).toArray++Builtin.zeroCells z.cells (grownCap w (n+news.length) old s.e-(n+news.length))) s.e (0,0)):=z31 w.drew _;refine hK (z18 ρ k (some (w.heap.size,grownCap w (n+news.length) old s.e))) _ _ (h.move hk (by simp;omega) rfl rfl rfl sI0 (λj hj=>Go.RowKit.Below.heap_alloc w.drew _ j hj) λkeep=>?_) (.sl _ _ _ λs1 els1 h1=>?_)
    ·refine .row s (els++news) _ (λi j=>if i<n then u i j else u' (i-n) j) hnewb ?_ (by simp;omega) hcm (hwAll hwe) (λi el hi j x hj=>?_) (hrow _ _ u keep hu)
     ·simp only[Array.size_append,F3,G9,hzs,hpl,Ab,List.length_range,<- Dg]
      congr 1
      omega
     ·have:=hvals #[] u pre (Builtin.zeroCells z.cells (grownCap w (n+news.length) old s.e-(n+news.length))).toList hpl hwe hpre i el hi j x hj;rw[<- this,<- Bh];simp
    ·rw[hlk']at h1;cases h1
     exact⟨by simp;omega,λ_=>.inl ⟨w.heap.size,_,z09,rfl⟩⟩
   rcases h.row hx hk hn with⟨b,cc,r,u,hv,hρ,h3,h4,hc,hcm,hwe,hcells,hu⟩|⟨hv,hρ,hnil⟩
   ·have hpl:(r.toList.take (n*s.n)).length=n*s.n:=by
     have:n*s.n<=cc*s.n:=C2 _ hc;simp;omega
    have hpre:∀i el,els[i]?=some el->∀j x,el[j]?=some x->(r.toList.take (n*s.n))[i*s.n+j]?=some (u i j):=λi el hi j x hj=>by
     have h5:=hcells i el hi j x hj;have hi':i<els.length:=(A7.1 hi).1;have hj':j<s.n:=by have:=(A7.1 hj).1;have:=hwe el (Af hi);omega
     have:i*s.n+j<n*s.n:=by
      have:(i+1)*s.n<=n*s.n:=C2 _ oM0;rw[Dg]at this;omega
     rw[C3,A5 this,Bh,h5]
    by_cases hroom:n+news.length<=cc
    ·have hfit:n*s.n+((List.range (news.length*s.n)).map λq=>u' (q/s.n) (q%s.n)).length<=r.size:=by
      have:(n+news.length)*s.n<=cc*s.n:=C2 _ hroom;simp[Dg]at this⊢;omega
     have hr:=run_append_room (P:=P) w t o.type s.e i ht hq b n cc r h3 ad news.length cap _ hlenN hcell hone' hroom (by rw[hsz];exact hfit);rw[hsz]at hr;rw[hrun _ _ (by rw[hv,hvy];exact hr)];refine hK ρ _ _ (h.write hρ hk ⟨rfl,by simp⟩ hR rfl rfl rfl sI0 (λj hj=>F9 w b j _ hj) λ_ keep=>?_) (.sl _ _ _ λs1 els1 h1=>?_)
     ·refine .row s (els++news) _ (λi j=>if i<n then u i j else u' (i-n) j) (Fj w b r _ s.e _ h3) ?_ (by simp;omega) hcm (hwAll hwe) (λi el hi j x hj=>?_) (hrow _ _ u keep hu)
      ·simp only[F3,B8,Ep,Bw];rw[hpl];omega
      ·have:=hvals #[] u (r.toList.take (n*s.n)) (r.toList.drop (n*s.n+((List.range (news.length*s.n)).map λq=>u' (q/s.n) (q%s.n)).length)) hpl hwe hpre i el hi j x hj;rw[<- this];simp
     ·rw[hlk']at h1;cases h1
      exact⟨by simp;omega,λ_=>.inl ⟨b,cc,hρ,rfl⟩⟩
    ·refine hgrow cc (r.toList.take (n*s.n)) u oM0 hpl hwe hpre hu ?_;rw[hv,hvy];have holds:∀j y,(r.toList.take (n*s.n))[j]?=some y->w.cell? ((⟨b,0,none⟩:Addr).add j)=some y:=λj y hj=>by
      rw[Cu,Bu,z4t h3];rw[C3]at hj;split at hj
      ·simpa using hj
      ·cases hj
     exact run_append_grow (P:=P) w t o.type s.e i z ht hq hz ⟨b,0,none⟩ n cc _ (by rw[hsz];exact hpl) holds ad news.length cap _ hlenN hcell oM0 oM0 (growslice_fits oM0 (by rw[hby];exact hb))
   ·subst hnil;simp only[A6]at hn;subst hn;refine hgrow 0 [] (λ_ _=>undef) oM0 sI0 sI0 sI0 sI0 ?_;rw[hv,hvy];have:=run_append_nil (P:=P) w t o.type s.e i z ht hq hz ad news.length cap _ hlenN hcell hpos oM0 (by rw[hby];simp at hb;omega);simpa using this
theorem aPp{t:TypeId}{x y:Operand}{k n by_:Nat}{s:RT}{els news:List (List PV)}(ho:o.op=.call { callee:=.builtin .append,args:=#[x,y],argTypes:=#[t,t] })(hx:fr.ev x=some (.sl k n))(hy:fr.ev y=some (.pv (.seq news)))
 (hk:look hp k=some (.row s els)) (hn:els.length=n) (hR:¬c.R k) (ht:P.underlying t=some (.slice s.e)) (hi:(P.info? s.e).map (λi=>(i.size,i.bytes,(i.zero.map λz=>z.cells.size)))=some (s.n,by_,some s.n)) (hs:0<s.n)
 (hw:∀el∈news,el.length=s.n) (hone:∀el∈news,∀x∈el,x.one=true) (hmax:n+news.length<=maxLen) (hb:(n+news.length)*by_<=140737488355328) :
 Ok P c o fr (look hp) (.sl k (n+news.length)) (look ((k,some (.row s (els++news)))::hp)) :=
 zh2 ho hx (λρ w a h=>(h.ev hy).inv_seq.flat hw hone) hk hn hR ht hi hs hw hmax hb
theorem All.freeze{ρ:Loc}{w:World}{a:Act}{k n t:Nat}{s:RT}{els:List (List PV)}(h:All c ρ (look hp) w fr a)(hk:look hp k=some (.row s els))(hn:els.length=n)(ht:fr.get t=some (.sl k n)) :
 All c (z18 ρ k none) (look ((k,none)::hp)) w ((t,.pv (.seq els))::fr) a:=by
 have h':=h.drop (k:=k);have hx:fr.ev (.tmp t)=some (.sl k n):=ht;obtain⟨v,hv,hr⟩:=h.fr t _ ht;have hev:a.eval (.tmp t)=v:=by simp[Act.eval,hv]
 have hown:∀b,owned c.F (z18 ρ k none) b->owned c.F ρ b:=λb hb=>by
  rcases hb with hb|⟨j,cc,hj⟩
  ·exact .inl hb
  ·by_cases e:j=k
   ·subst e;rw[z09]at hj;cases hj
   ·rw[z2u (C4 e)]at hj;exact .inr ⟨j,cc,hj⟩
 have hnew:RepP (owned c.F (z18 ρ k none)) w (.seq els) v:=by
  rcases h.row hx hk hn with⟨b,cc,r,u,hv',hρ,h3,h4,hc,hcm,hwe,hcells,hu⟩|⟨hv',hρ,hnil⟩
  ·rw[<- hev,hv',<- hn];refine .seq els _ cc b 0 u (λ_=>rfl) (λ_=>⟨λho=>?_,h.rel.lt hρ⟩) oM0 hcm (λi el hi j x hj=>?_) λi el hi j x hj=>(hu i el hi j x hj).own hown
   ·rcases ho with ho|⟨j,cc',hj⟩
    ·exact h.rel.apart _ _ _ hρ ho
    ·by_cases e:j=k
     ·subst e;rw[z09]at hj;cases hj
     ·rw[z2u (C4 e)]at hj;exact e (h.rel.inj _ _ _ _ _ hj hρ)
   ·rw[z4t h3,Bu,hwe el (Af hi)];exact hcells i el hi j x hj
  ·subst hnil;rw[<- hev,hv'];exact .seq [] none 0 0 0 (λ_ _=>undef) sI0 sI0 sI0 (by simp[maxLen]) sI0 sI0
 refine⟨h'.rel,λt' z hz=>?_,h'.tr,h'.df,h'.sz,h.kk⟩;simp only[Fr.get]at hz
 cases hb:Nat.beq t t' with
 |true =>
  rw[hb]at hz;cases hz
  obtain rfl:=Ak hb
  exact⟨v,hv,.pv _ _ hnew⟩
 |false=>rw[hb]at hz;exact h'.fr t' z hz
theorem Tr.freeze{x:Code}{k n t:Nat}{s:RT}{els:List (List PV)}(ht:fr.get t=some (.sl k n))(hk:look hp k=some (.row s els))(hn:els.length=n)(h:Tr P c x ((t,.pv (.seq els))::fr) (look ((k,none)::hp)) Q):Tr P c x fr (look hp) Q :=
 λ_ w a ha=>h _ w a (ha.freeze hk hn ht)
theorem Tr.drop{x:Code}{k:Nat}(h:Tr P c x fr (look ((k,none)::hp)) Q):Tr P c x fr (look hp) Q:=λ_ w a ha=>h _ w a ha.drop
end
section
variable {P:Program} {c:Cx} {R1:Nat->Prop} {o:Oper} {fr:Fr} {hp:Hp} {ops:Array Oper} {Q:Exit->Fr->Heap'->Prop}
theorem All.push{ρ:Loc}{σ:Heap'}{w:World}{a:Act}(h:All c ρ σ w fr a)(ob:Obj):All c ρ σ (w.alloc ob) fr a/\(∀x v,RepP (owned c.F ρ) w x v->RepP (owned c.F ρ) (w.alloc ob) x v):=by
 have hheap:∀j,j<w.heap.size->(w.alloc ob).heap[j]?=w.heap[j]?:=λj hj=>Go.RowKit.Below.heap_alloc w _ j hj;have t:Trans c.F (λ_=>True) ρ σ w ρ σ (w.alloc ob) :=
  ⟨rfl,rfl,rfl,by simp,λj hj _=>hheap j hj,λ_ _ _ h _=>.inl h,λ_ _ _ _ _=>rfl,λ_ _ _ _ _=>rfl,λ_ _ _ _ _ _ _ _=>rfl,
   λk s s' els els' h h'=>by rw[h]at h';cases h';exact Ag _,λ_ _ h=>.inr ⟨_,h⟩,λ_ _ h=>.inr ⟨_,h⟩,λ_ _ _ h=>.inr ⟨_,h⟩⟩
 have hnn:∀x,¬Names (λk=>σ k=none /\ σ k≠none) x:=λx hx=>by obtain⟨k,hk⟩:=hx.some;exact hk.2 hk.1
 refine⟨h.step t (λ_ _=>trivial) ⟨h.rel.inj,h.rel.apart,λb hb=>Bg (h.rel.old b hb) sI0,λk b cc hk=>?_,h.rel.real⟩ (λk h1 h2=>A9 h1 h2) λ_ x _=>hnn x,λx v hx=>hx.trans' t⟩;obtain⟨o1,h1,h2⟩:=h.rel.obj k b cc hk;exact⟨o1,h1,h2.keep t (hheap b h2.lt) λx _=>hnn x⟩
theorem All.fresh{ρ:Loc}{σ:Heap'}{w:World}{a:Act}(h:All c ρ σ w fr a):¬owned c.F ρ w.heap.size:=λho=>Nat.lt_irrefl _ (h.rel.own_lt ho)
def z8o(x:IV):List IV :=
 match x.parts with
 |some cs=>cs
 |none=>[x]
def z77(F:Nat->Prop)(ρ:Loc)(σ:Heap')(w:World)(cs:List IV)(vs:Array Value):Prop :=
 vs.size=cs.length/\∀(j:Nat)(x:IV),cs[j]?=some x->∃v,vs[j]?=some v/\RepI F ρ σ w x v
theorem yb9{F:Nat->Prop}{ρ:Loc}{σ:Heap'}{w:World}{x:IV}{v:Value}(h:RepI F ρ σ w x v)(hx:x.parts=none->x.firm σ):z77 F ρ σ w (z8o x) v.cells:=by
 unfold z8o
 cases hp:x.parts with
 |some cs =>
  obtain⟨vs,u,rfl,hl,hv,hr⟩:=(h.parts hp).inv_agg
  exact⟨hl,λj x hj=>⟨u j,hv j x hj,hr j x hj⟩⟩
 |none =>
  have h1:=h.one (hx hp);have:v.cells = #[v]:=by cases v<;>first|rfl|cases h1
  rw[this];refine⟨rfl,λj y hj=>?_⟩
  match j with
  |0=>cases hj;exact⟨v,rfl,h⟩
  |j+1=>simp at hj
def z6o(place:Nat->Option (Nat×Nat))(cs:List IV):List (Nat×IV)->Option (List IV)
 |[]=>some cs
 |(i,x)::r =>
  match place i with
  |none=>none
  |some (off,size)=>bif Nat.beq (z8o x).length size&&Nat.ble (off+size) cs.length then z6o place (y1c cs off (z8o x)) r else none
theorem y0m(off:Nat):∀(l:List Value)(k:Nat)(cur:Array Value)(j:Nat),off+k+l.length<=cur.size ->
 ((l.zipIdx k).foldl (λcs (p:Value×Nat)=>cs.setIfInBounds (off+p.2) p.1) cur)[j]?=if off+k<=j/\j<off+k+l.length then l[j-(off+k)]? else cur[j]?
 |[],k,cur,j,_=>by
  have:¬(off+k<=j/\j<off+k):=by omega
  simp[this]
 |v::l,k,cur,j,h=>by
  simp only[List.zipIdx_cons,Ee,A3]at h⊢;rw[y0m off l (k+1) _ j (by simp;omega)]
  by_cases e:j=off+k
  ·subst e;rw[A1 oM0,A5 oM0];simp[show off+k<cur.size by omega]
  ·by_cases e2:off+(k+1)<=j/\j<off+(k+1)+l.length
   ·rw[A5 e2,A5 oM0,show j-(off+k)=(j-(off+(k+1)))+1 by omega];simp
   ·rw[A1 e2,A1 oM0];simp[C4 e]
theorem zb1(off:Nat):∀(l:List (Value×Nat)) (cur:Array Value),(l.foldl (λcs (p:Value×Nat)=>cs.setIfInBounds (off+p.2) p.1) cur).size=cur.size
 |[],_=>rfl
 |p::l,cur=>by rw[Ee,zb1 off l];simp
theorem j2m{cs zs:List IV}{off j:Nat}(h:off+zs.length<=cs.length):(y1c cs off zs)[j]?=if off<=j/\j<off+zs.length then zs[j-off]? else cs[j]?:=by
 unfold y1c
 by_cases e1:j<off
 ·rw[A1 oM0,Au (by simp;omega),Au (by simp;omega),C3,A5 e1]
 ·by_cases e2:j<off+zs.length
  ·rw[A5 ⟨by omega,e2⟩,Au (by simp;omega),B4 (by simp;omega)];simp[Dj (show off<=cs.length by omega)]
  ·rw[A1 oM0,B4 (by simp;omega)];simp only[Ct,B8,Db,Dj (show off<=cs.length by omega)]
   congr 1
   omega
theorem zd4{cs zs:List IV}{off:Nat}(h:off+zs.length<=cs.length):(y1c cs off zs).length=cs.length:=by
 simp[y1c];omega
theorem zl1{F:Nat->Prop}{ρ:Loc}{σ:Heap'}{w:World}{place:Nat->Option (Nat×Nat)}:∀{parts:List (Nat×IV)} {vals:List (Nat×Value)} {cs out:List IV} {cur:Array Value},
 z77 F ρ σ w cs cur->vals.length=parts.length->(∀(j i:Nat)(x:IV),parts[j]?=some (i,x)->∃v,vals[j]?=some (i,v)/\RepI F ρ σ w x v/\(x.parts=none->x.firm σ))->z6o place cs parts=some out ->
 ∃vs,Instr.fill place cur vals=some vs/\z77 F ρ σ w out vs
 |[],[],cs,out,cur,h,_,_,hf=>by cases hf;exact⟨cur,rfl,h⟩
 |(i,x)::r,[],cs,out,cur,_,hl,_,_=>by simp at hl
 |[],_::_,cs,out,cur,_,hl,_,_=>by simp at hl
 |(i,x)::r,(i',v)::vr,cs,out,cur,h,hl,hv,hf=>by
  obtain⟨v',e1,h1,h2⟩:=hv 0 i x rfl;simp only[D5,Cl,Dz]at e1;obtain⟨rfl,rfl⟩:=e1;simp only[z6o]at hf
  cases hp:place i' with
  |none=>rw[hp]at hf;cases hf
  |some q =>
   obtain⟨off,size⟩:=q;rw[hp]at hf;simp only[]at hf
   cases hc:Nat.beq (z8o x).length size&&Nat.ble (off+size) cs.length with
   |false=>rw[hc]at hf;cases hf
   |true =>
    rw[hc]at hf;simp only[E6]at hf;simp only[A0]at hc;have hs:(z8o x).length=size:=Ak hc.1;have hle:off+size<=cs.length:=B5 hc.2;have hcells:=yb9 h1 h2;have hcs:v.cells.size=size:=hcells.1.trans hs;have hnew:z77 F ρ σ w (y1c cs off (z8o x)) (v.cells.zipIdx.foldl (λcs (c,j)=>cs.setIfInBounds (off+j) c) cur):=by
     have hfold:(v.cells.zipIdx.foldl (λcs (p:Value×Nat)=>cs.setIfInBounds (off+p.2) p.1) cur)=((v.cells.toList.zipIdx 0).foldl (λcs (p:Value×Nat)=>cs.setIfInBounds (off+p.2) p.1) cur):=by
      rw[<- Array.foldl_toList];simp
     have hb:off+0+v.cells.toList.length<=cur.size:=by rw[h.1];simp;omega
     show z77 F ρ σ w _ (v.cells.zipIdx.foldl (λcs (p:Value×Nat)=>cs.setIfInBounds (off+p.2) p.1) cur);rw[hfold];refine⟨by rw[zb1,zd4 oM0];exact h.1,λj y hj=>?_⟩;rw[j2m oM0]at hj;rw[y0m off v.cells.toList 0 cur j hb];simp only[Ca,Bw]
     by_cases e:off<=j/\j<off+(z8o x).length
     ·rw[A5 e]at hj;rw[A5 oM0];obtain⟨v1,h3,h4⟩:=hcells.2 _ y hj;exact⟨v1,by rw[Bh];exact h3,h4⟩
     ·rw[A1 e]at hj;rw[A1 oM0];exact h.2 j y hj
    obtain⟨vs,h3,h4⟩:=zl1 hnew (by simpa using hl) (λj k y hj=>hv (j+1) k y (by simpa using hj)) hf;refine⟨vs,?_,h4⟩;simp only[Instr.fill,hp];rw[A1 (by rw[h.1];simp;omega)];exact h3
def z74(z:Value):List IV:=z.cells.toList.map λv=>.pv (.val v)
theorem yb3(F:Nat->Prop)(ρ:Loc)(σ:Heap')(w:World)(z:Value):z77 F ρ σ w (z74 z) z.cells:=by
 refine⟨by simp[z74],λj x hj=>?_⟩;simp only[z74,Bc,A8]at hj;obtain⟨v,hv,rfl⟩:=hj;exact⟨v,by rw[<- Bh];exact hv,z3c v⟩
def y56(P:Program)(fs:Array Field)(pl:Array (Nat×Nat)):Prop:=∀w,((fs.mapM λf=>do pure (f.offset,<- sizeOf f.type)):Sem (Array (Nat×Nat))).run P w=.ok pl w
def z4u(fr:Fr):List (Nat×Operand)->Option (List (Nat×IV))
 |[]=>some []
 |(i,x)::r=>match fr.ev x,z4u fr r with
  |some y,some ys=>some ((i,y)::ys)
  |_,_=>none
theorem z7o{σ:Heap'}{ρ:Loc}{w:World}{a:Act}(h:All c ρ σ w fr a):∀{ps:List (Nat×Operand)} {xs:List (Nat×IV)},z4u fr ps=some xs ->
 (ps.map λp=>(p.1,a.eval p.2)).length=xs.length/\∀(j i:Nat)(x:IV),xs[j]?=some (i,x)->∃v,(ps.map λp=>(p.1,a.eval p.2))[j]?=some (i,v)/\RepI c.F ρ σ w x v
 |[],xs,hx=>by cases hx;exact⟨rfl,λj i x hj=>by simp at hj⟩
 |(i0,x)::r,xs,hx=>by
  simp only[z4u]at hx;split at hx
  ·rename_i y ys hy hys
   cases hx
   have ih:=z7o h hys;refine⟨by simpa using ih.1,λj i z hj=>?_⟩
   cases j with
   |zero=>cases hj;exact⟨_,rfl,h.ev hy⟩
   |succ j=>exact ih.2 j i z (by simpa using hj)
  ·cases hx
def z6p(σ:Heap')(xs:List (Nat×IV)):Prop:=∀p∈xs,p.2.parts=none->p.2.firm σ
theorem yo1{t:TypeId}{parts:Array (Nat×Operand)}{xs:List (Nat×IV)}{pl:Array (Nat×Nat)}{z:Value}{out:List IV}{σ:Heap'}(ho:o.op=.build t parts)(hx:z4u fr parts.toList=some xs)
 (hz:((P.info? t).bind (·.zero))=some z) (hpl:∃fs,P.underlying t=some (.struct fs)/\y56 P fs pl) (hf:z6o (pl[·]?) (z74 z) xs=some out) (hfirm:z6p σ xs):OkV P c R1 o fr σ (.agg out):=by
 intro ρ w a h;obtain⟨fs,hu,hpl⟩:=hpl;have hzv:∀w,(zeroValue t).run P w=.ok z w:=λw=>by
  cases hq:P.info? t with
  |none=>simp[hq]at hz
  |some i=>simp[hq]at hz;simp[zeroValue,typeInfo,hq,hz]
 obtain⟨hl,hv⟩:=z7o h hx;obtain⟨vs,h1,h2⟩:=zl1 (yb3 c.F ρ σ w z) hl (λj i x hj=>by
  obtain⟨v,h3,h4⟩:=hv j i x hj;exact⟨v,h3,h4,hfirm _ (Af hj)⟩) hf
 have hparts:(parts.map λ(i,x)=>(i,a.eval x)).toList=parts.toList.map λp=>(p.1,a.eval p.2):=by simp
 refine⟨.agg vs,λw2 _=>?_,.agg _ _ (λj=>vs.getD j undef) h2.1 (λj x hj=>?_) λj x hj=>?_⟩
 ·simp only[execOp,ho,Instr.build,Ai,hzv,B9 hu,hpl w2,Aw,hparts,h1];rfl
 ·obtain⟨v,h3,_⟩:=h2.2 j x hj;simp[h3,B0]
 ·obtain⟨v,h3,h4⟩:=h2.2 j x hj;simp only[B0,h3,Cj];exact h4
theorem bPu{t:TypeId}{parts:Array (Nat×Operand)}{xs:List (Nat×IV)}{pl:Array (Nat×Nat)}{z:Value}{out:List IV}{ps:List PV}{σ:Heap'}(ho:o.op=.build t parts)(hx:z4u fr parts.toList=some xs)
 (hz:((P.info? t).bind (·.zero))=some z) (hpl:∃fs,P.underlying t=some (.struct fs)/\y56 P fs pl) (hf:z6o (pl[·]?) (z74 z) xs=some out) (hfirm:z6p σ xs) (hp:z7v out=some ps):OkV P c R1 o fr σ (.pv (.agg ps)) :=
 (yo1 ho hx hz hpl hf hfirm).sub λ_ _ _ _ h=>h.purify hp
def z87(s:Nat):Nat->List PV->List (List PV)
 |0,_=>[]
 |n+1,l=>l.take s::z87 s n (l.drop s)
theorem z9k(s:Nat):∀(n:Nat)(l:List PV),(z87 s n l).length=n
 |0,_=>rfl
 |n+1,l=>by simp[z87,z9k s n]
theorem zq3(s:Nat):∀(n:Nat)(l:List PV)(i:Nat)(el:List PV),(z87 s n l)[i]?=some el->n*s<=l.length->el.length=s/\∀j x,el[j]?=some x->l[i*s+j]?=some x
 |0,_,i,el,h,_=>by simp[z87]at h
 |n+1,l,i,el,h,hl=>by
  rw[Dg,Gb]at hl
  cases i with
  |zero =>
   simp only[z87,D5,Cl]at h;subst h;refine⟨by simp;omega,λj x hj=>?_⟩;rw[C3]at hj;split at hj
   ·simpa using hj
   ·cases hj
  |succ i =>
   simp only[z87,List.getElem?_cons_succ]at h;obtain⟨h1,h2⟩:=zq3 s n (l.drop s) i el h (by simp;omega);refine⟨h1,λj x hj=>?_⟩;have:=h2 j x hj;rw[Ct]at this;rw[<- this]
   congr 1
   rw[Dg];omega
def zj0(z:Value):Nat->List IV
 |0=>[]
 |n+1=>z74 z++zj0 z n
theorem y1h{z:Value}(hs:0<z.cells.size):∀(n:Nat),(zj0 z n).length=n*z.cells.size/\∀(j:Nat)(x:IV),(zj0 z n)[j]?=some x->x=IV.pv (.val (z.cells[j%z.cells.size]!))
 |0=>⟨by simp[zj0],λj x hj=>by simp[zj0]at hj⟩
 |n+1=>by
  obtain⟨h1,h2⟩:=y1h hs n;have hl:(z74 z).length=z.cells.size:=by simp[z74]
  refine⟨by simp[zj0,h1,hl,Dg,F7],λj x hj=>?_⟩;simp only[zj0]at hj
  by_cases e:j<z.cells.size
  ·rw[Au oM0]at hj;rw[Es e];simp only[z74,Bc,A8,Bh]at hj;obtain⟨v,hv,rfl⟩:=hj;simp[e]at hv⊢;exact hv.symm
  ·rw[B4 oM0,hl]at hj;have:=h2 _ x hj;rw[this,show j%z.cells.size=(j-z.cells.size)%z.cells.size from by rw[<- Nat.mod_eq_sub_mod oM0]]
theorem bSl{t e:TypeId}{len s:Nat}{parts:Array (Nat×Operand)}{xs:List (Nat×IV)}{z:Value}{out:List IV}{ps:List PV}{σ:Heap'}(ho:o.op=.buildSlice t len parts)(hx:z4u fr parts.toList=some xs)
 (hu:P.underlying t=some (.slice e)) (hz:((P.info? e).bind (·.zero))=some z) (hs:(P.info? e).map (·.size)=some s) (hzs:z.cells.size=s) (hpos:Nat.ble 1 s=true) (hsmall:Nat.ble (len*s) (2 ^ 24)=true)
 (hf:z6o (λi=>some (i*s,s)) (zj0 z len) xs=some out) (hfirm:z6p σ xs) (hp:z7v out=some ps):Ok P c o fr σ (.pv (.seq (z87 s len ps))) σ:=by
 intro ρ w a K Q h hK;have hpos':0<s:=B5 hpos;have hsmall':=B5 hsmall;have hzv:(zeroValue e).run P w=.ok z w:=by
  cases hq:P.info? e with
  |none=>simp[hq]at hz
  |some i=>simp[hq]at hz;simp[zeroValue,typeInfo,hq,hz]
 obtain⟨hl,hv⟩:=z7o h hx;obtain⟨hrl,hrg⟩:=y1h (z:=z) oM0 len;have hrep:z77 c.F ρ σ w (zj0 z len) ((Array.range (len*s)).map (z.cells[· % z.cells.size]!)):=by
  refine⟨by simp[hrl,hzs],λj x hj=>?_⟩;have hjl:j<len*s:=by have:=(A7.1 hj).1;rw[hrl,hzs]at this;exact this
  rw[hrg j x hj];exact⟨_,by simp[hjl],z3c _⟩
 have hlenfill:out.length=len*s:=by
  have:∀(ps:List (Nat×IV)) (cs out:List IV),z6o (λi=>some (i*s,s)) cs ps=some out->out.length=cs.length:=by
   intro ps
   induction ps with
   |nil=>intro cs out h;cases h;rfl
   |cons p r ih =>
    intro cs out h;simp only[z6o]at h
    cases hc:Nat.beq (z8o p.2).length s&&Nat.ble (p.1*s+s) cs.length with
    |false=>rw[hc]at h;cases h
    |true =>
     rw[hc]at h;simp only[A0]at hc;have h1:=Ak hc.1;have h2:=B5 hc.2;rw[ih _ _ h,zd4 oM0]
  rw[this _ _ _ hf,hrl,hzs]
 obtain⟨vs,h1,h2⟩:=zl1 hrep hl (λj i x hj=>by
  obtain⟨v,h3,h4⟩:=hv j i x hj;exact⟨v,h3,h4,hfirm _ (Af hj)⟩) hf
 have hparts:(parts.map λ(i,x)=>(i,a.eval x)).toList=parts.toList.map λp=>(p.1,a.eval p.2):=by simp
 have hrun:(execOp a.eval o).run P w=.ok (.value (.slice (some ⟨w.heap.size,0,none⟩) len len)) (w.alloc (.cells vs e)):=by
  have hnr:(newRow e vs).run P w=.ok ⟨w.heap.size,0,none⟩ (w.alloc (.cells vs e)):=rfl;simp only[execOp,ho,Instr.buildSlice,Ai,B9 hu,z1a hs,Aw];rw[A1 oM0]
  by_cases h0:len*s=0
  ·have h1':Instr.fill (λi=>some (i*s,s)) ((Array.range (len*s)).map ((#[]:Array Value)[· % (#[]:Array Value).size]!)) (List.map (λp=>(p.fst,a.eval p.snd)) parts.toList)=some vs:=by
    have e1:∀f:Nat->Value,(Array.range (len*s)).map f = #[]:=λf=>by rw[h0];simp
    rw[e1]at h1⊢;exact h1
   simp only[A5 h0,Ai,Ch,Aw,hparts];rw[h1'];simp only[Ai,hnr,Aw];rfl
  ·simp only[A1 h0,Ai,Ch,Aw,hzv,hparts];rw[h1];simp only[Ai,hnr,Aw];rfl
 unfold Oper.wp;rw[hrun];obtain⟨h3,keep⟩:=h.push (.cells vs e);refine hK ρ _ _ h3 (.pv _ _ ?_);obtain⟨hpl,hpg⟩:=z9a hp;have hel:∀i el,(z87 s len ps)[i]?=some el->el.length=s/\∀j x,el[j]?=some x->ps[i*s+j]?=some x:=λi el hi=>zq3 s len ps i el hi oM0;have hcl:=z9k s len ps;have:RepP (owned c.F ρ) (w.alloc (.cells vs e)) (.seq (z87 s len ps)) (.slice (some ⟨w.heap.size,0,none⟩) (z87 s len ps).length len):=by
  refine .seq _ _ len w.heap.size 0 (λi j=>vs.getD (i*s+j) undef) (λ_=>rfl) (λ_=>⟨h.fresh,by simp⟩) oM0 (by simp only[maxLen];have:len<=len*s:=E9 _ hpos';omega) (λi el hi j x hj=>?_) λi el hi j x hj=>?_
  ·obtain⟨h5,h6⟩:=hel i el hi;obtain⟨v,h7,_⟩:=h2.2 _ _ (hpg _ _ (h6 j x hj));rw[z4t (z31 w _),h5,Bu,h7];simp[B0,h7]
  ·obtain⟨h5,h6⟩:=hel i el hi;obtain⟨v,h7,h8⟩:=h2.2 _ _ (hpg _ _ (h6 j x hj));simp only[B0,h7,Cj]
   cases h8 with
   |pv _ _ h8=>exact keep _ _ h8
 rwa [hcl]at this
theorem y8m{t e:TypeId}{x:Operand}{lo hi:Option Operand}{els:List (List PV)}{i j s:Nat}{σ:Heap'}(ho:o.op=.slice t x lo hi none)(hx:fr.ev x=some (.pv (.seq els)))(hu:P.underlying t=some (.slice e))(hs:(P.info? e).map (·.size)=some s)
 (hlo:(lo=none/\i=0)∨∃y k,lo=some y/\fr.ev y=some (.pv (.val (.int k i)))) (hhi:(hi=none/\j=els.length)∨∃y k,hi=some y/\fr.ev y=some (.pv (.val (.int k j)))) (hij:i<=j) (hj:j<=els.length) (hw:∀el∈els,el.length=s) :
 OkV P c R1 o fr σ (.pv (.seq ((els.take j).drop i))):=by
 intro ρ w a h;have hr:=(h.ev hx).inv_seq;generalize hv:a.eval x=v at hr;have hlen:((els.take j).drop i).length=j-i:=by simp;omega
 have hget:∀q el,((els.take j).drop i)[q]?=some el->els[i+q]?=some el:=λq el hq=>by
  rw[Ct,C3]at hq;split at hq
  ·exact hq
  ·cases hq
 have hund:∀w,(underlying t).run P w=.ok (.slice e) w:=B9 hu
 cases hr with
 |seq _ ad cap b off u ha hb hl hm hc hr =>
  have hsl:∀w,(Instr.sliceAt t (.slice ad els.length cap) (lo.map a.eval) (hi.map a.eval) none).run P w=.ok (.slice (if cap=i then ad else ad.map (·.add (i*s))) (j-i) (cap-i)) w:=by
   intro w;have hb':(Instr.sliceBounds true els.length cap (lo.map a.eval) (hi.map a.eval) none).run P w=.ok (i,j,cap) w:=by
    rcases hlo with⟨rfl,rfl⟩|⟨y,k,rfl,hy⟩<;>rcases hhi with⟨rfl,rfl⟩|⟨y',k',rfl,hy'⟩
    ·simp[Instr.sliceBounds]
    ·have e1:j<=cap:=by omega
     simp[Instr.sliceBounds,Instr.sliceBound,z0v h hy',asIntOf,e1]
    ·have e1:i<=els.length:=by omega
     simp[Instr.sliceBounds,Instr.sliceBound,z0v h hy,asIntOf,e1]
    ·have e1:j<=cap:=by omega
     simp[Instr.sliceBounds,Instr.sliceBound,z0v h hy,z0v h hy',asIntOf,e1,hij]
   simp only[Instr.sliceAt,Instr.slice,Ai,hund,Aw,hb',z1a hs];rfl
  refine⟨_,λ_ _=>by simp only[execOp,ho,hv,Fi,Ai,hsl,Aw];rfl,.pv _ _ ?_⟩;rw[<- hlen];refine .seq _ _ (cap-i) b (off+i*s) (λq r=>u (i+q) r) (λhne=>?_) (λhne=>?_) oM0 oM0 (λq el hq r z hz=>?_) λq el hq r z hz=>hr (i+q) el (hget q el hq) r z hz
  ·have hpos:0<((els.take j).drop i).length:=D0.2 hne;have hne':els≠[]:=by intro h0;subst h0;simp at hpos
   rw[A1 oM0,ha hne'];simp[Cu]
  ·have hpos:0<((els.take j).drop i).length:=D0.2 hne;have hne':els≠[]:=by intro h0;subst h0;simp at hpos
   exact hb hne'
  ·have:=hc (i+q) el (hget q el hq) r z hz;rw[<- this];have hel:=hw el (Af (hget q el hq))
   congr 2
   rw[hel,Dg];omega
theorem zv8{t:TypeId}{x y:Operand}{s:ByteArray}{k:IntKind}{m:Int}{i:Nat}{b:UInt8}{σ:Heap'}(ho:o.op=.index t x y)(hx:fr.ev x=some (.pv (.val (.string s))))(hy:fr.ev y=some (.pv (.val (.int k m))))(hu:P.underlying t=some .string)
 (hb:s[i]?=some b) (hm:m=i):OkV P c R1 o fr σ (.pv (.val (.int .u8 b.toNat))):=by
 subst hm;intro ρ w a h;refine⟨_,λw2 _=>?_,z3c _⟩;simp[execOp,ho,z0v h hx,z0v h hy,Instr.index,Ai,asIntOf,B9 hu,hb]
theorem zw0{t:TypeId}{x:Operand}{lo hi:Option Operand}{s:ByteArray}{i j:Nat}{σ:Heap'}(ho:o.op=.slice t x lo hi none)(hx:fr.ev x=some (.pv (.val (.string s))))(hu:P.underlying t=some .string)
 (hlo:(lo=none/\i=0)∨∃y k,lo=some y/\fr.ev y=some (.pv (.val (.int k i)))) (hhi:(hi=none/\j=s.size)∨∃y k,hi=some y/\fr.ev y=some (.pv (.val (.int k j)))) (hij:i<=j) (hj:j<=s.size) :
 OkV P c R1 o fr σ (.pv (.val (.string (s.extract i j)))):=by
 intro ρ w a h;have hund:∀w,(underlying t).run P w=.ok .string w:=B9 hu;have hb':∀w,(Instr.sliceBounds false s.size s.size (lo.map a.eval) (hi.map a.eval) none).run P w=.ok (i,j,s.size) w:=by
  intro w;rcases hlo with⟨rfl,rfl⟩|⟨y,k,rfl,hy⟩<;>rcases hhi with⟨rfl,rfl⟩|⟨y',k',rfl,hy'⟩
  ·simp[Instr.sliceBounds]
  ·simp[Instr.sliceBounds,Instr.sliceBound,z0v h hy',asIntOf,hj]
  ·simp[Instr.sliceBounds,Instr.sliceBound,z0v h hy,asIntOf,hij]
  ·simp[Instr.sliceBounds,Instr.sliceBound,z0v h hy,z0v h hy',asIntOf,hj,hij]
 refine⟨_,λw2 _=>?_,z3c _⟩;simp only[execOp,ho,Fi,Instr.sliceAt,Instr.slice,Ai,z0v h hx,hund,Aw,Option.isSome_none,As,Bv,hb'];rfl
end
section
variable {P:Program} {c:Cx} {R1:Nat->Prop} {o:Oper} {fr:Fr} {σ:Heap'} {ops:Array Oper} {Q:Exit->Fr->Heap'->Prop} {fuel:Nat} {listed:Array Bool}
def WA(P:Program)(c:Cx)(R1:Nat->Prop)(ops:Array Oper)(Q:Exit->Fr->Heap'->Prop)(fuel:Nat)(listed:Array Bool)(fr:Fr)(σ:Heap'):Prop :=
 ∀ρ w a (S:World->Prop),All c ρ σ w fr a->(∀w',SameFor c.F R1 ρ w w'->S w')->wpAnyH P .any ops (lift c Q) S fuel listed a w
theorem SameFor.trans{F:Nat->Prop}{ρ ρ':Loc}{σ σ':Heap'}{w w' w'':World}(hi:RelH F ρ σ w)(t:Trans F R1 ρ σ w ρ' σ' w')(h:SameFor F R1 ρ' w' w''):SameFor F R1 ρ w w'':=by
 intro b hb hor;have h1:w'.heap[b]?=w.heap[b]?:=by
  refine t.blk b hb λk cc hk=>?_;rcases hor with hn|⟨k',cc',hR,hk'⟩
  ·exact A9 (.inr ⟨k,cc,hk⟩) hn
  ·obtain rfl:=hi.inj _ _ _ _ _ hk hk';exact hR
 rw[<- h1];refine h b (Bg hb t.size) ?_;rcases hor with hn|⟨k',cc',hR,hk'⟩
 ·exact .inl (owned.keep t hb hn).2
 ·by_cases e:owned F ρ' b
  ·rcases e with e|⟨k,cc,hk⟩
   ·exact A9 e (hi.apart _ _ _ hk')
   ·rcases t.own _ _ _ hk hb with g|⟨k0,c0,g,gn⟩
    ·obtain rfl:=hi.inj _ _ _ _ _ g hk';exact .inr ⟨k,cc,hR,hk⟩
    ·obtain rfl:=hi.inj _ _ _ _ _ g hk';exact A9 hR gn
  ·exact .inl e
theorem SameFor.of{F:Nat->Prop}{ρ ρ':Loc}{σ σ':Heap'}{w w':World}(hi:RelH F ρ σ w)(t:Trans F R1 ρ σ w ρ' σ' w'):SameFor F R1 ρ w w':=SameFor.trans hi t (.refl _ _ _ _)
theorem wDn(hr:Region.ready .any ops listed=[])(h:Q .normal fr σ):WA P c R1 ops Q fuel listed fr σ :=
 λρ _ _ _ ha _=>wpAnyH_done hr ⟨ρ,σ,fr,ha,h⟩ fuel
def WI(P:Program)(c:Cx)(R1:Nat->Prop)(ops:Array Oper)(Q:Exit->Fr->Heap'->Prop)(fuel:Nat)(listed:Array Bool)(fr:Fr)(σ:Heap')(i:Nat):Prop :=
 ∀ρ w a (S:World->Prop),All c ρ σ w fr a->(∀w',SameFor c.F R1 ρ w w'->S w')->wpOp P ops (lift c Q) i (λa' w'=>S w'/\wpAnyH P .any ops (lift c Q) S fuel (listed.setIfInBounds i true) a' w') a w
theorem WA.all{rs:List Nat}(hr:Region.ready .any ops listed=rs)(hne:rs≠[])(h:∀i∈rs,WI P c R1 ops Q fuel listed fr σ i):WA P c R1 ops Q (fuel+1) listed fr σ :=
 λρ w a S ha hS=>wpAnyH_all hr hne λi hi=>h i hi ρ w a S ha hS
theorem tDr{id:Nat}(hm:P.follows .mixedOrders=true)(R1:Nat->Prop)(h:WA P c R1 ops Q ops.size (Array.replicate ops.size false) fr σ):Tr P c (.region id ops true) fr σ Q :=
 λρ w a ha=>wp_region_held (S:=SameFor c.F R1 ρ { w with drawn:=w.drawn+1 }) hm (h ρ _ a _ ha.drew λ_ h=>h)
theorem WL.split{l:List Oper}{t:Nat}{b:Bool}(hb:fr.get t=some (.pv (.val (.bool b))))(ht:b=true->WL P c ops Q l ((t,.pv (.val (.bool true)))::fr) σ)(hf:b=false->WL P c ops Q l ((t,.pv (.val (.bool false)))::fr) σ):WL P c ops Q l fr σ:=by
 intro ρ w a ha
 cases b with
 |true=>exact ht rfl ρ w a (ha.putFr hb λ_ h=>h)
 |false=>exact hf rfl ρ w a (ha.putFr hb λ_ h=>h)
theorem ok_callp{f:FuncId}{os:Array Operand}{tys:Array TypeId}{xs args:List IV}{r:IV}{hp:Hp}{R:Nat->Prop}(hsc:SC P f args [] R r [])(hf:z6n P f)(ho:o.op=.call { callee:=.value (.func f),args:=os,argTypes:=tys })
 (hx:evs fr os.toList=some xs) (hs:Subs (look hp) xs args) (hR:∀k,c.R k->R k) (hr:only [] r=true):Ok P c o fr (look hp) r (look hp) :=
 ok_call hsc hf ho hx hs (λk o h=>by cases h) rfl hR hr rfl
theorem pn{x:List PanicEntry}(h:Exit.panic x=Exit.normal):False:=by cases h
end
section
variable {P:Program} {c:Cx} {R1:Nat->Prop} {o:Oper} {fr:Fr} {hp:Hp} {ops:Array Oper} {Q:Exit->Fr->Heap'->Prop}
theorem y1s(b:Nat)(w:World):(askRoom b).run P w=.ok () w:=by
 unfold askRoom;split<;>rfl
theorem y8k{t:TypeId}{x y:Operand}{k n by_:Nat}{s:RT}{z:Value}(ho:o.op=.makeSlice t x y)(hx:fr.ev x=some (.pv (.val (.int .i64 n))))(hy:fr.ev y=some (.pv (.val (.int .i64 n))))
 (hu:P.underlying t=some (.slice s.e)) (hz:((P.info? s.e).bind (·.zero))=some z) (hi:(P.info? s.e).map (λi=>(i.size,i.bytes))=some (s.n,by_)) (hzs:z.cells.size=s.n) (hpos:0<s.n) (hn:n<2 ^ 63) (hb:by_*n<=281474976710656)
 (hσ:look hp k=none) (hc:c.σ k=none) (hfr:nmFr k fr=false) (hhp:nmHp k hp=false) :
 Ok P c o fr (look hp) (.sl k n) (look ((k,some (.row s (List.replicate n (z.cells.toList.map .val))))::hp)):=by
 intro ρ w a K Q h hK
 cases hq:P.info? s.e with
 |none=>simp[hq]at hi
 |some i =>
  have hsz:i.size=s.n:=by simp[hq]at hi;exact hi.1
  have hby:i.bytes=by_:=by simp[hq]at hi;exact hi.2
  have hiz:i.zero=some z:=by simpa[hq]using hz
  have hwrap:IntKind.i64.wrap (n:Int)=n:=D3 _ oM0;have hlen:((Array.range (n*s.n)).map (z.cells[· % z.cells.size]!)).size=n*s.n:=by simp
  have hrun:(execOp a.eval o).run P w=.ok (.value (.slice (some ⟨w.heap.size,0,none⟩) n n)) (w.alloc (.cells ((Array.range (n*s.n)).map (z.cells[· % z.cells.size]!)) s.e)):=by
   have hnr:∀r,(newRow s.e r).run P w=.ok ⟨w.heap.size,0,none⟩ (w.alloc (.cells r s.e)):=λ_=>rfl;have hti:(typeInfo s.e).run P w=.ok i w:=by simp[typeInfo,hq]
   have hso:(sizeOf s.e).run P w=.ok s.n w:=z1a (by simp[hq,hsz]) w;have hzv:(zeroValue s.e).run P w=.ok z w:=by simp[zeroValue,typeInfo,hq,hiz]
   have h2:(by_:Int)*n<=281474976710656:=by
    have:((by_*n:Nat):Int)<=281474976710656:=by omega
    rwa [Int.natCast_mul]at this
   simp only[execOp,ho,Instr.makeSlice,Ai,B9 hu,Aw,z0v h hx,z0v h hy,asInt,asIntOf,Ch,hti,hwrap,hby];rw[A1 (by simpa using h2)];simp only[Ai,y1s,Aw,hso,Int.toNat_natCast]
   by_cases h0:n*s.n=0
   ·rw[A5 h0];simp only[Ai,Ch,Aw,hnr];have e1:∀f g:Nat->Value,(Array.range (n*s.n)).map f=(Array.range (n*s.n)).map g:=λf g=>by rw[h0];simp
    rw[e1 _ (z.cells[· % z.cells.size]!)]
   ·rw[A1 h0];simp only[Ai,Ch,Aw,hzv,hnr]
  unfold Oper.wp;rw[hrun];refine hK (z18 ρ k (some (w.heap.size,n))) _ _ (h.alloc hσ hc hfr hhp n _ _ λ_ _=>?_) (.sl _ _ _ λs' els' h'=>?_)
  ·refine .row s _ _ (λ_ j=>z.cells[j]!) (z31 w _) hlen sI0 (by simp only[maxLen];omega) (λel hel=>?_) (λi el hi j x hj=>?_) λi el hi j x hj=>?_
   ·rw[Dl hel];simp[hzs]
   ·have hel:=Dl (Af hi);have hin:i<n:=by have:=(A7.1 hi).1;simpa using this
    subst hel;have hjs:j<s.n:=by have:=(A7.1 hj).1;simp[hzs]at this;exact this
    have hlt:i*s.n+j<n*s.n:=by
     have:(i+1)*s.n<=n*s.n:=C2 _ oM0;rw[Dg]at this;omega
    simp[hlt,hzs,Es hjs]
   ·have hel:=Dl (Af hi);subst hel;simp only[Bc,A8,Bh]at hj;obtain⟨v,hv,rfl⟩:=hj;have:z.cells[j]! = v:=by
     have hlt:=(Cc.1 hv).1;simp[hlt]at hv⊢;exact hv
    rw[this];exact .val v
  ·rw[z1h]at h';cases h'
   exact⟨by simp,λ_=>.inl ⟨w.heap.size,n,z09,rfl⟩⟩
theorem iRw{t:TypeId}{x y:Operand}{k n i:Nat}{m:Int}{kk:IntKind}{s:RT}{els:List (List PV)}(ho:o.op=.indexAddr t x y)(hx:fr.ev x=some (.sl k n))(hy:fr.ev y=some (.pv (.val (.int kk m))))(hk:look hp k=some (.row s els))(hn:els.length=n)
 (hu:P.underlying t=some (.slice s.e)) (he:(P.info? s.e).map (·.size)=some s.n) (hi:i<n) (hm:m=i):OkV P c R1 o fr (look hp) (.rpt k n (i*s.n)):=by
 subst hm;intro ρ w a h;rcases h.row hx hk hn with⟨b,cc,r,u,hv,hρ,h3,h4,hc,hcm,hwe,hcells,hu'⟩|⟨_,_,hnil⟩
 ·refine⟨.pointer (some ⟨b,i*s.n,none⟩),λw2 _=>?_,.rpt _ _ _ _ λs' els' h'=>?_⟩
  ·simp[execOp,ho,hv,z0v h hy,Instr.indexAt,Ai,asIntOf,B9 hu,hi,z1a he,Cu]
  ·rw[hk]at h';cases h'
   exact⟨by omega,λ_=>⟨b,cc,hρ,rfl⟩⟩
 ·subst hnil;simp at hn;omega
theorem All.rpt{ρ:Loc}{w:World}{a:Act}(h:All c ρ (look hp) w fr a){x:Operand}{k n off:Nat}{s:RT}{els:List (List PV)}(hx:fr.ev x=some (.rpt k n off))(hk:look hp k=some (.row s els))(hn:els.length=n) :
 ∃(b cc:Nat)(r:Array Value)(u:Nat->Nat->Value),a.eval x=.pointer (some ⟨b,off,none⟩) /\ ρ k=some (b,cc)/\w.heap[b]?=some (.cells r s.e (0,0))/\r.size=cc*s.n/\n<=cc/\cc<=maxLen/\(∀el∈els,el.length=s.n) /\
  (∀i el,els[i]?=some el->∀j x,el[j]?=some x->r[i*s.n+j]?=some (u i j))/\∀i el,els[i]?=some el->∀j x,el[j]?=some x->RepP (owned c.F ρ) w x (u i j):=by
 have hr:=h.ev hx;generalize hv:a.eval x=v at hr
 cases hr with
 |rpt _ _ _ _ hh =>
  obtain⟨b,cc,hρ,rfl⟩:=(hh s els hk).2 hn;obtain⟨o1,h1,h2⟩:=h.rel.obj k b cc hρ;rw[hk]at h1;cases h1
  cases h2 with
  |row _ _ r u h3 h4 h5 h6 h7 h8 h9=>exact⟨b,cc,r,u,rfl,hρ,h3,h4,hn▸h5,h6,h7,h8,h9⟩
theorem lRw{t:TypeId}{x:Operand}{d:TypeDesc}{k n i j off:Nat}{s:RT}{els:List (List PV)}{el:List PV}{z:PV}(ho:o.op=.load t x)(hx:fr.ev x=some (.rpt k n off))(hk:look hp k=some (.row s els))(hn:els.length=n)
 (hoff:off=i*s.n+j) (hi:els[i]?=some el) (hj:el[j]?=some z) (hu:P.underlying t=some d) (hd:d.isRow=false) (hR1:R1 k):OkV P c R1 o fr (look hp) (.pv z):=by
 intro ρ w a h;obtain⟨b,cc,r,u,hv,hρ,h3,h4,hc,hcm,hwe,hcells,hu'⟩:=h.rpt hx hk hn;refine⟨u i j,λw2 h2=>?_,.pv _ _ (hu' i el hi j z hj)⟩;have h3':w2.heap[b]?=some (.cells r s.e (0,0)):=(h2 b (h.rel.lt hρ) (.inr ⟨k,cc,hR1,hρ⟩)).trans h3;subst hoff;simp[execOp,ho,hv,Instr.loadAt,Instr.sureAddr,loadVar,Ai,z5x hu,hd,run_load,z4t h3',hcells i el hi j z hj]
theorem y8n{t:TypeId}{x y:Operand}{k n i j off:Nat}{s:RT}{els:List (List PV)}{el:List PV}{z:PV}(ho:o.op=.store t x y)(hx:fr.ev x=some (.rpt k n off))(hy:fr.ev y=some (.pv z))(hk:look hp k=some (.row s els))(hn:els.length=n)
 (hoff:off=i*s.n+j) (hi:els[i]?=some el) (hj:j<el.length) (hs:(P.info? t).map (·.size)=some 1) (hz:z.one=true) (hR:¬c.R k) :
 Ok P c o fr (look hp) (.pv (.val undef)) (look ((k,some (.row s (els.set i (el.set j z))))::hp)):=by
 refine zr8 λρ w a h=>?_;obtain⟨b,cc,r,u,hv,hρ,h3,h4,hc,hcm,hwe,hcells,hu'⟩:=h.rpt hx hk hn;have hyv:=h.ev hy;have h1:=hyv.one (σ:=look hp) hz;generalize hvy:a.eval y=vy at hyv h1;have hin:i<els.length:=(A7.1 hi).1;have hel:el.length=s.n:=hwe el (Af hi);have hlt:off<r.size:=by
  have:(i+1)*s.n<=cc*s.n:=C2 _ oM0;rw[Dg]at this;omega
 have hst:(storeVar t ⟨b,off,none⟩ vy).run P w=.ok () (w.setRow b (r.setIfInBounds off vy)):=by
  have hcells:vy.cells = #[vy]:=by cases vy<;>first|rfl|cases h1
  have:=F5 P b off s.e [vy] 0 r w h3 (by simp;omega) (by simpa using h1);simp[storeVar,hcells,Ai,z1a hs,this]
  congr 1
  apply Fq;simp only[Array.toList_setIfInBounds];rw[List.set_eq_take_append_cons_drop,A5 (by simp;omega)]
 refine⟨ρ,w.setRow b (r.setIfInBounds off vy),by simp[execOp,ho,hv,hvy,Instr.storeAt,Instr.sureAddr,hst],?_⟩;refine h.write hρ hk ⟨rfl,by simp⟩ hR rfl rfl rfl sI0 (λj hj=>F9 w b j _ hj) λ_ keep=>?_;have hz':RepP (owned c.F ρ) w z vy:=by cases hyv;assumption
 refine .row s _ (r.setIfInBounds off vy) (λi' j'=>if i'=i/\j'=j then vy else u i' j') (Fj w b r _ s.e _ h3) (by simp[h4]) (by simp;omega) hcm (λel' hel'=>?_) (λi' el' hi' j' x hj'=>?_) λi' el' hi' j' x hj'=>?_
 ·rcases D9 hel' with h5|rfl
  ·exact hwe _ h5
  ·simpa using hel
 ·by_cases e1:i'=i
  ·subst e1;rw[Bp hin]at hi'
   cases hi'
   by_cases e2:j'=j
   ·subst e2;simp only[and_self,C6,<- hoff];simp[hlt]
   ·rw[Bo (C4 e2)]at hj';have:=hcells i' el hi j' x hj';rw[A1 (by simp[e2]),Cw,A1 oM0,this]
  ·rw[Bo (C4 e1)]at hi';have:=hcells i' el' hi' j' x hj';have hl':=hwe _ (Af hi');have hj'':j'<el'.length:=(A7.1 hj').1;rw[A1 (by simp[e1]),Cw,A1 ?_,this];intro e3;have hsn:0<s.n:=by omega
   have h6:(i*s.n+j)/s.n=i:=by rw[F7,F8 _ _ hsn,Fb oM0,Bu]
   have h7:(i'*s.n+j')/s.n=i':=by rw[F7,F8 _ _ hsn,Fb oM0,Bu]
   rw[<- hoff,e3,h7]at h6;exact e1 h6
 ·by_cases e1:i'=i
  ·subst e1;rw[Bp hin]at hi'
   cases hi'
   by_cases e2:j'=j
   ·subst e2;rw[Bp hj]at hj'
    cases hj'
    rw[A5 ⟨rfl,rfl⟩];exact keep _ _ hz'
   ·rw[Bo (C4 e2)]at hj';rw[A1 (by simp[e2])];exact keep _ _ (hu' _ _ hi _ _ hj')
  ·rw[Bo (C4 e1)]at hi';rw[A1 (by simp[e1])];exact keep _ _ (hu' _ _ hi' _ _ hj')
theorem ye5{f:Fn}{xs ys:Array Operand}{us vs:List IV}{σ:Heap'}(ho:o.op=.makeFunc f xs ys)(hx:evs fr xs.toList=some us)(hy:evs fr ys.toList=some vs):OkV P c R1 o fr σ (.fn f us vs):=by
 intro ρ w a h;obtain⟨l1,r1⟩:=zh9 h hx;obtain⟨l2,r2⟩:=zh9 h hy;refine⟨.func f (xs.map a.eval) (ys.map a.eval),λw2 _=>by simp[execOp,ho,Instr.makeFunc],.fn _ _ _ _ _ (λj=>(xs.map a.eval).getD j undef) (λj=>(ys.map a.eval).getD j undef) (by simpa using l1.symm) (λj x hj=>?_) (λj x hj=>?_) (by simpa using l2.symm) (λj x hj=>?_) λj x hj=>?_⟩
 ·obtain⟨v,hv,_⟩:=r1 j x hj;have:(xs.map a.eval)[j]?=some v:=by rw[<- Bh];simpa using hv
  simp only[B0,this,Cj]
 ·obtain⟨v,hv,hr⟩:=r1 j x hj;have:(xs.map a.eval)[j]?=some v:=by rw[<- Bh];simpa using hv
  simp only[B0,this,Cj];exact hr
 ·obtain⟨v,hv,_⟩:=r2 j x hj;have:(ys.map a.eval)[j]?=some v:=by rw[<- Bh];simpa using hv
  simp only[B0,this,Cj]
 ·obtain⟨v,hv,hr⟩:=r2 j x hj;have:(ys.map a.eval)[j]?=some v:=by rw[<- Bh];simpa using hv
  simp only[B0,this,Cj];exact hr
theorem y1i{F:Nat->Prop}{ρ:Loc}{σ:Heap'}{w:World}{xs ys:List IV}{vs ws:List Value}(h:RepL F ρ σ w xs vs)(h':RepL F ρ σ w ys ws):RepL F ρ σ w (xs++ys) (vs++ws):=by
 refine⟨by simp[h.1,h'.1],λj x hj=>?_⟩
 by_cases e:j<xs.length
 ·rw[Au e]at hj;obtain⟨v,hv,hr⟩:=h.2 j x hj;exact⟨v,by rw[Au (by have:=h.1;omega)];exact hv,hr⟩
 ·rw[B4 oM0]at hj;obtain⟨v,hv,hr⟩:=h'.2 _ x hj;exact⟨v,by rw[B4 (by have:=h.1;omega),<- h.1];exact hv,hr⟩
theorem ok_callv{f:FuncId}{q:Operand}{os:Array Operand}{tys:Array TypeId}{us ws xs args:List IV}{pre post:List (Nat×HO)}{R:Nat->Prop}{r:IV}(hsc:SC P f args pre R r post)(hf:z6n P f)
 (ho:o.op=.call { callee:=.value q,args:=os,argTypes:=tys }) (hq:fr.ev q=some (.fn (.func f) us ws)) (hx:evs fr os.toList=some xs) (hs:Subs (look hp) (us++xs++ws) args) (hpre:∀k o,look (up pre) k=some o->look hp k=some o) (hdom:pre.map (·.1)=post.map (·.1))
 (hR:∀k,c.R k->R k) (hr:only (post.map (·.1)) r=true) (hpost:z97 (post.map (·.1)) post=true):Ok P c o fr (look hp) r (look (up post++hp)):=by
 intro ρ w a K Q h hK;obtain⟨fn,hfn,hname,hbody⟩:=hf;have hqr:=h.ev hq;generalize hqv:a.eval q=v at hqr
 cases hqr with
 |fn _ _ _ va wa u t hl hv hr1 hl' hv' hr1' =>
  have h1:RepL c.F ρ (look hp) w us va.toList:=⟨by simp[hl],λj x hj=>⟨u j,by simpa using hv j x hj,hr1 j x hj⟩⟩;have h2:RepL c.F ρ (look hp) w ws wa.toList:=⟨by simp[hl'],λj x hj=>⟨t j,by simpa using hv' j x hj,hr1' j x hj⟩⟩;have hargs:=hs _ _ _ _ (y1i (y1i h1 (zh9 h hx)) h2);have hrun:(execOp a.eval o).run P w=.ok (.enter f (va.toList++os.toList.map a.eval++wa.toList).toArray) w:=by
   have hcall:(callFunc f (va.toList++os.toList.map a.eval++wa.toList).toArray).run P w=.ok (.enter f (va.toList++os.toList.map a.eval++wa.toList).toArray) w:=by
    unfold callFunc;simp only[Ai];show(Result.andThen (.ok P w) _)=_;simp only[Aw,hfn,hname,hbody];rfl
   simp only[execOp,ho,resolve,hqv,Deferred.ofValue,Ai,Ch,Aw,invoke];rw[<- hcall]
   congr 2
   apply Fq;simp
  unfold Oper.wp;rw[hrun,Fh];refine(hsc.step h hargs hpre hdom (λk h=>.inr (hR k h)) hr hpost).mono ?_;rintro e w' ⟨ρ',v,rfl,h1,h2⟩;exact hK ρ' w' v h1 h2
theorem sub_func{F:Nat->Prop}{ρ:Loc}{σ:Heap'}{w:World}{f:Fn}{v:Value}(h:RepI F ρ σ w (.pv (.val (.func f #[] #[]))) v):RepI F ρ σ w (.fn f [] []) v:=by
 obtain rfl:=h.val;exact .fn f [] [] #[] #[] (λ_=>undef) (λ_=>undef) rfl sI0 sI0 rfl sI0 sI0
end
section
variable {P:Program} {c:Cx} {R1:Nat->Prop} {o:Oper} {fr:Fr} {hp:Hp}
theorem z01{m n z:Int}(h:m+n=z)(h1:-9223372036854775808<=z/\z<=9223372036854775807):z3f .add .i64 m n=some (.int .i64 z):=by
 subst h;simp only[z3f];rw[D3 _ h1]
theorem z3e{m n z:Int}(h:m-n=z)(h1:-9223372036854775808<=z/\z<=9223372036854775807):z3f .sub .i64 m n=some (.int .i64 z):=by
 subst h;simp only[z3f];rw[D3 _ h1]
theorem y5k{m n z:Int}(h:m*n=z)(h1:-9223372036854775808<=z/\z<=9223372036854775807):z3f .mul .i64 m n=some (.int .i64 z):=by
 subst h;simp only[z3f];rw[D3 _ h1]
theorem yd5{k:Nat}{o o2:Option HO}{hp:Hp}:look ((k,o)::(k,o2)::hp)=look ((k,o)::hp):=by
 funext j
 simp only[look]
 cases Nat.beq k j<;>rfl
theorem rOk{fn:Func}{x r:IV}{post:List (Nat×HO)}{σ:Heap'}(hx:y6b fn fr=some x)(hr:x=r)(hσ:∀k o,look (up post) k=some o -> σ k=some o):retQ fn r post .ret fr σ :=
 ⟨⟨x,hx,λ_ _ _ _ h=>hr▸h⟩,hσ⟩
theorem nPo{σ:Heap'}:∀(k:Nat)(o:HO),look (up []) k=some o -> σ k=some o:=λ_ _ h=>by cases h
theorem SC.anyR{f:FuncId}{args:List IV}{R R':Nat->Prop}{r:IV}(h:SC P f args [] R r []):SC P f args [] R' r []:=by
 intro F ρ w vs hkept hrel hargs;refine(h F ρ w vs hkept hrel hargs).mono ?_;rintro e w' ⟨ρ',v,he,hr,hrel',t⟩;refine⟨ρ',v,he,hr,hrel',⟨t.os,t.tape,t.output,t.size,λb hb _=>t.blk b hb λk cc hk=>?_,λk b c hk hb=>(t.own k b c hk hb).elim .inl λ⟨k0,c0,g,_⟩=>(by obtain⟨o,h1,_⟩:=hrel.obj _ _ _ g;cases h1),t.box,t.map,t.row,t.grow,t.kindB,t.kindM,t.kindR⟩⟩;obtain⟨o,ho,_⟩:=hrel.obj k b cc hk
 cases ho
theorem zm8{f:FuncId}{os:Array Operand}{tys:Array TypeId}{xs args:List IV}{r:IV}{R:Nat->Prop}(hsc:SC P f args [] R r [])(hf:z6n P f)(ho:o.op=.call { callee:=.value (.func f),args:=os,argTypes:=tys })
 (hx:evs fr os.toList=some xs) (hs:Subs (look hp) xs args) (hr:only [] r=true):Ok P c o fr (look hp) r (look hp) :=
 ok_callp (R:=c.R) hsc.anyR hf ho hx hs (λ_ h=>h) hr
theorem Subs.cons{σ:Heap'}{x y:IV}{xs ys:List IV}(h:∀F ρ w v,RepI F ρ σ w x v->RepI F ρ σ w y v)(hs:Subs σ xs ys):Subs σ (x::xs) (y::ys):=by
 intro F ρ w vs hv
 match vs with
 |[]=>have:=hv.1;simp at this
 |v::vs =>
  have ht:=hs F ρ w vs ⟨by have:=hv.1;simpa using this,λj z hj=>hv.2 (j+1) z (by simpa using hj)⟩;refine⟨by have:=hv.1;have:=ht.1;simp;omega,λj z hj=>?_⟩
  cases j with
  |zero=>cases hj;obtain⟨u,hu,hr⟩:=hv.2 0 x rfl;exact⟨u,hu,h _ _ _ _ hr⟩
  |succ j=>exact ht.2 j z (by simpa using hj)
theorem ok_box{t:TypeId}{x:Operand}{ps:List PV}{σ:Heap'}(ho:o.op=.box t x)(hx:fr.ev x=some (.pv (.agg ps))):Ok P c o fr σ (.pv (.ept ps 0)) σ:=by
 intro ρ w a K Q h hK;have hr:=h.ev hx;generalize hv:a.eval x=v at hr
 cases hr with
 |pv _ _ hr =>
  cases hr with
  |agg _ vs u hl hv' hr =>
   have hrun:(execOp a.eval o).run P w=.ok (.value (.pointer (some ⟨w.heap.size,0,none⟩))) (w.alloc (.cells vs t)):=by
    have hn:(newVar t (.agg vs)).run P w=.ok ⟨w.heap.size,0,none⟩ (w.alloc (.cells vs t)):=rfl;simp only[execOp,ho,hv,Instr.box,Ai,hn,Aw];rfl
   unfold Oper.wp;rw[hrun];obtain⟨h3,keep⟩:=h.push (.cells vs t);refine hK ρ _ _ h3 (.pv _ _ (.ept ps 0 w.heap.size 0 u ⟨h.fresh,by simp⟩ (λj z hj=>?_) λj z hj=>keep _ _ (hr j z hj)));rw[z4t (z31 w _),Bu];exact hv' j z hj
theorem All.freezeBox{ρ:Loc}{w:World}{a:Act}{k t:Nat}{cs:List IV}{ps:List PV}(h:All c ρ (look hp) w fr a)(ht:fr.get t=some (.ptr k 0))(hk:look hp k=some (.box cs))(hps:z7v cs=some ps) :
 All c (z18 ρ k none) (look ((k,none)::hp)) w ((t,.pv (.ept ps 0))::fr) a:=by
 have h':=h.drop (k:=k);obtain⟨b,cc,e,r,u,hv,hρ,h3,h4,h5,h6⟩:=h.box (x:=.tmp t) ht hk;obtain⟨hl,hg⟩:=z9a hps;have hown:∀b,owned c.F (z18 ρ k none) b->owned c.F ρ b:=λb hb=>by
  rcases hb with hb|⟨j,cc,hj⟩
  ·exact .inl hb
  ·by_cases e:j=k
   ·subst e;rw[z09]at hj;cases hj
   ·rw[z2u (C4 e)]at hj;exact .inr ⟨j,cc,hj⟩
 refine⟨h'.rel,λt' z hz=>?_,h'.tr,h'.df,h'.sz,h.kk⟩;simp only[Fr.get]at hz
 cases hb:Nat.beq t t' with
 |true =>
  rw[hb]at hz;cases hz
  obtain rfl:=Ak hb;obtain⟨v,hv',_⟩:=h.fr t _ ht;have:v=.pointer (some ⟨b,0,none⟩):=by rw[<- hv];simp[Act.eval,hv']
  subst this;refine⟨_,hv',.pv _ _ (.ept ps 0 b 0 u ⟨λho=>?_,h.rel.lt hρ⟩ (λj z hj=>?_) λj z hj=>?_)⟩
  ·rcases ho with ho|⟨j,cc',hj⟩
   ·exact h.rel.apart _ _ _ hρ ho
   ·by_cases e:j=k
    ·subst e;rw[z09]at hj;cases hj
    ·rw[z2u (C4 e)]at hj;exact e (h.rel.inj _ _ _ _ _ hj hρ)
  ·rw[z4t h3,Bu];exact h5 j _ (hg j z hj)
  ·have:=h6 j _ (hg j z hj)
   cases this with
   |pv _ _ hr=>exact hr.own hown
 |false=>rw[hb]at hz;exact h'.fr t' z hz
theorem Tr.freezeBox{x:Code}{Q:Exit->Fr->Heap'->Prop}{k t:Nat}{cs:List IV}{ps:List PV}(ht:fr.get t=some (.ptr k 0))(hk:look hp k=some (.box cs))(hps:z7v cs=some ps)
 (h:Tr P c x ((t,.pv (.ept ps 0))::fr) (look ((k,none)::hp)) Q):Tr P c x fr (look hp) Q:=λ_ w a ha=>h _ w a (ha.freezeBox ht hk hps)
theorem Tr.condF{x:Operand}{y z:Code}{σ:Heap'}{Q:Exit->Fr->Heap'->Prop}(hx:fr.ev x=some (.pv (.val (.bool false))))(hz:Tr P c z fr σ Q):Tr P c (.cond x y z) fr σ Q:=Tr.cond hx (λh=>by cases h) (λ_=>hz)
theorem All.lenOf{ρ:Loc}{σ:Heap'}{w:World}{a:Act}{t:Nat}{els:List (List PV)}(h:All c ρ σ w fr a)(ht:fr.get t=some (.pv (.seq els))):els.length<=9223372036854775807:=by
 obtain⟨v,_,hr⟩:=h.fr t _ ht
 cases hr with
 |pv _ _ hr =>
  cases hr with
  |seq _ _ cap _ _ _ _ _ hl hm=>simp only[maxLen]at hm;omega
theorem Tr.lenOf{x:Code}{σ:Heap'}{Q:Exit->Fr->Heap'->Prop}{t:Nat}{els:List (List PV)}(ht:fr.get t=some (.pv (.seq els)))(h:els.length<=9223372036854775807->Tr P c x fr σ Q):Tr P c x fr σ Q:=λρ w a ha=>h (ha.lenOf ht) ρ w a ha
theorem All.rowLen{ρ:Loc}{w:World}{a:Act}{t k n:Nat}{s:RT}{els:List (List PV)}(h:All c ρ (look hp) w fr a)(ht:fr.get t=some (.sl k n))(hk:look hp k=some (.row s els))(hn:els.length=n):n<=9223372036854775807:=by
 rcases h.row (x:=.tmp t) ht hk hn with⟨b,cc,r,u,_,_,_,_,hc,hcm,_⟩|⟨_,_,hnil⟩
 ·simp only[maxLen]at hcm;omega
 ·subst hnil;simp at hn;omega
theorem Tr.rowLen{x:Code}{Q:Exit->Fr->Heap'->Prop}{t k n:Nat}{s:RT}{els:List (List PV)}(ht:fr.get t=some (.sl k n))(hk:look hp k=some (.row s els))(hn:els.length=n)(h:n<=9223372036854775807->Tr P c x fr (look hp) Q):Tr P c x fr (look hp) Q:=λρ w a ha=>h (ha.rowLen ht hk hn) ρ w a ha
theorem nCk{x:Operand}{k off:Nat}{cs:List IV}(ho:o.op=.nilCheck x)(hx:fr.ev x=some (.ptr k off))(hk:look hp k=some (.box cs)):OkV P c R1 o fr (look hp) (.ptr k off):=by
 intro ρ w a h;obtain⟨b,cc,e,r,u,hv,hρ,h3,h4,h5,h6⟩:=h.box hx hk;exact⟨.pointer (some ⟨b,off,none⟩),λw2 _=>by simp[execOp,ho,hv],.ptr _ _ _ λcs' _=>⟨b,cc,hρ,rfl⟩⟩
theorem y18{x:Operand}{cs:List PV}{off:Nat}{σ:Heap'}(ho:o.op=.nilCheck x)(hx:fr.ev x=some (.pv (.ept cs off))):OkV P c R1 o fr σ (.pv (.ept cs off)):=by
 intro ρ w a h;have hr:=h.ev hx;have hr':=hr.inv_ept;generalize hv:a.eval x=v at hr hr'
 cases hr' with
 |ept _ _ b o' u hb hc hr1=>exact⟨_,λw2 _=>by simp[execOp,ho,hv],hr⟩
abbrev vInt(n:Int):PV:=.val (.int .i64 n)
abbrev vU8(n:Int):PV:=.val (.int .u8 n)
abbrev vBool(b:Bool):PV:=.val (.bool b)
abbrev vStr(s:ByteArray):PV:=.val (.string s)
abbrev iInt(n:Int):IV:=.pv (vInt n)
abbrev iBool(b:Bool):IV:=.pv (vBool b)
abbrev iStr(s:ByteArray):IV:=.pv (vStr s)
def eInt(n:Int):List PV:=[vInt n]
def ints(l:List Int):PV:=.seq (l.map eInt)
theorem z02{α:Type}{f:α -> List PV}{l:List α}{i:Nat}{a:α}(h:l[i]?=some a):(l.map f)[i]?=some (f a):=by simp[h]
inductive Nd where
 |mk (kind op n:Int) (name:ByteArray) (args outs params:List Int) (kids:List (List Nd))
mutual
def Nd.enc:Nd->List PV
 |.mk kind op n name args outs params kids=>[vInt kind,vInt op,vInt n,vStr name,ints args,ints outs,ints params,.seq (Nd.encK kids)]
def Nd.encL:List Nd->List (List PV)
 |[]=>[]
 |x::r=>x.enc::Nd.encL r
def Nd.encK:List (List Nd)->List (List PV)
 |[]=>[]
 |l::r=>[.seq (Nd.encL l)]::Nd.encK r
end
theorem Nd.encL_eq:∀l,Nd.encL l=l.map Nd.enc
 |[]=>rfl
 |x::r=>by simp[Nd.encL,Nd.encL_eq r]
def z2h(l:List Nd):PV:=.seq (l.map Nd.enc)
def eKid(l:List Nd):List PV:=[z2h l]
def kids(ks:List (List Nd)):PV:=.seq (ks.map eKid)
theorem Nd.encK_eq:∀ks,Nd.encK ks=ks.map eKid
 |[]=>rfl
 |l::r=>by simp[Nd.encK,Nd.encK_eq r,eKid,z2h,Nd.encL_eq]
def Nd.cells:Nd->List PV
 |.mk kind op n name args outs params ks=>[vInt kind,vInt op,vInt n,vStr name,ints args,ints outs,ints params,kids ks]
theorem Nd.enc_eq(x:Nd):x.enc=x.cells:=by
 cases x
 simp[Nd.enc,Nd.cells,kids,Nd.encK_eq]
def Nd.kind:Nd->Int|.mk k _ _ _ _ _ _ _=>k
def Nd.op:Nd->Int|.mk _ o _ _ _ _ _ _=>o
def Nd.n:Nd->Int|.mk _ _ n _ _ _ _ _=>n
def Nd.name:Nd->ByteArray|.mk _ _ _ s _ _ _ _=>s
def Nd.args:Nd->List Int|.mk _ _ _ _ a _ _ _=>a
def Nd.outs:Nd->List Int|.mk _ _ _ _ _ a _ _=>a
def Nd.params:Nd->List Int|.mk _ _ _ _ _ _ a _=>a
def Nd.kids:Nd->List (List Nd)|.mk _ _ _ _ _ _ _ ks=>ks
theorem Nd.cells_eta(x:Nd):x.cells=[vInt x.kind,vInt x.op,vInt x.n,vStr x.name,ints x.args,ints x.outs,ints x.params,Go.Proofs.YtjlaalpfpecikaaGreatDoor.kids x.kids]:=by cases x;rfl
theorem z0a{l:List Nd}{i:Nat}{x:Nd}(h:l[i]?=some x):(l.map Nd.enc)[i]?=some [vInt x.kind,vInt x.op,vInt x.n,vStr x.name,ints x.args,ints x.outs,ints x.params,kids x.kids]:=by
 simp[h,Nd.enc_eq,Nd.cells_eta]
structure Fl where
 name:ByteArray
 ty:Int
 params:Int
 types:List Int
 body:List Nd
structure Ar where
 name:ByteArray
 size:Int
structure Un where
 arrays:List Ar
 flows:List Fl
def Fl.enc(f:Fl):List PV:=[vStr f.name,vInt f.ty,vInt f.params,ints f.types,z2h f.body]
def Ar.enc(a:Ar):List PV:=[vStr a.name,vInt a.size]
def arrs(l:List Ar):PV:=.seq (l.map Ar.enc)
def flws(l:List Fl):PV:=.seq (l.map Fl.enc)
def Un.enc(u:Un):PV:=.agg [arrs u.arrays,flws u.flows]
theorem zl7{l:List Int}:∀el∈l.map eInt,el.length=1:=by simp[eInt]
def PSub(p q:PV):Prop:=∀own w v,RepP own w p v->RepP own w q v
theorem PSub.refl(p:PV):PSub p p:=λ_ _ _ h=>h
theorem PSub.nil:PSub (.val (.slice none 0 0)) (.seq []):=by
 intro own w v h
 cases h
 exact .seq [] none 0 0 0 (λ_ _=>undef) sI0 sI0 sI0 (by simp[maxLen]) sI0 sI0
def PSubs:List PV->List PV->Prop
 |[],[]=>True
 |p::ps,q::qs=>PSub p q/\PSubs ps qs
 |_,_=>False
theorem PSubs.length:∀{ps qs:List PV},PSubs ps qs->ps.length=qs.length
 |[],[],_=>rfl
 |p::ps,q::qs,h=>Ah (· + 1) (PSubs.length h.2)
theorem PSubs.at:∀{ps qs:List PV},PSubs ps qs->∀{j:Nat}{q:PV},qs[j]?=some q->∃p,ps[j]?=some p/\PSub p q
 |[],[],_,j,q,hj=>by simp at hj
 |p::ps,q::qs,h,0,q',hj=>by cases hj;exact⟨p,rfl,h.1⟩
 |p::ps,q::qs,h,j+1,q',hj=>by simpa using PSubs.at h.2 (by simpa using hj)
theorem PSub.agg{ps qs:List PV}(h:PSubs ps qs):PSub (.agg ps) (.agg qs):=by
 intro own w v hv
 cases hv with
 |agg _ vs u hl hu hr =>
  refine .agg _ vs u (hl.trans h.length) (λj q hj=>?_) (λj q hj=>?_)
  ·obtain⟨p,hp,_⟩:=h.at hj;exact hu j p hp
  ·obtain⟨p,hp,hpq⟩:=h.at hj;exact hpq _ _ _ (hr j p hp)
def PSubss:List (List PV)->List (List PV)->Prop
 |[],[]=>True
 |p::ps,q::qs=>PSubs p q/\PSubss ps qs
 |_,_=>False
theorem PSubss.length:∀{ps qs:List (List PV)},PSubss ps qs->ps.length=qs.length
 |[],[],_=>rfl
 |p::ps,q::qs,h=>Ah (· + 1) (PSubss.length h.2)
theorem PSubss.at:∀{ps qs:List (List PV)},PSubss ps qs->∀{j:Nat}{q:List PV},qs[j]?=some q->∃p,ps[j]?=some p/\PSubs p q
 |[],[],_,j,q,hj=>by simp at hj
 |p::ps,q::qs,h,0,q',hj=>by cases hj;exact⟨p,rfl,h.1⟩
 |p::ps,q::qs,h,j+1,q',hj=>by simpa using PSubss.at h.2 (by simpa using hj)
theorem PSub.seq{ps qs:List (List PV)}(h:PSubss ps qs):PSub (.seq ps) (.seq qs):=by
 intro own w v hv;have hne:qs≠[]->ps≠[]:=λhq hp=>hq (Ay (by rw[<- h.length,hp];rfl))
 cases hv with
 |seq _ a cap b off u ha hb hl hm hc hr =>
  rw[h.length]at hl⊢;refine .seq _ a cap b off u (λhq=>ha (hne hq)) (λhq=>hb (hne hq)) hl hm (λi el hi j x hj=>?_) (λi el hi j x hj=>?_)
  ·obtain⟨el',hp,hs⟩:=h.at hi;obtain⟨y,hy,_⟩:=hs.at hj;have:=hc i el' hp j y hy
   rwa [hs.length]at this
  ·obtain⟨el',hp,hs⟩:=h.at hi;obtain⟨y,hy,hyx⟩:=hs.at hj;exact hyx _ _ _ (hr i el' hp j y hy)
theorem sub_pv{F:Nat->Prop}{ρ:Loc}{σ:Heap'}{w:World}{v:Value}{p q:PV}(h:PSub p q)(hv:RepI F ρ σ w (.pv p) v):RepI F ρ σ w (.pv q) v:=by
 cases hv with
 |pv _ _ hp=>exact .pv _ _ (h _ _ _ hp)
end
def eqS(x y:ByteArray):Bool:=x.toList==y.toList
def z0y(k:Int):Bool:=decide (k≥12)&&decide (k<=15)
def z2x(l:List Nd):Int :=
 match l.getLast? with
 |some x=>if z0y x.kind then x.kind else 0
 |none=>0
mutual
def z2n:Nd->Bool
 |.mk kind _ _ _ _ _ _ ks=>kind==14||(kind==10&&z39 ks)
def z0m:List Nd->Bool
 |[]=>false
 |x::r=>z2n x||z0m r
def z39:List (List Nd)->Bool
 |[]=>false
 |l::r=>z0m l||z39 r
end
theorem z4a(x:Nd):z2n x=(x.kind==14||(x.kind==10&&z39 x.kids)):=by cases x;simp[z2n,Nd.kind,Nd.kids]
def kid0(ks:List (List Nd)):List Nd:=(ks[0]?).getD []
def kid1(ks:List (List Nd)):List Nd:=(ks[1]?).getD []
def z04(x:Nd):Bool :=
 if x.kind==10&&(x.kids.length:Int)==2 then(z2x (kid0 x.kids) != 12)&&(z2x (kid1 x.kids) != 12)
 else if x.kind==11&&(x.kids.length:Int)==1 then !z0m (kid0 x.kids)
 else z0y x.kind
def z06(name:ByteArray):List Fl->Int->Int
 |[],_=>-1
 |f::r,i=>if eqS f.name name then i else z06 name r (i+1)
def z0i(name:ByteArray):List Ar->Int->Int
 |[],_=>-1
 |f::r,i=>if eqS f.name name then i else z0i name r (i+1)
theorem zc7{x:Nd}{l:List Nd}{ks:List (List Nd)}(hx:x∈l)(hk:x.kids=ks){q:List Nd}(hq:q∈ks):SizeOf.sizeOf q<SizeOf.sizeOf l:=by
 have h1:=Br hx;have h2:=Br hq;subst hk
 cases x
 simp only[Nd.kids,Nd.mk.sizeOf_spec]at *
 omega
def w64(n:Int):Int:=IntKind.i64.wrap n
def andI(a b:Int):Int:=IntKind.i64.wrap (BitVec.ofInt IntKind.i64.bits a &&& BitVec.ofInt IntKind.i64.bits b).toNat
def orI(a b:Int):Int:=IntKind.i64.wrap (BitVec.ofInt IntKind.i64.bits a ||| BitVec.ofInt IntKind.i64.bits b).toNat
def xorI(a b:Int):Int:=IntKind.i64.wrap (BitVec.ofInt IntKind.i64.bits a ^^^ BitVec.ofInt IntKind.i64.bits b).toNat
def zm4(b:Bool):Int:=if b then 1 else 0
def mOne(op a:Int):Int :=
 if op==20 then w64 (0-a)else if op==21 then w64 (-1-a)else if op==22 then zm4 (a==0)
 else if op==26 then andI a 255 else if op==27 then andI a 65535 else if op==28 then andI a 4294967295
 else if op==23 then w64 (xorI (andI a 255) 128-128)else if op==24 then w64 (xorI (andI a 65535) 32768-32768)
 else if op==25 then w64 (xorI (andI a 4294967295) 2147483648-2147483648)else 0
def mTwo(op a b:Int):Int×Bool :=
 if op==1 then(w64 (a+b),true)else if op==2 then(w64 (a-b),true)else if op==3 then(w64 (a*b),true)
 else if op==4||op==5 then(if b==0 then(0,false)else if op==4 then(w64 (a.tdiv b),true)else(a.tmod b,true))
 else if op==6 then(andI a b,true)else if op==7 then(orI a b,true)else if op==8 then(xorI a b,true)
 else if op==9 then(w64 (a*2 ^ min (andI b 63).toNat IntKind.i64.bits),true)else if op==10 then(a.fdiv (2 ^ min (andI b 63).toNat IntKind.i64.bits),true)
 else if op==11 then(w64 ((IntKind.u64.wrap a).fdiv (2 ^ min (andI b 63).toNat IntKind.u64.bits)),true)
 else if op==12 then(zm4 (decide (a<b)),true)else if op==13 then(zm4 (decide (a<=b)),true)else if op==14 then(zm4 (decide (a > b)),true)
 else if op==15 then(zm4 (decide (a≥b)),true)else if op==16 then(zm4 (a==b),true)else if op==17 then(zm4 (a != b),true)else(0,false)
theorem and63(b:Int):0<=andI b 63:=by
 unfold andI;have h:(BitVec.ofInt IntKind.i64.bits b &&& BitVec.ofInt IntKind.i64.bits 63).toNat<=63:=by
  rw[BitVec.toNat_and];have:(BitVec.ofInt IntKind.i64.bits 63).toNat=63:=by decide
  rw[this];exact Nat.and_le_right
 rw[D3 _ oM0];omega
structure Rs where
 ins:List Int
 ar:List (List Int)
 st:Int
 code:Int
 out:List Int
 cost:Int
 fuel:Int
 spent:Bool
def z16(s:Rs):Bool:=s.spent||s.st != 0
def zb8(s:Rs):Bool×Rs:=if z16 s then(false,s)else if s.fuel<1 then(false,{ s with spent:=true })else(true,{ s with fuel:=w64 (s.fuel-1) })
def getV(v:List Int)(i:Int):Option Int:=if 0<=i then v[i.toNat]? else none
def setV(v:List Int)(i x:Int):Option (List Int):=if 0<=i/\i.toNat<v.length then some (v.set i.toNat x)else none
def mOf(v:List Int):List Int->Option (List Int)
 |[]=>some []
 |i::r=>(getV v i).bind λx=>(mOf v r).map λy=>x::y
def mSet(v:List Int):List Int->List Int->Option (List Int)
 |[],_=>some v
 |_::_,[]=>none
 |i::r,x::n=>(setV v i x).bind λv'=>mSet v' r n
def zc9(s:Rs)(k n:Int):Option (Bool×Rs) :=
 if n<0 then some (false,{ s with st:=3 })
 else if 0<=k then(s.ar[k.toNat]?).bind λrow=>if n≥row.length then some (false,{ s with st:=3 })else some (true,s)else none
abbrev Rend:=Int×List Int
abbrev Rres:=Rend×List Int×Rs
def z5o(rec:List Nd->List Int->Rs->Option Rres)(recLoop:Nd->List Int->List Int->Rs->Option Rres)(recSum:Nd->List Int->Rs->Option (Int×Rs))(x:Nd)(a v:List Int)(s:Rs):Option Rres :=
 if x.kind==1||x.kind==2 then(x.outs[0]?).bind λo=>(setV v o x.n).map λv'=>((0,[]),v',s)
 else if x.kind==12||x.kind==13||x.kind==14||x.kind==15 then some ((x.kind,a),v,s)
 else if x.kind==10 then(a[0]?).bind λa0=>(x.kids[if a0 != 0 then 0 else 1]?).bind λq=>(rec q v s).bind λr =>
  if !z16 r.2.2&&r.1.1==12 then(mSet r.2.1 x.outs r.1.2).map λv'=>((0,[]),v',r.2.2)else some r
 else if x.kind==11 then recLoop x v a s
 else(recSum x a s).bind λr=>if !z16 r.2&&decide (0<x.outs.length)then(x.outs[0]?).bind λo=>(setV v o r.1).map λv'=>((0,[]),v',r.2)else some ((0,[]),v,r.2)
mutual
def z2f(u:Un):Nat->List Nd->List Int->Rs->Option Rres
 |0,_,_,_=>none
 |_+1,[],v,s=>some ((0,[]),v,s)
 |d+1,x::l,v,s =>
  match zb8 s with
  |(false,s)=>some ((0,[]),v,s)
  |(true,s)=>(mOf v x.args).bind λa=>(z5o (z2f u d) (z3w u d) (mSum u d) x a v s).bind λr =>
   if z16 r.2.2||r.1.1 != 0 then some r else z2f u d l r.2.1 r.2.2
def z3w(u:Un):Nat->Nd->List Int->List Int->Rs->Option Rres
 |0,_,_,_,_=>none
 |d+1,x,v,a,s=>(mSet v x.params a).bind λv=>(x.kids[0]?).bind λq=>(z2f u d q v s).bind λr =>
  if z16 r.2.2||r.1.1==15 then some r
  else if r.1.1==14 then(mSet r.2.1 x.outs r.1.2).map λv=>((0,[]),v,r.2.2)
  else z3w u d x r.2.1 r.1.2 r.2.2
def mSum(u:Un):Nat->Nd->List Int->Rs->Option (Int×Rs)
 |0,_,_,_=>none
 |d+1,x,a,s0 =>
  let s:={ s0 with cost:=w64 (s0.cost+1) }
  let k:=z0i x.name u.arrays 0
  if x.kind==3 then(a[0]?).map λa0=>(mOne x.op a0,s)
  else if x.kind==4 then(a[0]?).bind λa0=>(a[1]?).map λa1=>((mTwo x.op a0 a1).1,if (mTwo x.op a0 a1).2 then s else { s with st:=2 })
  else if x.kind==5 then(a[0]?).bind λa0=>(zc9 s k a0).bind λr=>if r.1 then(s.ar[k.toNat]?).bind λrow=>(row[a0.toNat]?).map λy=>(y,s)else some (0,r.2)
  else if x.kind==6 then(a[0]?).bind λa0=>(zc9 s k a0).bind λr=>if r.1 then(a[1]?).bind λa1=>(s.ar[k.toNat]?).map λrow=>(0,{ s with ar:=s.ar.set k.toNat (row.set a0.toNat a1) })else some (0,r.2)
  else if x.kind==7 then z4j u d (z06 x.name u.flows 0) a s
  else if x.kind==9 then(a[0]?).bind λa0=>if s.out.length<1073741824 then some (0,{ s with out:=s.out++[a0] })else none
  else if x.kind==8 then(match s.ins with|[]=>some (0,{ s with st:=4 })|y::r=>some (y,{ s with ins:=r }))
  else some (0,s)
def z4j(u:Un):Nat->Int->List Int->Rs->Option (Int×Rs)
 |0,_,_,_=>none
 |d+1,k,a,s=>if 0<=k then(u.flows[k.toNat]?).bind λf=>if a.length<=f.types.length/\f.types.length<=1073741824 then
  (z2f u d f.body (a++List.replicate (f.types.length-a.length) 0) s).bind λr=>if z16 r.2.2 then some (0,r.2.2)else some (r.1.2.headD 0,r.2.2)else none else none
end
section
variable {P:Program} {c:Cx} {o:Oper} {fr:Fr}
inductive LendOf(σ:Heap')(Ls:Nat->Prop):IV->IV->Prop
 |same {x:IV}:LendOf σ Ls x x
 |row {L n:Nat} {s:RT} {els els':List (List PV)} (hL:Ls L) (hσ:σ L=some (.row s els)) (hn:els.length=n) (he:els=els'):LendOf σ Ls (.sl L n) (.pv (.seq els'))
def yd4(σ:Heap')(Ls:Nat->Prop):List IV->List IV->Prop
 |[],[]=>True
 |x::xs,y::ys=>LendOf σ Ls x y/\yd4 σ Ls xs ys
 |_,_=>False
theorem y86{σ σ':Heap'}{Ls:Nat->Prop}{F F':Nat->Prop}{ρ ρ':Loc}{w:World}:∀{xs ys:List IV}{vs:List Value},yd4 σ Ls xs ys->RepL F ρ σ w xs vs ->
 (∀x y v,LendOf σ Ls x y->RepI F ρ σ w x v->RepI F' ρ' σ' w y v)->RepL F' ρ' σ' w ys vs
 |[],[],vs,_,h,_=>⟨h.1,λj x hj=>by simp at hj⟩
 |x::xs,y::ys,[],_,h,_=>by have:=h.1;simp at this
 |x::xs,y::ys,v::vs,hl,h,hf=>by
  have ih:=y86 (vs:=vs) hl.2 ⟨by simpa using h.1,λj z hj=>h.2 (j+1) z (by simpa using hj)⟩ hf;refine⟨by have:=ih.1;simp[this],λj z hj=>?_⟩
  cases j with
  |zero =>
   cases hj
   obtain⟨u,hu,hr⟩:=h.2 0 x rfl
   exact⟨u,hu,hf _ _ _ hl.1 hr⟩
  |succ j=>exact ih.2 j z (by simpa using hj)
def j2p:PV->Bool
 |.val _=>true
 |_=>false
def y40:HO->Bool
 |.row _ els=>els.all λel=>el.all j2p
 |_=>false
theorem yv7{x:PV}(h:j2p x=true):∃v,x=.val v:=by cases x<;>first|exact⟨_,rfl⟩|cases h
theorem RepO.plain{F F':Nat->Prop}{ρ ρ':Loc}{σ σ':Heap'}{w:World}{b c:Nat}{ob:HO}(h:RepO F ρ σ w b c ob)(hp:y40 ob=true):RepO F' ρ' σ' w b c ob:=by
 cases h with
 |box=>cases hp
 |map=>cases hp
 |row s els a u h hs hl hm hw hv hr =>
  refine .row s els a u h hs hl hm hw hv λi el hi j x hj=>?_;obtain⟨v,rfl⟩:=yv7 (Bj.1 (Bj.1 hp el (Af hi)) x (Af hj));have:=hr i el hi j _ hj;generalize u i j=z at this
  cases this
  exact .val v
open Classical in
theorem SC.lend{Ls:Nat->Prop}{xs:List IV}{f:FuncId}{args:List IV}{pre post:List (Nat×HO)}{R:Nat->Prop}{r:IV}{hp:Hp}{ρ:Loc}{w:World}{a:Act}{vs:List Value}(hsc:SC P f args pre R r post)
 (h:All c ρ (look hp) w fr a) (hlend:yd4 (look hp) Ls xs args) (hLs:∀k,Ls k->look (up pre) k=none) (hargs:RepL c.F ρ (look hp) w xs vs) (hpre:∀k o,look (up pre) k=some o->look hp k=some o) (hdom:pre.map (·.1)=post.map (·.1))
 (hR:∀k,c.R k->look (up pre) k=none∨R k) (hr:∃z,r=.pv (.val z)) (hpost:∀k ob,look (up post) k=some ob->y40 ob=true∨(R k/\look (up pre) k=some ob)) :
 Calls P f vs.toArray w λe w'=>∃ρ' v,e=.returned v/\All c ρ' (look (up post++hp)) w' fr a/\RepI c.F ρ' (look (up post++hp)) w' r v:=by
 have hd:∀k,look (up pre) k=none↔look (up post) k=none:=λk=>by rw[z2r,z2r,hdom]
 let ρ1:Loc:=λk=>if look (up pre) k=none then none else ρ k
 let F1:Nat->Prop:=λb=>c.F b∨∃k cc,ρ k=some (b,cc)/\look (up pre) k=none /\ ¬Ls k
 have h1in:∀k,look (up pre) k≠none -> ρ1 k=ρ k:=λk hk=>A1 hk;have h1out:∀k,look (up pre) k=none -> ρ1 k=none:=λk hk=>A5 hk;have h1:∀k l,ρ1 k=some l->look (up pre) k≠none /\ ρ k=some l:=λk l hk=>by
  by_cases e:look (up pre) k=none
  ·rw[h1out k e]at hk;cases hk
  ·exact⟨e,(h1in k e)▸hk⟩
 have hown1:∀b,owned F1 ρ1 b->owned c.F ρ b:=λb hb=>by
  rcases hb with(hb|⟨k,cc,hk,_,_⟩)|⟨k,cc,hk⟩
  ·exact .inl hb
  ·exact .inr ⟨k,cc,hk⟩
  ·exact .inr ⟨k,cc,(h1 k _ hk).2⟩
 have hconv:∀x:IV,¬Names (λk=>¬∀o,look (up pre) k=some o->look hp k=some o /\ ρ1 k=ρ k) x:=λx hx=>by
  obtain⟨k,hk⟩:=hx.some;exact hk λo ho=>⟨hpre k o ho,h1in k (by simp[ho])⟩
 have hrel1:RelH F1 ρ1 (look (up pre)) w:=by
  refine⟨λk k' b cc cc' hk hk'=>h.rel.inj k k' b cc cc' (h1 _ _ hk).2 (h1 _ _ hk').2,λk b cc hk hb=>?_,λb hb=>?_,λk b cc hk=>?_,λk o hk hρ=>?_⟩
  ·rcases hb with hb|⟨k',cc',hk',hn,_⟩
   ·exact h.rel.apart k b cc (h1 _ _ hk).2 hb
   ·obtain rfl:=h.rel.inj _ _ _ _ _ (h1 _ _ hk).2 hk';exact(h1 _ _ hk).1 hn
  ·rcases hb with hb|⟨k',cc',hk',_,_⟩
   ·exact h.rel.old b hb
   ·exact h.rel.lt hk'
  ·obtain⟨hne,hk2⟩:=h1 _ _ hk;obtain⟨o1,ho1,ho2⟩:=h.rel.obj k b cc hk2
   cases hl:look (up pre) k with
   |none=>exact A9 hl hne
   |some o2 =>
    rw[hpre k o2 hl]at ho1;cases ho1
    exact⟨_,rfl,ho2.conv hown1 λx _=>hconv x⟩
  ·rw[h1in k (by simp[hk])]at hρ;exact h.rel.real k o (hpre k o hk) hρ
 have hLown:∀L b cc,Ls L -> ρ L=some (b,cc) -> ¬owned F1 ρ1 b:=λL b cc hL hb ho=>by
  rcases ho with(ho|⟨k',cc',hk',hn,hnl⟩)|⟨k',cc',hk'⟩
  ·exact h.rel.apart L b cc hb ho
  ·obtain rfl:=h.rel.inj _ _ _ _ _ hb hk';exact hnl hL
  ·obtain⟨hne,hk2⟩:=h1 _ _ hk';obtain rfl:=h.rel.inj _ _ _ _ _ hb hk2;exact hne (hLs _ hL)
 refine(hsc F1 ρ1 w vs (h.kept.mono hown1) hrel1 (y86 hlend hargs (λx y v hxy hx=>?_))).mono ?_
 ·cases hxy with
  |same=>exact hx.conv hown1 (hconv x)
  |row hL hσ hn he =>
   subst he
   cases hx with
   |sl _ _ _ hh =>
    rcases(hh _ _ hσ).2 hn with⟨b,cc,hρ,rfl⟩|⟨hρ,hz,rfl⟩
    ·obtain⟨o1,ho1,ho2⟩:=h.rel.obj _ b cc hρ;rw[hσ]at ho1;cases ho1
     cases ho2 with
     |row _ els r u h3 h4 h5 h6 h7 h8 h9 =>
      subst hn;refine .pv _ _ (.seq _ (some ⟨b,0,none⟩) cc b 0 u (λ_=>rfl) (λ_=>⟨hLown _ _ _ hL hρ,h.rel.lt hρ⟩) h5 h6 (λi el hi j x hj=>?_) (λi el hi j x hj=>(h9 i el hi j x hj).own hown1));rw[z4t h3,h7 el (Af hi)];simpa using h8 i el hi j x hj
    ·have:_=[]:=Ay (hn.trans hz);subst this;subst hz;exact .pv _ _ (.seq [] none 0 0 0 (λ_ _=>undef) sI0 sI0 sI0 (by simp[maxLen]) sI0 sI0)
 rintro e w' ⟨ρ2,v,rfl,hv,hrel2,t⟩
 let ρ':Loc:=λk=>if look (up pre) k=none then ρ k else ρ2 k
 have h2in:∀k,look (up pre) k≠none -> ρ' k=ρ2 k:=λk hk=>A1 hk;have h2out:∀k,look (up pre) k=none -> ρ' k=ρ k:=λk hk=>A5 hk;have h2none:∀k,look (up pre) k=none -> ρ2 k=none:=λk hk=>by
  cases h3:ρ2 k with
  |none=>rfl
  |some l =>
   obtain⟨o1,ho1,_⟩:=hrel2.obj k l.1 l.2 h3;rw[(hd k).1 hk]at ho1;cases ho1
 have h2:∀k l,ρ2 k=some l->look (up pre) k≠none:=λk l hk e=>by rw[h2none k e]at hk;cases hk
 have hσin:∀k,look (up pre) k≠none->look (up post++hp) k=look (up post) k:=λk hk=>by
  rw[z59]
  cases h3:look (up post) k with
  |none=>exact A9 ((hd k).2 h3) hk
  |some o=>rfl
 have hσout:∀k,look (up pre) k=none->look (up post++hp) k=look hp k:=λk hk=>by
  rw[z59,(hd k).1 hk];rfl
 have T:Trans c.F (λk=>look (up pre) k=none∨R k) ρ (look hp) w ρ' (look (up post++hp)) w':=by
  refine⟨t.os,t.tape,t.output,t.size,λb hb hall=>t.blk b hb λk cc hk=>?_,λk b cc hk hb=>?_,λk cs cs' e1 e2=>?_,λk cs cs' e1 e2=>?_,λk s s' els els' e1 e2 hl=>?_,λk s s' els els' e1 e2=>?_,λk cs' e2=>?_,λk cs' e2=>?_,λk s els' e2=>?_⟩
  ·obtain⟨hne,hk2⟩:=h1 _ _ hk;exact(hall k cc hk2).resolve_left hne
  ·by_cases e:look (up pre) k=none
   ·rw[h2out k e]at hk;exact .inl hk
   ·rw[h2in k e]at hk;rcases t.own k b cc hk hb with g|⟨k0,c0,g,gn⟩
    ·exact .inl (h1 _ _ g).2
    ·exact .inr ⟨k0,c0,(h1 _ _ g).2,λr=>r.elim (h1 _ _ g).1 gn⟩
  all_goals by_cases e:look (up pre) k=none
  ·exact h2out k e
  ·cases h3:look (up pre) k with
   |none=>exact A9 h3 e
   |some o =>
    rw[hpre k o h3]at e1;cases e1
    rw[hσin k e]at e2;rw[h2in k e,t.box k _ _ h3 e2,h1in k e]
  ·exact h2out k e
  ·cases h3:look (up pre) k with
   |none=>exact A9 h3 e
   |some o =>
    rw[hpre k o h3]at e1;cases e1
    rw[hσin k e]at e2;rw[h2in k e,t.map k _ _ h3 e2,h1in k e]
  ·exact h2out k e
  ·cases h3:look (up pre) k with
   |none=>exact A9 h3 e
   |some o =>
    rw[hpre k o h3]at e1;cases e1
    rw[hσin k e]at e2;rw[h2in k e,t.row k _ _ _ _ h3 e2 hl,h1in k e]
  ·rw[hσout k e,e1]at e2;cases e2;exact Ag _
  ·cases h3:look (up pre) k with
   |none=>exact A9 h3 e
   |some o =>
    rw[hpre k o h3]at e1;cases e1
    rw[hσin k e]at e2;exact t.grow k _ _ _ _ h3 e2
  ·rw[hσout k e]at e2;exact .inr ⟨_,e2⟩
  ·rw[hσin k e]at e2;rcases t.kindB k _ e2 with h3|⟨cs,h3⟩
   ·exact A9 h3 e
   ·exact .inr ⟨cs,hpre k _ h3⟩
  ·rw[hσout k e]at e2;exact .inr ⟨_,e2⟩
  ·rw[hσin k e]at e2;rcases t.kindM k _ e2 with h3|⟨cs,h3⟩
   ·exact A9 h3 e
   ·exact .inr ⟨cs,hpre k _ h3⟩
  ·rw[hσout k e]at e2;exact .inr ⟨_,e2⟩
  ·rw[hσin k e]at e2;rcases t.kindR k _ _ e2 with h3|⟨cs,h3⟩
   ·exact A9 h3 e
   ·exact .inr ⟨cs,hpre k _ h3⟩
 have hnone:∀k,¬(look hp k=none/\look (up post++hp) k≠none):=λk hk=>by
  by_cases e:look (up pre) k=none
  ·rw[hσout k e]at hk;exact hk.2 hk.1
  ·cases h3:look (up pre) k with
   |none=>exact e h3
   |some o=>rw[hpre k o h3]at hk;cases hk.1
 have hnn:∀x:IV,¬Names (λk=>look hp k=none/\look (up post++hp) k≠none) x:=λx hx=>by
  obtain⟨k,hk⟩:=hx.some;exact hnone k hk
 have hmix:∀k k' b cc cc',look (up pre) k=none -> ρ k=some (b,cc) -> ρ2 k'=some (b,cc')->k=k':=λk k' b cc cc' e hk hk'=>by
  by_cases hL:Ls k
  ·rcases t.own k' b cc' hk' (h.rel.lt hk)with g|⟨k0,c0,g,_⟩
   ·exact h.rel.inj _ _ _ _ _ hk (h1 _ _ g).2
   ·have e2:=h.rel.inj _ _ _ _ _ hk (h1 _ _ g).2;subst e2;exact A9 e (h1 _ _ g).1
  ·exact A9 (.inr ⟨k,cc,hk,e,hL⟩) (hrel2.apart _ _ _ hk')
 refine⟨ρ',v,rfl,h.step T hR ⟨λk k' b cc cc' hk hk'=>?_,λk b cc hk hb=>?_,λb hb=>Bg (h.rel.old b hb) t.size,λk b cc hk=>?_,λk o hk hρ=>?_⟩ (λk e1 e2=>A9 ⟨e1,e2⟩ (hnone k)) λ_ x _=>hnn x,by obtain⟨z,rfl⟩:=hr;obtain rfl:=hv.val;exact z3c _⟩
 ·by_cases e:look (up pre) k=none<;>by_cases e':look (up pre) k'=none
  ·rw[h2out k e]at hk;rw[h2out k' e']at hk';exact h.rel.inj _ _ _ _ _ hk hk'
  ·rw[h2out k e]at hk;rw[h2in k' e']at hk';exact hmix k k' b cc cc' e hk hk'
  ·rw[h2in k e]at hk;rw[h2out k' e']at hk';exact(hmix k' k b cc' cc e' hk' hk).symm
  ·rw[h2in k e]at hk;rw[h2in k' e']at hk';exact hrel2.inj _ _ _ _ _ hk hk'
 ·by_cases e:look (up pre) k=none
  ·rw[h2out k e]at hk;exact h.rel.apart _ _ _ hk hb
  ·rw[h2in k e]at hk;exact hrel2.apart _ _ _ hk (.inl hb)
 ·by_cases e:look (up pre) k=none
  ·rw[h2out k e]at hk;obtain⟨o1,ho1,ho2⟩:=h.rel.obj k b cc hk;refine⟨o1,(hσout k e).trans ho1,ho2.keep T (t.blk b (h.rel.lt hk) λk' cc' hk'=>?_) λx _=>hnn x⟩;obtain⟨hne,hk2⟩:=h1 _ _ hk';obtain rfl:=h.rel.inj _ _ _ _ _ hk hk2;exact A9 e hne
  ·rw[h2in k e]at hk;obtain⟨o1,ho1,ho2⟩:=hrel2.obj k b cc hk;refine⟨o1,(hσin k e).trans ho1,?_⟩;rcases hpost k o1 ho1 with hpl|⟨hRk,hpr⟩
   ·exact ho2.plain hpl
   ·have hsame:ρ2 k=ρ k:=by
     rw[<- h1in k e]
     cases o1 with
     |box cs=>exact t.box k _ _ hpr ho1
     |row s els=>exact t.row k _ _ _ _ hpr ho1 rfl
     |map es=>exact t.map k _ _ hpr ho1
    rw[hsame]at hk;obtain⟨o3,ho3,ho4⟩:=h.rel.obj k b cc hk;rw[hpre k _ hpr]at ho3;cases ho3
    refine ho4.keep T (t.blk b (h.rel.lt hk) λk' cc' hk'=>?_) λx _=>hnn x;obtain⟨hne,hk2⟩:=h1 _ _ hk';obtain rfl:=h.rel.inj _ _ _ _ _ hk hk2;exact hRk
 ·by_cases e:look (up pre) k=none
  ·rw[hσout k e]at hk;rw[h2out k e]at hρ;exact h.rel.real k o hk hρ
  ·rw[hσin k e]at hk;rw[h2in k e]at hρ;exact hrel2.real k o hk hρ
theorem ok_lend(Ls:Nat->Prop){ys:List IV}{f:FuncId}{os:Array Operand}{tys:Array TypeId}{xs args:List IV}{pre post:List (Nat×HO)}{R:Nat->Prop}{r:IV}{hp:Hp}(hsc:SC P f args pre R r post)(hf:z6n P f)
 (ho:o.op=.call { callee:=.value (.func f),args:=os,argTypes:=tys }) (hx:evs fr os.toList=some xs) (hs:Subs (look hp) xs ys) (hlend:yd4 (look hp) Ls ys args) (hLs:∀k,Ls k->look (up pre) k=none) (hpre:∀k o,look (up pre) k=some o->look hp k=some o) (hdom:pre.map (·.1)=post.map (·.1))
 (hR:∀k,c.R k->look (up pre) k=none∨R k) (hr:∃z,r=.pv (.val z)) (hpost:∀k ob,look (up post) k=some ob->y40 ob=true∨(R k/\look (up pre) k=some ob)):Ok P c o fr (look hp) r (look (up post++hp)):=by
 intro ρ w a K Q h hK;obtain⟨fn,hfn,hname,hbody⟩:=hf;have hargs:=hs _ _ _ _ (zh9 h hx);have hrun:(execOp a.eval o).run P w=.ok (.enter f (os.toList.map a.eval).toArray) w:=by
  have hcall:(callFunc f (os.toList.map a.eval).toArray).run P w=.ok (.enter f (os.toList.map a.eval).toArray) w:=by
   unfold callFunc;simp only[Ai];show(Result.andThen (.ok P w) _)=_;simp only[Aw,hfn,hname,hbody];rfl
  simp only[execOp,ho,resolve,Act.eval,Deferred.ofValue,Ai,Ch,Aw,invoke];rw[<- hcall]
  congr 2
  apply Fq;simp
 unfold Oper.wp;rw[hrun,Fh];refine(hsc.lend h hlend hLs hargs hpre hdom hR hr hpost).mono ?_;rintro e w' ⟨ρ',v,rfl,h1,h2⟩;exact hK ρ' w' v h1 h2
end
section
variable {P:Program} {c:Cx} {R1:Nat->Prop} {o:Oper} {fr:Fr} {hp:Hp}
theorem j2c{t:TypeId}{x:Operand}{k:Nat}{cs:List IV}(ho:o.op=.box t x)(hx:fr.ev x=some (.agg cs))(hσ:look hp k=none)(hc:c.σ k=none)(hfr:nmFr k fr=false)(hhp:nmHp k hp=false)(hcs:nm.nms k cs=false) :
 Ok P c o fr (look hp) (.ptr k 0) (look ((k,some (.box cs))::hp)):=by
 intro ρ w a K Q h hK;obtain⟨vs,u,hv,hl,hvu,hr⟩:=(h.ev hx).inv_agg;have hrun:(execOp a.eval o).run P w=.ok (.value (.pointer (some ⟨w.heap.size,0,none⟩))) (w.alloc (.cells vs t)):=by
  have hn:(newVar t (.agg vs)).run P w=.ok ⟨w.heap.size,0,none⟩ (w.alloc (.cells vs t)):=rfl;simp only[execOp,ho,hv,Instr.box,Ai,hn,Aw];rfl
 unfold Oper.wp;rw[hrun];refine hK (z18 ρ k (some (w.heap.size,1))) _ _ (h.alloc hσ hc hfr hhp 1 _ _ λkeep _=>?_) (.ptr _ _ _ λcs' _=>⟨w.heap.size,1,z09,rfl⟩);exact .box _ t vs u (z31 w _) (Nat.le_of_eq hl.symm) hvu λj x hj=>keep _ _ (hr j x hj) (z5r hcs (Af hj))
def keyB:Value->Value->Bool
 |.int _ a,.int _ b=>a==b
 |.string a,.string b=>a.toList==b.toList
 |_,_=>false
def z1y:TypeDesc->Value->Bool
 |.int k,.int k' _=>k'==k
 |.string,.string _=>true
 |_,_=>false
theorem z7g{d:TypeDesc}{v:Value}(h:z1y d v=true):MapKept.IsKey d v:=by
 cases d<;>cases v<;>simp_all[z1y,MapKept.IsKey]
theorem y5m{d:TypeDesc}{a b:Value}(ha:z1y d a=true)(hb:z1y d b=true):keyB a b=true↔a=b:=by
 cases d<;>cases a<;>cases b<;>first
  |(simp_all[z1y,keyB];done)
  |(simp only[keyB,At,Value.string.injEq];exact⟨λh=>Fs _ _ |>.1 (by rw[beq_toListBytes];simpa using h),λh=>by rw[h]⟩)
def z1z(k:Value):List (Value×PV)->Option PV
 |[]=>none
 |(a,p)::r=>if keyB k a then some p else z1z k r
def mput(k:Value)(v:PV):List (Value×PV)->List (Value×PV)
 |[]=>[(k,v)]
 |(a,p)::r=>if keyB k a then(k,v)::r else(a,p)::mput k v r
theorem zy6{d:TypeDesc}{k:Value}(hk:z1y d k=true):∀(es:List (Value×PV)) (l:List MapEntry) (i:Nat),l.length=es.length->(∀e∈es,z1y d e.1=true)->(∀(j:Nat)(a:Value)(p:PV),es[j]?=some (a,p)->∃m:MapEntry,l[j]?=some m/\m.key=a) ->
 (Instr.findNow d k l i=some none/\z1z k es=none/\(∀v,mput k v es=es++[(k,v)])/\∀m∈l,m.key≠k)∨∃j m p,Instr.findNow d k l i=some (some (i+j,m.val))/\l[j]?=some m/\m.key=k/\es[j]?=some (k,p)/\z1z k es=some p/\∀v,mput k v es=es.set j (k,v)
 |[],[],_,_,_,_=>.inl ⟨rfl,rfl,λ_=>rfl,λm hm=>by cases hm⟩
 |(a,p)::es,m::l,i,hl,he,h=>by
  have h0:m.key=a:=by obtain⟨m',hm',e⟩:=h 0 a p rfl;cases hm';exact e
  have ha:=he (a,p) (.head _);obtain⟨r,hr,hiff⟩:=MapKept.sameNow_of_keys (z7g hk) (z7g ha);rw[<- h0]at hr
  cases r with
  |true =>
   have hka:k=a:=hiff.1 rfl;have hb:keyB k a=true:=(y5m hk ha).2 hka
   exact .inr ⟨0,m,p,by simp[Instr.findNow,hr],rfl,h0.trans hka.symm,by simp[hka],by simp[z1z,hb],λv=>by simp[mput,hb]⟩
  |false =>
   have hb:keyB k a=false:=by
    cases hb:keyB k a with
    |false=>rfl
    |true=>have:=hiff.2 ((y5m hk ha).1 hb);cases this
   rcases zy6 hk es l (i+1) (by simpa using hl) (λe h'=>he e (.tail _ h')) (λj a p hj=>by simpa using h (j+1) a p (by simpa using hj))with⟨h1,h2,h3,h9⟩|⟨j,m',p',h1,h2,h3,h4,h5,h6⟩
   ·exact .inl ⟨by simp[Instr.findNow,hr,h1],by simp[z1z,hb,h2],λv=>by simp[mput,hb,h3],λm' hm'=>by
     rcases Aq.1 hm' with rfl|hm'
     ·intro e;rw[h0]at e;have:=(y5m hk ha).2 e.symm;rw[hb]at this;cases this
     ·exact h9 m' hm'⟩
   ·exact .inr ⟨j+1,m',p',by simp[Instr.findNow,hr,h1];omega,by simpa using h2,h3,by simpa using h4,by simp[z1z,hb,h5],λv=>by simp[mput,hb,h6]⟩
theorem RepO.inv_map{F:Nat->Prop}{ρ:Loc}{σ:Heap'}{w:World}{b cc:Nat}{es:List (Value×PV)}(h:RepO F ρ σ w b cc (.map es)) :
 ∃(a:Array MapEntry)(t:Nat)(u:Nat->Value),w.heap[b]?=some (.map a t)/\a.size=es.length/\(∀i k p,es[i]?=some (k,p)->∃m:MapEntry,a[i]?=some m/\m.key=k/\m.val=u i)/\∀i k p,es[i]?=some (k,p)->RepP (owned F ρ) w p (u i):=by
 cases h with
 |map _ a t u h hl hv hr=>exact⟨a,t,u,h,hl,hv,hr⟩
theorem RepO.stamped{F:Nat->Prop}{ρ:Loc}{σ:Heap'}{w:World}{b cc:Nat}{es:List (Value×PV)}(h:RepO F ρ σ w b cc (.map es)){r:Array MapEntry}{t:Nat}(hb:w.heap[b]?=some (.map r t)):MapKept.Stamped r t:=by
 cases h with
 |map _ a t u h hl hv hr hst=>rw[h]at hb;cases hb;exact hst
theorem All.stamped{ρ:Loc}{w:World}{a:Act}(h:All c ρ (look hp) w fr a){k b cc t:Nat}{es:List (Value×PV)}{r:Array MapEntry}(hρ:ρ k=some (b,cc))(hk:look hp k=some (.map es))(hb:w.heap[b]?=some (.map r t)):MapKept.Stamped r t:=by
 obtain⟨o1,h1,h2⟩:=h.rel.obj k b cc hρ;rw[hk]at h1;cases h1
 exact h2.stamped hb
theorem All.mapAt{ρ:Loc}{w:World}{a:Act}(h:All c ρ (look hp) w fr a){x:Operand}{k:Nat}{es:List (Value×PV)}(hx:fr.ev x=some (.mp k))(hk:look hp k=some (.map es)) :
 ∃(b cc:Nat)(r:Array MapEntry)(t:Nat)(u:Nat->Value),a.eval x=.map (some b) /\ ρ k=some (b,cc)/\w.heap[b]?=some (.map r t)/\r.size=es.length/\(∀i k p,es[i]?=some (k,p)->∃m:MapEntry,r[i]?=some m/\m.key=k/\m.val=u i)/\∀i k p,es[i]?=some (k,p)->RepP (owned c.F ρ) w p (u i):=by
 have hr:=h.ev hx;generalize hv:a.eval x=v at hr
 cases hr with
 |mp _ _ hh =>
  obtain⟨b,cc,hρ,rfl⟩:=hh es hk;obtain⟨o1,h1,h2⟩:=h.rel.obj k b cc hρ;rw[hk]at h1;cases h1
  obtain⟨r,t,u,h3,h4,h5,h6⟩:=h2.inv_map;exact⟨b,cc,r,t,u,rfl,hρ,h3,h4,h5,h6⟩
theorem yv5{t:TypeId}{k:Nat}(ho:o.op=.makeMap t none)(hσ:look hp k=none)(hc:c.σ k=none)(hfr:nmFr k fr=false)(hhp:nmHp k hp=false) :
 Ok P c o fr (look hp) (.mp k) (look ((k,some (.map []))::hp)):=by
 intro ρ w a K Q h hK;have hrun:(execOp a.eval o).run P w=.ok (.value (.map (some w.heap.size))) (w.alloc (.map #[] 0)):=by
  have hn:(newObj (.map #[] 0)).run P w=.ok w.heap.size (w.alloc (.map #[] 0)):=rfl;simp[execOp,ho,Instr.makeMap,Ai,hn]
 unfold Oper.wp;rw[hrun];refine hK (z18 ρ k (some (w.heap.size,1))) _ _ (h.alloc hσ hc hfr hhp 1 _ _ λkeep _=>?_) (.mp _ _ λes' _=>⟨w.heap.size,1,z09,rfl⟩);exact .map [] #[] 0 (λ_=>undef) (z31 w _) rfl (λi k p hi=>by simp at hi) λi k p hi=>by simp at hi
theorem y8l{t kt et:TypeId}{d:TypeDesc}{x y z:Operand}{k:Nat}{es:List (Value×PV)}{kv:Value}{p:PV}(ho:o.op=.mapUpdate t x y z)(hx:fr.ev x=some (.mp k))(hy:fr.ev y=some (.pv (.val kv)))(hz:fr.ev z=some (.pv p))(hk:look hp k=some (.map es))
 (hR:¬c.R k) (hu:P.underlying t=some (.map kt et)) (hd:P.underlying kt=some d) (hkv:z1y d kv=true) (hes:∀e∈es,z1y d e.1=true):Ok P c o fr (look hp) (.pv (.val undef)) (look ((k,some (.map (mput kv p es)))::hp)):=by
 refine zr8 λρ w a h=>?_;obtain⟨b,cc,r,ck,u,hv,hρ,h3,h4,h5,h6⟩:=h.mapAt hx hk;have hst:=h.stamped hρ hk h3;have hzr:RepP (owned c.F ρ) w p (a.eval z):=by
  have:=h.ev hz;generalize a.eval z=vz at this
  cases this with
  |pv _ _ hp=>exact hp
 have hkey:=E3 (w:=w) hd (z7g hkv) false 9999;have hset:∀o',(setObj b o').run P w=.ok () { w with heap:=w.heap.setIfInBounds b o' }:=λo'=>MapKept.run_setObj_map o' h3;have hb:b<w.heap.size:=(Cc.1 h3).1;have hsame:∀v:Value,z1y d v=true->Instr.sameBits 10000 v v=true:=by
  intro v hv
  cases d<;>cases v<;>simp_all[z1y,Instr.sameBits,Fs]
 rcases zy6 hkv es r.toList 0 (by simpa using h4) hes (λj a p hj=>by obtain⟨m,hm,e,_⟩:=h5 j a p hj;exact⟨m,by simpa using hm,e⟩)with⟨h1,h2,h7,h9⟩|⟨j,m,q,h1,h2,h3',h4',h5',h7⟩
 ·have hfind:=Dr (P:=P) (w:=w) (kt:=kt) hd h1;refine⟨ρ,{ w with heap:=w.heap.setIfInBounds b (.map (r.push ⟨kv,a.eval z,ck⟩) (ck+1)) },by simp[execOp,ho,hv,z0v h hy,Instr.mapUpdate,Ai,B9 hu,Co h3,hkey,hfind,hset],?_⟩;refine h.write hρ hk trivial hR rfl rfl rfl sI0 (λj hj=>by simp[C4 hj]) λkeep keepP=>?_;have hst2:=MapKept.stamped_push hst (key:=kv) (val:=a.eval z) h9;refine .map _ (r.push ⟨kv,a.eval z,ck⟩) (ck+1) (λi=>if i=es.length then a.eval z else u i) (by simp[hb]) (by simp[h7,h4]) (λi k' p' hi=>?_) λi k' p' hi=>?_
  ·rw[h7]at hi
   by_cases e:i=es.length
   ·subst e;simp only[Cz,Cl,Dz]at hi;obtain⟨rfl,rfl⟩:=hi;exact⟨⟨kv,a.eval z,ck⟩,by rw[<- h4];simp,rfl,by simp⟩
   ·have hlt:i<es.length:=by
     have:=(A7.1 hi).1;simp at this;omega
    rw[Au hlt]at hi;obtain⟨m,hm,e1,e2⟩:=h5 i k' p' hi;refine⟨m,?_,e1,by simp[e,e2]⟩;rw[Et,A1 oM0];exact hm
  ·rw[h7]at hi
   by_cases e:i=es.length
   ·subst e;simp only[Cz,Cl,Dz]at hi;obtain⟨rfl,rfl⟩:=hi;simpa using keepP _ _ hzr
   ·have hlt:i<es.length:=by
     have:=(A7.1 hi).1;simp at this;omega
    rw[Au hlt]at hi;simpa[e]using keepP _ _ (h6 i k' p' hi)
 ·have hfind:=Dr (P:=P) (w:=w) (kt:=kt) hd h1;have hj:r[0+j]?=some m:=by simpa using h2
  have hstay:(Instr.keyThatStays kv kv).run P w=.ok kv w:=by simp[Instr.keyThatStays,hsame kv hkv]
  refine⟨ρ,{ w with heap:=w.heap.setIfInBounds b (.map (r.modify (0+j) λe=>{ e with key:=kv,val:=a.eval z }) ck) },?_,?_⟩
  ·simp only[execOp,ho,hv,z0v h hy,Instr.mapUpdate,Ai,B9 hu,Co h3,hkey,hfind,Aw,hj,Da,Cj,h3',hstay,hset];rfl
  refine h.write hρ hk trivial hR rfl rfl rfl sI0 (λj hj=>by simp[C4 hj]) λkeep keepP=>?_;have hjl:j<es.length:=(A7.1 h4').1;have hst2:=MapKept.stamped_modify hst (0+j) (λe=>{ e with key:=kv,val:=a.eval z }) (λ_ _=>rfl) (λe _ he=>by rw[hj]at he;cases he;exact h3'.symm);refine .map _ (r.modify (0+j) λe=>{ e with key:=kv,val:=a.eval z }) ck (λi=>if i=j then a.eval z else u i) (by simp[hb]) (by simp[h7,h4]) (λi k' p' hi=>?_) λi k' p' hi=>?_
  ·rw[h7]at hi
   by_cases e:i=j
   ·subst e;rw[Bp hjl]at hi
    cases hi
    refine⟨{ m with key:=kv,val:=a.eval z },?_,rfl,by simp⟩;simp only[Bu,Ed,C6]at hj⊢;rw[hj];rfl
   ·rw[Bo (C4 e)]at hi;obtain⟨m',hm',e1,e2⟩:=h5 i k' p' hi;refine⟨m',?_,e1,by simp[e,e2]⟩;simp only[Bu,Ed,A1 (C4 e)];exact hm'
  ·rw[h7]at hi
   by_cases e:i=j
   ·subst e;rw[Bp hjl]at hi
    cases hi
    simpa using keepP _ _ hzr
   ·rw[Bo (C4 e)]at hi;simpa[e]using keepP _ _ (h6 i k' p' hi)
theorem j2f{t kt et:TypeId}{d:TypeDesc}{x y z:Operand}{k:Nat}{es:List (Value×PV)}{kv:Value}{p:PV}(ho:o.op=.insert t x y z)(hx:fr.ev x=some (.mp k))(hy:fr.ev y=some (.pv (.val kv)))(hz:fr.ev z=some (.pv p))(hk:look hp k=some (.map es))
 (hR:¬c.R k) (hu:P.underlying t=some (.map kt et)) (hd:P.underlying kt=some d) (hkv:z1y d kv=true) (hes:∀e∈es,z1y d e.1=true):Ok P c o fr (look hp) (.pv (.val undef)) (look ((k,some (.map (mput kv p es)))::hp)):=by
 refine zr8 λρ w a h=>?_;obtain⟨b,cc,r,ck,u,hv,hρ,h3,h4,h5,h6⟩:=h.mapAt hx hk;have hst:=h.stamped hρ hk h3;have hzr:RepP (owned c.F ρ) w p (a.eval z):=by
  have:=h.ev hz;generalize a.eval z=vz at this
  cases this with
  |pv _ _ hp=>exact hp
 have hkey:=E3 (w:=w) hd (z7g hkv) false 9999;have hset:∀o',(setObj b o').run P w=.ok () { w with heap:=w.heap.setIfInBounds b o' }:=λo'=>MapKept.run_setObj_map o' h3;have hb:b<w.heap.size:=(Cc.1 h3).1;have hsame:∀v:Value,z1y d v=true->Instr.sameBits 10000 v v=true:=by
  intro v hv
  cases d<;>cases v<;>simp_all[z1y,Instr.sameBits,Fs]
 rcases zy6 hkv es r.toList 0 (by simpa using h4) hes (λj a p hj=>by obtain⟨m,hm,e,_⟩:=h5 j a p hj;exact⟨m,by simpa using hm,e⟩)with⟨h1,h2,h7,h9⟩|⟨j,m,q,h1,h2,h3',h4',h5',h7⟩
 ·have hfind:=Dr (P:=P) (w:=w) (kt:=kt) hd h1;refine⟨ρ,{ w with heap:=w.heap.setIfInBounds b (.map (r.push ⟨kv,a.eval z,ck⟩) (ck+1)) },by simp[execOp,ho,hv,z0v h hy,Instr.mapUpdate,Ai,B9 hu,Co h3,hkey,hfind,hset],?_⟩;refine h.write hρ hk trivial hR rfl rfl rfl sI0 (λj hj=>by simp[C4 hj]) λkeep keepP=>?_;have hst2:=MapKept.stamped_push hst (key:=kv) (val:=a.eval z) h9;refine .map _ (r.push ⟨kv,a.eval z,ck⟩) (ck+1) (λi=>if i=es.length then a.eval z else u i) (by simp[hb]) (by simp[h7,h4]) (λi k' p' hi=>?_) λi k' p' hi=>?_
  ·rw[h7]at hi
   by_cases e:i=es.length
   ·subst e;simp only[Cz,Cl,Dz]at hi;obtain⟨rfl,rfl⟩:=hi;exact⟨⟨kv,a.eval z,ck⟩,by rw[<- h4];simp,rfl,by simp⟩
   ·have hlt:i<es.length:=by
     have:=(A7.1 hi).1;simp at this;omega
    rw[Au hlt]at hi;obtain⟨m,hm,e1,e2⟩:=h5 i k' p' hi;refine⟨m,?_,e1,by simp[e,e2]⟩;rw[Et,A1 oM0];exact hm
  ·rw[h7]at hi
   by_cases e:i=es.length
   ·subst e;simp only[Cz,Cl,Dz]at hi;obtain⟨rfl,rfl⟩:=hi;simpa using keepP _ _ hzr
   ·have hlt:i<es.length:=by
     have:=(A7.1 hi).1;simp at this;omega
    rw[Au hlt]at hi;simpa[e]using keepP _ _ (h6 i k' p' hi)
 ·have hfind:=Dr (P:=P) (w:=w) (kt:=kt) hd h1;have hj:r[0+j]?=some m:=by simpa using h2
  have hstay:(Instr.keyThatStays kv kv).run P w=.ok kv w:=by simp[Instr.keyThatStays,hsame kv hkv]
  refine⟨ρ,{ w with heap:=w.heap.setIfInBounds b (.map (r.modify (0+j) λe=>{ e with key:=kv,val:=a.eval z }) ck) },?_,?_⟩
  ·simp only[execOp,ho,hv,z0v h hy,Instr.mapUpdate,Ai,B9 hu,Co h3,hkey,hfind,Aw,hj,Da,Cj,h3',hstay,hset];rfl
  refine h.write hρ hk trivial hR rfl rfl rfl sI0 (λj hj=>by simp[C4 hj]) λkeep keepP=>?_;have hjl:j<es.length:=(A7.1 h4').1;have hst2:=MapKept.stamped_modify hst (0+j) (λe=>{ e with key:=kv,val:=a.eval z }) (λ_ _=>rfl) (λe _ he=>by rw[hj]at he;cases he;exact h3'.symm);refine .map _ (r.modify (0+j) λe=>{ e with key:=kv,val:=a.eval z }) ck (λi=>if i=j then a.eval z else u i) (by simp[hb]) (by simp[h7,h4]) (λi k' p' hi=>?_) λi k' p' hi=>?_
  ·rw[h7]at hi
   by_cases e:i=j
   ·subst e;rw[Bp hjl]at hi
    cases hi
    refine⟨{ m with key:=kv,val:=a.eval z },?_,rfl,by simp⟩;simp only[Bu,Ed,C6]at hj⊢;rw[hj];rfl
   ·rw[Bo (C4 e)]at hi;obtain⟨m',hm',e1,e2⟩:=h5 i k' p' hi;refine⟨m',?_,e1,by simp[e,e2]⟩;simp only[Bu,Ed,A1 (C4 e)];exact hm'
  ·rw[h7]at hi
   by_cases e:i=j
   ·subst e;rw[Bp hjl]at hi
    cases hi
    simpa using keepP _ _ hzr
   ·rw[Bo (C4 e)]at hi;simpa[e]using keepP _ _ (h6 i k' p' hi)
theorem y4b{t kt et:TypeId}{d:TypeDesc}{b ck:Nat}{r:Array MapEntry}{kv z:Value}{es:List (Value×PV)}(commaOk:Bool)(hl:r.size=es.length)(h5:∀(j:Nat)(a:Value)(p:PV),es[j]?=some (a,p)->∃m:MapEntry,r[j]?=some m/\m.key=a)
 (hu:P.underlying t=some (.map kt et)) (hd:P.underlying kt=some d) (hkv:z1y d kv=true) (hes:∀e∈es,z1y d e.1=true) (hzv:((P.info? et).bind (·.zero))=some z) :
 (z1z kv es=none/\∀w:World,w.heap[b]?=some (.map r ck)->(Instr.lookup t (.map (some b)) kv commaOk).run P w=.ok (if commaOk then .tuple #[z,.bool false]else z) w) ∨
 ∃(j:Nat)(m:MapEntry)(p:PV),r[j]?=some m/\es[j]?=some (kv,p)/\z1z kv es=some p/\∀w:World,w.heap[b]?=some (.map r ck)->(Instr.lookup t (.map (some b)) kv commaOk).run P w=.ok (if commaOk then .tuple #[m.val,.bool true]else m.val) w:=by
 have hz:∀w,(zeroValue et).run P w=.ok z w:=by
  intro w
  cases hq:P.info? et with
  |none=>simp[hq]at hzv
  |some i=>simp[hq]at hzv;simp[zeroValue,typeInfo,hq,hzv]
 rcases zy6 hkv es r.toList 0 (by simpa using hl) hes (λj a p hj=>by obtain⟨m,hm,e⟩:=h5 j a p hj;exact⟨m,by simpa using hm,e⟩)with⟨h1,h2,h7,h9⟩|⟨j,m,q,h1,h2,h3',h4',h5',h7⟩
 ·refine .inl ⟨h2,λw hb=>?_⟩;have hkey:=E3 (w:=w) hd (z7g hkv) r.isEmpty 9999;have hfind:=Dr (P:=P) (w:=w) (kt:=kt) hd h1;simp only[Instr.lookup,Ai,B9 hu,Co hb,Ch,hkey,hfind,hz,Aw]
 ·refine .inr ⟨j,m,q,by simpa using h2,h4',h5',λw hb=>?_⟩;have hkey:=E3 (w:=w) hd (z7g hkv) r.isEmpty 9999;have hfind:=Dr (P:=P) (w:=w) (kt:=kt) hd h1;simp only[Instr.lookup,Ai,B9 hu,Co hb,Ch,hkey,hfind,hz,Aw]
theorem j2h{t kt et:TypeId}{d:TypeDesc}{x y:Operand}{k:Nat}{es:List (Value×PV)}{kv z:Value}(ho:o.op=.lookup t x y false)(hx:fr.ev x=some (.mp k))(hy:fr.ev y=some (.pv (.val kv)))(hk:look hp k=some (.map es))
 (hu:P.underlying t=some (.map kt et)) (hd:P.underlying kt=some d) (hkv:z1y d kv=true) (hes:∀e∈es,z1y d e.1=true) (hzv:((P.info? et).bind (·.zero))=some z) (hR:R1 k):OkV P c R1 o fr (look hp) (.pv ((z1z kv es).getD (.val z))):=by
 intro ρ w a h;obtain⟨b,cc,r,ck,u,hv,hρ,h3,h4,h5,h6⟩:=h.mapAt hx hk;have h3':∀w2,SameFor c.F R1 ρ w w2->w2.heap[b]?=some (.map r ck):=λw2 h2=>(h2 b (h.rel.lt hρ) (.inr ⟨k,cc,hR,hρ⟩)).trans h3;rcases y4b (b:=b) (ck:=ck) false h4 (λj a p hj=>by obtain⟨m,h1,h2,_⟩:=h5 j a p hj;exact⟨m,h1,h2⟩) hu hd hkv hes hzv with⟨h1,h2⟩|⟨j,m,p,h1,h2,h7,h8⟩
 ·refine⟨z,λw2 hw2=>?_,by rw[h1];exact z3c _⟩;simp[execOp,ho,hv,z0v h hy,Ai,h2 w2 (h3' w2 hw2)]
 ·obtain⟨m',hm',_,e2⟩:=h5 j kv p h2;rw[h1]at hm';cases hm'
  refine⟨m.val,λw2 hw2=>by simp[execOp,ho,hv,z0v h hy,Ai,h8 w2 (h3' w2 hw2)],?_⟩;rw[h7,e2];exact .pv _ _ (h6 j kv p h2)
theorem yv4{t kt et:TypeId}{d:TypeDesc}{x y:Operand}{k:Nat}{es:List (Value×PV)}{kv z:Value}(ho:o.op=.lookup t x y true)(hx:fr.ev x=some (.mp k))(hy:fr.ev y=some (.pv (.val kv)))(hk:look hp k=some (.map es))
 (hu:P.underlying t=some (.map kt et)) (hd:P.underlying kt=some d) (hkv:z1y d kv=true) (hes:∀e∈es,z1y d e.1=true) (hzv:((P.info? et).bind (·.zero))=some z) (hR:R1 k):OkV P c R1 o fr (look hp) (.tup [.pv ((z1z kv es).getD (.val z)),iBool (z1z kv es).isSome]):=by
 intro ρ w a h;obtain⟨b,cc,r,ck,u,hv,hρ,h3,h4,h5,h6⟩:=h.mapAt hx hk;have h3':∀w2,SameFor c.F R1 ρ w w2->w2.heap[b]?=some (.map r ck):=λw2 h2=>(h2 b (h.rel.lt hρ) (.inr ⟨k,cc,hR,hρ⟩)).trans h3;have two:∀{p:PV}{v:Value}{g:Bool},RepP (owned c.F ρ) w p v->RepI c.F ρ (look hp) w (.tup [.pv p,iBool g]) (.tuple #[v,.bool g]):=λ{p v g} hp=>.tup _ _ (λj=>if j=0 then v else .bool g) rfl (λj x hj=>by
  match j,hj with
  |0,hj=>rfl
  |1,hj=>rfl
  |j+2,hj=>simp at hj) λj x hj=>by
  match j,hj with
  |0,hj=>cases hj;exact .pv _ _ hp
  |1,hj=>cases hj;exact z3c _
  |j+2,hj=>simp at hj
 rcases y4b (b:=b) (ck:=ck) true h4 (λj a p hj=>by obtain⟨m,h1,h2,_⟩:=h5 j a p hj;exact⟨m,h1,h2⟩) hu hd hkv hes hzv with⟨h1,h2⟩|⟨j,m,p,h1,h2,h7,h8⟩
 ·refine⟨.tuple #[z,.bool false],λw2 hw2=>?_,by rw[h1];exact two (.val _)⟩;simp[execOp,ho,hv,z0v h hy,Ai,h2 w2 (h3' w2 hw2)]
 ·obtain⟨m',hm',_,e2⟩:=h5 j kv p h2;rw[h1]at hm';cases hm'
  refine⟨.tuple #[m.val,.bool true],λw2 hw2=>by simp[execOp,ho,hv,z0v h hy,Ai,h8 w2 (h3' w2 hw2)],?_⟩;rw[h7,e2];exact two (h6 j kv p h2)
theorem yv0{t kt et:TypeId}{x:Operand}{k:Nat}{es:List (Value×PV)}(ho:o.op=.call { callee:=.builtin .len,args:=#[x],argTypes:=#[t] })(hx:fr.ev x=some (.mp k))(hk:look hp k=some (.map es))(hu:P.underlying t=some (.map kt et))(hR:R1 k) :
 OkV P c R1 o fr (look hp) (.pv (vInt es.length)):=by
 intro ρ w a h;obtain⟨b,cc,r,ck,u,hv,hρ,h3,h4,h5,h6⟩:=h.mapAt hx hk;refine⟨_,λw2 h2=>?_,z3c _⟩;have h3':=(h2 b (h.rel.lt hρ) (.inr ⟨k,cc,hR,hρ⟩)).trans h3;simp[execOp,ho,hv,resolve,Ai,invoke,builtin,Builtin.len_,B9 hu,goInt,Co h3',h4]
end
section
variable {P:Program} {c:Cx} {R1:Nat->Prop} {o:Oper} {fr:Fr} {hp:Hp}
theorem ok_box1{t:TypeId}{x:Operand}{p:PV}{σ:Heap'}(ho:o.op=.box t x)(hx:fr.ev x=some (.pv p))(h1:p.one=true):Ok P c o fr σ (.pv (.ept [p] 0)) σ:=by
 intro ρ w a K Q h hK;have hr:=h.ev hx;have hone:=RepI.one hr (show(IV.pv p).firm σ from h1);generalize hv:a.eval x=v at hr hone
 cases hr with
 |pv _ _ hr =>
  have hcells:v.cells = #[v]:=by cases v<;>first|rfl|cases hone
  have hrun:(execOp a.eval o).run P w=.ok (.value (.pointer (some ⟨w.heap.size,0,none⟩))) (w.alloc (.cells #[v] t)):=by
   have hn:(newVar t v).run P w=.ok ⟨w.heap.size,0,none⟩ (w.alloc (.cells v.cells t)):=rfl;rw[hcells]at hn;simp only[execOp,ho,hv,Instr.box,Ai,hn,Aw];rfl
  unfold Oper.wp;rw[hrun];obtain⟨h3,keep⟩:=h.push (.cells #[v] t);refine hK ρ _ _ h3 (.pv _ _ (.ept [p] 0 w.heap.size 0 (λ_=>v) ⟨h.fresh,by simp⟩ (λj z hj=>?_) λj z hj=>?_))
  ·have h0:j=0:=by have:=(A7.1 hj).1;simp at this;exact this
   subst h0;rw[z4t (z31 w _)];rfl
  ·have h0:j=0:=by have:=(A7.1 hj).1;simp at this;exact this
   subst h0;simp only[D5,Cl]at hj;subst hj;exact keep _ _ hr
theorem yu7{t:TypeId}{x:Operand}{k:Nat}{z:IV}(ho:o.op=.box t x)(hx:fr.ev x=some z)(hz:z.firm (look hp))(hσ:look hp k=none)(hc:c.σ k=none)(hfr:nmFr k fr=false)(hhp:nmHp k hp=false)(hcs:nm k z=false) :
 Ok P c o fr (look hp) (.ptr k 0) (look ((k,some (.box [z]))::hp)):=by
 intro ρ w a K Q h hK;have hr:=h.ev hx;have hone:=RepI.one hr hz;generalize hv:a.eval x=v at hr hone;have hcells:v.cells = #[v]:=by cases v<;>first|rfl|cases hone
 have hrun:(execOp a.eval o).run P w=.ok (.value (.pointer (some ⟨w.heap.size,0,none⟩))) (w.alloc (.cells #[v] t)):=by
  have hn:(newVar t v).run P w=.ok ⟨w.heap.size,0,none⟩ (w.alloc (.cells v.cells t)):=rfl;rw[hcells]at hn;simp only[execOp,ho,hv,Instr.box,Ai,hn,Aw];rfl
 unfold Oper.wp;rw[hrun];refine hK (z18 ρ k (some (w.heap.size,1))) _ _ (h.alloc hσ hc hfr hhp 1 _ _ λkeep _=>?_) (.ptr _ _ _ λcs' _=>⟨w.heap.size,1,z09,rfl⟩);refine .box _ t #[v] (λ_=>v) (z31 w _) (Ag _) (λj x hj=>?_) λj x hj=>?_
 ·have h0:j=0:=by have:=(A7.1 hj).1;simp at this;exact this
  subst h0;rfl
 ·have h0:j=0:=by have:=(A7.1 hj).1;simp at this;exact this
  subst h0;simp only[D5,Cl]at hj;subst hj;exact keep _ _ hr hcs
theorem y8j{t e:TypeId}{x y:Operand}{k off n s i:Nat}{m:Int}{cs:List IV}{kk:IntKind}(ho:o.op=.indexAddr t x y)(hx:fr.ev x=some (.ptr k off))(hy:fr.ev y=some (.pv (.val (.int kk m))))(hk:look hp k=some (.box cs))
 (hu:P.underlying t=some (.array n e)) (hs:(P.info? e).map (·.size)=some s) (hm:m=i) (hi:i<n):OkV P c R1 o fr (look hp) (.ptr k (off+i*s)):=by
 subst hm;intro ρ w a h;obtain⟨b,cc,e',r,u,hv,hρ,h3,h4,h5,h6⟩:=h.box hx hk;refine⟨.pointer (some ⟨b,off+i*s,none⟩),λw2 _=>?_,.ptr _ _ _ λcs' _=>⟨b,cc,hρ,rfl⟩⟩;have hs':=z1a hs w2;have h0:(0:Int)<=i/\(i:Int)<n:=by omega
 simp[execOp,ho,hv,z0v h hy,Instr.indexAt,Ai,asIntOf,B9 hu,Instr.sureAddr,h0,hi,hs',Addr.add]
theorem y8f{t e:TypeId}{n s:Nat}{parts:Array (Nat×Operand)}{xs:List (Nat×IV)}{z:Value}{out:List IV}{σ:Heap'}(ho:o.op=.build t parts)(hx:z4u fr parts.toList=some xs)
 (hz:((P.info? t).bind (·.zero))=some z) (hu:P.underlying t=some (.array n e)) (hs:(P.info? e).map (·.size)=some s) (hf:z6o (λi=>some (i*s,s)) (z74 z) xs=some out) (hfirm:z6p σ xs):OkV P c R1 o fr σ (.agg out):=by
 intro ρ w a h;have hzv:∀w,(zeroValue t).run P w=.ok z w:=λw=>by
  cases hq:P.info? t with
  |none=>simp[hq]at hz
  |some i=>simp[hq]at hz;simp[zeroValue,typeInfo,hq,hz]
 obtain⟨hl,hv⟩:=z7o h hx;obtain⟨vs,h1,h2⟩:=zl1 (yb3 c.F ρ σ w z) hl (λj i x hj=>by
  obtain⟨v,h3,h4⟩:=hv j i x hj;exact⟨v,h3,h4,hfirm _ (Af hj)⟩) hf
 have hparts:(parts.map λ(i,x)=>(i,a.eval x)).toList=parts.toList.map λp=>(p.1,a.eval p.2):=by simp
 refine⟨.agg vs,λw2 _=>?_,.agg _ _ (λj=>vs.getD j undef) h2.1 (λj x hj=>?_) λj x hj=>?_⟩
 ·have hso:=z1a hs w2;simp only[execOp,ho,Instr.build,Ai,hzv,B9 hu,hso,Aw,hparts,h1];rfl
 ·obtain⟨v,h3,_⟩:=h2.2 j x hj;simp[h3,B0]
 ·obtain⟨v,h3,h4⟩:=h2.2 j x hj;simp only[B0,h3,Cj];exact h4
end
section
variable {P:Program} {c:Cx} {R1:Nat->Prop} {o:Oper} {fr:Fr} {hp:Hp}
def ResC(P:Program)(fr:Fr)(σ:Heap')(a:Tmp)(t:TypeId)(x:IV):Prop:=∀(c:Cx)(o:Oper),o.op=.load t (.tmp a)->OkV P c (λ_=>True) o fr σ x
theorem y6a{ρ:Loc}{σ:Heap'}{w:World}{a:Act}{q:Tmp}{t:TypeId}{x:IV}(h:All c ρ σ w fr a)(hr:ResC P fr σ q t x):∃v ad,(asAddr ((a.tmps[q]?).getD undef)).run P w=.ok ad w/\(loadVar t ad).run P w=.ok v w/\RepI c.F ρ σ w x v:=by
 obtain⟨v,h1,h2⟩:=hr c { (default:Oper)with op:=.load t (.tmp q) } rfl ρ w a h;have h3:=h1 w (SameFor.refl _ _ _ _);simp only[execOp,Instr.loadAt,Ai]at h3;have hev:a.eval (.tmp q)=(a.tmps[q]?).getD undef:=by simp[Act.eval]
 rw[hev]at h3;generalize(a.tmps[q]?).getD undef=p at h3⊢
 cases p with
 |pointer ad =>
  cases ad with
  |none=>simp[Instr.sureAddr]at h3
  |some ad =>
   refine⟨v,ad,rfl,?_,h2⟩;simp only[Instr.sureAddr,Ai,Ch,Aw]at h3;generalize(loadVar t ad).run P w=res at h3⊢
   cases res with
   |ok v' w'=>simpa[Result.andThen]using h3
   |_=>simp[Result.andThen]at h3
 |_=>simp[Instr.sureAddr]at h3
theorem yu8{t:TypeId}{x:Operand}{k:Nat}{ps:List PV}(ho:o.op=.box t x)(hx:fr.ev x=some (.pv (.agg ps)))(hσ:look hp k=none)(hc:c.σ k=none)(hfr:nmFr k fr=false)(hhp:nmHp k hp=false) :
 Ok P c o fr (look hp) (.ptr k 0) (look ((k,some (.box (ps.map .pv)))::hp)):=by
 intro ρ w a K Q h hK;have hr:=h.ev hx;generalize hv:a.eval x=v at hr
 cases hr with
 |pv _ _ hr =>
  cases hr with
  |agg _ vs u hl hvu hr =>
   have hrun:(execOp a.eval o).run P w=.ok (.value (.pointer (some ⟨w.heap.size,0,none⟩))) (w.alloc (.cells vs t)):=by
    have hn:(newVar t (.agg vs)).run P w=.ok ⟨w.heap.size,0,none⟩ (w.alloc (.cells vs t)):=rfl;simp only[execOp,ho,hv,Instr.box,Ai,hn,Aw];rfl
   unfold Oper.wp;rw[hrun];refine hK (z18 ρ k (some (w.heap.size,1))) _ _ (h.alloc hσ hc hfr hhp 1 _ _ λkeep keepP=>?_) (.ptr _ _ _ λcs' _=>⟨w.heap.size,1,z09,rfl⟩);refine .box _ t vs u (z31 w _) (by simp[hl]) (λj x hj=>?_) λj x hj=>?_
   ·rw[Bc]at hj;obtain⟨p,hp,rfl⟩:=A8.1 hj;exact hvu j p hp
   ·rw[Bc]at hj;obtain⟨p,hp,rfl⟩:=A8.1 hj;exact .pv _ _ (keepP _ _ (hr j p hp))
theorem y60{t:TypeId}{x:Operand}{f:Nat}{ps:List PV}{p:PV}{fs:Array Field}{fd:Field}{d:TypeDesc}{σ:Heap'}(ho:o.op=.field t x f)(hx:fr.ev x=some (.pv (.agg ps)))
 (hu:P.underlying t=some (.struct fs)) (hf:fs[f]?=some fd) (hd:P.underlying fd.type=some d) (hrow:d.isRow=false) (hp:ps[fd.offset]?=some p):OkV P c R1 o fr σ (.pv p):=by
 intro ρ w a h;have hr:=h.ev hx;generalize hv:a.eval x=v at hr
 cases hr with
 |pv _ _ hr =>
  cases hr with
  |agg _ vs u hl hvu hr =>
   refine⟨u fd.offset,λw2 _=>?_,.pv _ _ (hr _ _ hp)⟩;simp[execOp,ho,hv,Instr.field,Ai,B9 hu,hf,part,asAgg,z5x hd,hrow,hvu _ _ hp]
end
end Go.Proofs.YtjlaalpfpecikaaGreatDoor
