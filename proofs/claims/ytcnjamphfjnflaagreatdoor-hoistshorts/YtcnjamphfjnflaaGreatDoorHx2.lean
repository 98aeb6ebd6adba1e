/- PART 2 of 8 of a proof: see the last part. -/
import Derived.Test.YtcnjamphfjnflaaGreatDoorHx1
set_option maxRecDepth 20000
set_option maxHeartbeats 8000000
set_option linter.unusedSimpArgs false
set_option linter.unusedVariables false
set_option linter.unusedSectionVars false
namespace Go.Proofs.YtcnjamphfjnflaaGreatDoor
open Go
section
variable {P:Program} {c:Cx} {R1:Nat->Prop} {o:Oper} {fr:Fr} {hp:Hp} {σ:Heap'} {Q:Exit->Fr->Heap'->Prop}
theorem RepP.keepIt {own:Nat->Prop} {w w':World} {b0:Nat} {p:PV} {v:Value} (h:RepP own w p v) (hs:w.heap.size<=w'.heap.size) (h0:∀ off sp,w.cell? ⟨b0,off,sp⟩=none)
 (hk:∀ b,b≠b0->w'.heap[b]? = w.heap[b]?):RepP own w' p v:=by
 have key:∀ (b off:Nat) (x:Value),w.cell? ⟨b,off,none⟩=some x->w'.cell? ⟨b,off,none⟩=some x:=by
  intro b off x hx
  by_cases e:b=b0
  ·subst e;rw [h0] at hx;cases hx
  ·rw [<- hx];exact Df (a:=⟨b,off,none⟩) (hk b e)
 induction h with
 | val v=>exact .val v
 | seq els a cap b off u ha hb hl hm hc _ ih=>exact .seq els a cap b off u ha (λhne=>⟨(hb hne).1,Ba (hb hne).2 hs⟩) hl hm (λi el hi j c hj=>key _ _ _ (hc i el hi j c hj)) ih
 | agg cs vs u hl hv _ ih=>exact .agg cs vs u hl hv ih
 | ept cs off b o u hb hc _ ih=>exact .ept cs off b o u ⟨hb.1,Ba hb.2 hs⟩ (λj c hj=>key _ _ _ (hc j c hj)) ih
theorem RepI.mapP {F:Nat->Prop} {ρ:Loc} {w w':World} {x:IV} {v:Value} (hk:∀ p v,RepP (owned F ρ) w p v->RepP (owned F ρ) w' p v) (h:RepI F ρ σ w x v):RepI F ρ σ w' x v:=by
 induction h with
 | pv p v h=>exact .pv p v (hk _ _ h)
 | ptr k off v h=>exact .ptr k off v h
 | sl k len v h=>exact .sl k len v h
 | rpt k len off v h=>exact .rpt k len off v h
 | sp k n len v h=>exact .sp k n len v h
 | bs k n v h=>exact .bs k n v h
 | mp k v h=>exact .mp k v h
 | tnil k T v h=>exact .tnil k T v h
 | agg cs vs u hl hv _ ih=>exact .agg cs vs u hl hv ih
 | tup cs vs u hl hv _ ih=>exact .tup cs vs u hl hv ih
 | fn f xs ys vs ws u t hl hv _ hl' hv' _ ih ih'=>exact .fn f xs ys vs ws u t hl hv ih hl' hv' ih'
theorem RepO.mapP {F:Nat->Prop} {ρ:Loc} {w w':World} {b cc:Nat} {o:HO} (hb:w'.heap[b]? = w.heap[b]?) (hk:∀ p v,RepP (owned F ρ) w p v->RepP (owned F ρ) w' p v) (h:RepO F ρ σ w b cc o):RepO F ρ σ w' b cc o:=by
 cases h with
 | box cs e a u h hl hv hr=>exact .box cs e a u (hb.trans h) hl hv λj x hj=>(hr j x hj).mapP hk
 | row s els a u h hs hl hm hw hv hr=>exact .row s els a u (hb.trans h) hs hl hm hw hv λi el hi j x hj=>hk _ _ (hr i el hi j x hj)
 | map es a t u h hl hv hr=>exact .map es a t u (hb.trans h) hl hv λi k p hi=>hk _ _ (hr i k p hi)
theorem zr2 {w:World} {b0:Nat} {s:ByteArray} {k:Nat} (h:w.heap[b0]? = some (.stringIter s k)):∀ off sp,w.cell? ⟨b0,off,sp⟩=none:=by
 intro off sp
 simp [World.cell?,h]
theorem All.iterSet {ρ:Loc} {w:World} {a:Act} {b0 k k':Nat} {s:ByteArray} (h:All c ρ σ w fr a) (hit:w.heap[b0]? = some (.stringIter s k)) (hge:c.w.heap.size<=b0) (hun:∀ j cc,ρ j≠some (b0,cc)) :
 All c ρ σ { w with heap:=w.heap.setIfInBounds b0 (.stringIter s k') } fr a:=by
 have hlt:b0<w.heap.size:=(Cb.1 hit).1
 have hoth:∀ b,b≠b0->(w.heap.setIfInBounds b0 (Obj.stringIter s k'))[b]? = w.heap[b]?:=λb hb=>by simp [C6 hb]
 have hP:∀ p v,RepP (owned c.F ρ) w p v->RepP (owned c.F ρ) { w with heap:=w.heap.setIfInBounds b0 (.stringIter s k') } p v:=λp v hp=>hp.keepIt sI0 (zr2 hit) hoth
 refine ⟨⟨h.rel.inj,h.rel.apart,λb hb=>by simpa using h.rel.old b hb,λj b cc hj=>?_,h.rel.real⟩,λt x hx=>?_,?_,h.df,h.sz,h.kk⟩
 ·obtain ⟨o,h1,h2⟩:=h.rel.obj j b cc hj
  exact ⟨o,h1,h2.mapP (hoth b λe=>hun j cc (e ▸ hj)) hP⟩
 ·obtain ⟨v,hv,hr⟩:=h.fr t x hx
  exact ⟨v,hv,hr.mapP hP⟩
 ·have t:=h.tr
  exact { t with
   size:=by simpa using t.size
   blk:=λb hb hall=>(hoth b oM0).trans (t.blk b hb hall) }
theorem All.rebase {ρ:Loc} {w:World} {a:Act} (h:All c ρ σ w fr a):All ⟨c.F,c.R,ρ,σ,w,c.n⟩ ρ σ w fr a:=⟨h.rel,h.fr,.refl _ _ _ _ _,h.df,h.sz,h.kept⟩
theorem All.unbase {ρ ρ':Loc} {σ':Heap'} {w w':World} {fr':Fr} {a a':Act} (h:All c ρ σ w fr a) (h':All ⟨c.F,c.R,ρ,σ,w,c.n⟩ ρ' σ' w' fr' a') (hc:∀ k,σ k=none->c.σ k=none):All c ρ' σ' w' fr' a' :=
 ⟨h'.rel,h'.fr,h.tr.trans h'.tr (λ_ h=>h) (λk h1 _=>hc k h1),h'.df,h'.sz,h.kk⟩
abbrev itv (b0:Nat):IV:=.pv (.val (.pointer (some ⟨b0,0,none⟩)))
theorem yn0 (s:ByteArray) (i:Nat):1<=(Utf8.decode s i).2:=by
 unfold Utf8.decode
 simp only
 repeat' split
 all_goals simp
def itPos (w:World) (b0:Nat):Nat:=match w.heap[b0]? with
 | some (.stringIter _ k)=>k
 | _=>0
theorem Sub.cons {fr':Fr} {d:Nat} {x:IV} (h:Sub σ fr fr'):Sub σ ((d,x)::fr) ((d,x)::fr'):=by
 intro t y hy
 simp only [Fr.get] at hy ⊢
 cases hb:Nat.beq d t with
 | true=>rw [hb] at hy;cases hy;exact ⟨_,rfl,λ_ _ _ _ h=>h⟩
 | false=>rw [hb] at hy;exact h t y hy
theorem Tr.strRange {id1 i2 bid:Nat} {ops1 ops2:Array Oper} {rest:Code} {m g nx ex:Oper} {d0 d1 e1 e2:Nat} {x0:Operand} {ty:TypeId} {s:ByteArray}
 (h1:ops1.toList=[m,g]) (hmo:m.op = .move x0) (hmd:m.dst=some d0) (hmg:m.guard=none) (hgo:g.op = .range ty (.tmp d0)) (hgd:g.dst=some d1) (hgg:g.guard=none)
 (hx0:fr.ev x0=some (iStr s)) (hty:P.underlying ty=some .string)
 (h2:ops2.toList=[nx,ex]) (hno:nx.op = .next (.tmp d1) true) (hnd:nx.dst=some e1) (hng:nx.guard=none) (heo:ex.op = .extract (.tmp e1) 0) (hed:ex.dst=some e2) (heg:ex.guard=none)
 (hb0:Nat.blt d0 c.n=true) (hb1:Nat.blt d1 c.n=true) (hb2:Nat.blt e1 c.n=true) (hb3:Nat.blt e2 c.n=true)
 (hcσ:∀ k,σ k=none->c.σ k=none)
 (I:Nat->Fr->Prop) (h0:∃ fr0,Sub σ ((d0,iStr s)::fr) fr0/\I 0 fr0)
 (hdone:∀ b0 k fr',s.size<=k->I k fr'->Q .normal ((e2,iBool false)::(e1,.tup [iBool false])::(d1,itv b0)::fr') σ)
 (round:∀ (ρ2:Loc) (w2:World) (b0 k:Nat) (fr':Fr),k<s.size->I k fr' ->
  Tr P ⟨c.F,c.R,ρ2,σ,w2,c.n⟩ rest ((e2,iBool true)::(e1,.tup [iBool true,iInt k,.pv (.val (.int .i32 (Utf8.decode s k).1))])::(d1,itv b0)::fr') σ (λe fr1 σ1=>match e with
   | .normal=>σ1 = σ /\ ∃ fr'',Sub σ fr1 ((d1,itv b0)::fr'')/\I (k+(Utf8.decode s k).2) fr''
   | .exit _=>False
   | e=>Q e fr1 σ1)) :
 Tr P c (.seq (.region id1 ops1 false) (.block bid (.loop (.seq (.region i2 ops2 false) (.seq (.cond (.tmp e2) .skip (.exit bid)) rest))))) fr σ Q:=by
 obtain ⟨fr0,hs0,hI0⟩:=h0
 intro ρ w a ha
 refine wp_seq (G5 ?_)
 rw [h1]
 refine Dw hmg λK hK=>?_
 obtain ⟨v1,hr1,hv1⟩:=(z11 (R1:=λ_=>True) hmo hx0) ρ w a ha
 unfold Oper.wp
 rw [hr1 w (.refl _ _ _ _),Cy]
 refine hK _ _ ?_
 clear hK K
 have ha2:All c ρ σ w ((d0,iStr s)::fr) (a.put m.dst v1):=by
  have:=ha.put (d:=m.dst) hv1 (by rw [hmd];intro t ht;cases ht;simpa using hb0)
  rwa [hmd] at this ⊢
 generalize a.put m.dst v1=a2 at ha2 ⊢
 refine Dw hgg λK2 hK2=>?_
 have hevs:a2.eval (.tmp d0) = .string s:=z0o ha2 (show Fr.ev ((d0,iStr s)::fr) (.tmp d0)=_ by simp [Fr.ev,Fr.get])
 have hrun:(execOp a2.eval g).run P w = .ok (.value (.pointer (some ⟨w.heap.size,0,none⟩))) (w.iter s 0):=by
  simp [execOp,hgo,hevs,Ad,run_range_string w ty s hty]
 unfold Oper.wp
 rw [hrun,Cy]
 refine hK2 _ _ ?_
 obtain ⟨ha3,_⟩:=ha2.push (.stringIter s 0)
 have hfresh:=ha2.fresh
 have ha4:All c ρ σ (w.iter s 0) ((d1,itv w.heap.size)::(d0,iStr s)::fr) (a2.put g.dst (.pointer (some ⟨w.heap.size,0,none⟩))):=by
  have:=ha3.put (d:=g.dst) (z38 (.pointer (some ⟨w.heap.size,0,none⟩))) (by rw [hgd];intro t ht;cases ht;simpa using hb1)
  rwa [hgd] at this ⊢
 have hge:c.w.heap.size<=w.heap.size:=ha2.tr.size
 generalize hb:w.heap.size=b0 at *
 generalize a2.put g.dst (.pointer (some ⟨b0,0,none⟩))=a4 at ha4 ⊢
 show (Code.block _ _).wp P _ a4 (w.iter s 0)
 refine wp_block ?_
 refine wp_loop (λa' w'=>∃ k ρ' fr',All c ρ' σ w' ((d1,itv b0)::fr') a'/\I k fr'/\w'.heap[b0]? = some (.stringIter s k)/\∀ j cc,ρ' j≠some (b0,cc)) (λ_ w'=>s.size - itPos w' b0) ⟨0,ρ,fr0,ha4.sub (hs0.cons),hI0,by rw [<- hb];exact World.iter_heap w s 0,λj cc hj=>by first | exact hfresh (.inr ⟨j,cc,hj⟩) | exact hfresh (by rw [hb];exact .inr ⟨j,cc,hj⟩)⟩ ?_
 rintro a5 w5 ⟨k,ρ5,fr',ha5,hI,hit,hun⟩
 refine wp_seq (G5 ?_)
 rw [h2]
 have hevp:a5.eval (.tmp d1) = .pointer (some ⟨b0,0,none⟩):=z0o ha5 (show Fr.ev ((d1,itv b0)::fr') (.tmp d1)=_ by simp [Fr.ev,Fr.get])
 have hpos:itPos w5 b0=k:=by simp [itPos,hit]
 have hlt0:b0<w5.heap.size:=(Cb.1 hit).1
 by_cases hk:k<s.size
 ·have hrun5:(execOp a5.eval nx).run P w5 = .ok (.value (.tuple #[.bool true,.int .i64 k,.int .i32 (Utf8.decode s k).1])) { w5 with heap:=w5.heap.setIfInBounds b0 (.stringIter s (k+(Utf8.decode s k).2)) }:=by
   simp [execOp,hno,hevp,Instr.next,getObj,setObj,Ad,Sem.run,hit,hk,goInt,Result.andThen]
  refine Dw hng λK3 hK3=>?_
  unfold Oper.wp
  rw [hrun5,Cy]
  refine hK3 _ _ ?_
  have ha6:=ha5.iterSet (k':=k+(Utf8.decode s k).2) hit (by rw [<- hb] at hge ⊢;exact hge) hun
  have htup:RepI c.F ρ5 σ { w5 with heap:=w5.heap.setIfInBounds b0 (.stringIter s (k+(Utf8.decode s k).2)) } (.tup [iBool true,iInt k,.pv (.val (.int .i32 (Utf8.decode s k).1))]) (.tuple #[.bool true,.int .i64 k,.int .i32 (Utf8.decode s k).1]):=y1t (z38 _) (z38 _) (z38 _)
  have ha7:All c ρ5 σ { w5 with heap:=w5.heap.setIfInBounds b0 (.stringIter s (k+(Utf8.decode s k).2)) } ((e1,.tup [iBool true,iInt k,.pv (.val (.int .i32 (Utf8.decode s k).1))])::(d1,itv b0)::fr') (a5.put nx.dst (.tuple #[.bool true,.int .i64 k,.int .i32 (Utf8.decode s k).1])):=by
   have:=ha6.put (d:=nx.dst) htup (by rw [hnd];intro t ht;cases ht;simpa using hb2)
   rwa [hnd] at this ⊢
  generalize a5.put nx.dst (.tuple #[.bool true,.int .i64 k,.int .i32 (Utf8.decode s k).1])=a7 at ha7 ⊢
  generalize hw7:({ w5 with heap:=w5.heap.setIfInBounds b0 (.stringIter s (k+(Utf8.decode s k).2)) }:World)=w7 at ha7 ⊢
  have hit7:w7.heap[b0]? = some (.stringIter s (k+(Utf8.decode s k).2)):=by rw [<- hw7];simp [hlt0]
  refine Dw heg λK4 hK4=>?_
  obtain ⟨v8,hr8,hv8⟩:=(z5w (R1:=λ_=>True) (vs:=[iBool true,iInt k,.pv (.val (.int .i32 (Utf8.decode s k).1))]) (z:=iBool true) heo (show Fr.ev ((e1,_)::_) (.tmp e1)=_ by simp [Fr.ev,Fr.get]) rfl) ρ5 w7 a7 ha7
  unfold Oper.wp
  rw [hr8 w7 (.refl _ _ _ _),Cy]
  refine hK4 _ _ ?_
  have ha8:All c ρ5 σ w7 ((e2,iBool true)::(e1,.tup [iBool true,iInt k,.pv (.val (.int .i32 (Utf8.decode s k).1))])::(d1,itv b0)::fr') (a7.put ex.dst v8):=by
   have:=ha7.put (d:=ex.dst) hv8 (by rw [hed];intro t ht;cases ht;simpa using hb3)
   rwa [hed] at this ⊢
  generalize a7.put ex.dst v8=a8 at ha8 ⊢
  show (Code.seq _ _).wp P _ a8 w7
  refine wp_seq ?_
  refine wp_cond (t:=true) (z0o ha8 (show Fr.ev ((e2,iBool true)::_) (.tmp e2)=_ by simp [Fr.ev,Fr.get])) ?_
  rw [if_pos rfl]
  refine wp_skip ?_
  show rest.wp P _ a8 w7
  refine Gb (round ρ5 w7 b0 k fr' hk hI ρ5 w7 a8 ha8.rebase) ?_
  rintro e a9 w9 ⟨ρ9,σ9,fr9,ha9,hq⟩
  have hlt7:b0<w7.heap.size:=(Cb.1 hit7).1
  cases e with
  | normal =>
   obtain ⟨rfl,fr2,hsub,hI2⟩:=hq
   have hit9:w9.heap[b0]? = some (.stringIter s (k+(Utf8.decode s k).2)):=(ha9.tr.blk b0 hlt7 λj cc hj=>absurd hj (hun j cc)).trans hit7
   refine ⟨⟨_,ρ9,fr2,(ha8.unbase ha9 hcσ).sub hsub,hI2,hit9,λj cc hj=>hun j cc (ha9.tr.own j b0 cc hj hlt7)⟩,?_⟩
   have:=yn0 s k
   rw [hpos]
   simp only [itPos,hit9]
   omega
  | exit id=>exact hq.elim
  | _=>exact ⟨ρ9,σ9,fr9,ha8.unbase ha9 hcσ,hq⟩
 ·have hrun5:(execOp a5.eval nx).run P w5 = .ok (.value (.tuple #[.bool false])) w5:=by
   simp [execOp,hno,hevp,Instr.next,getObj,Ad,Sem.run,hit,hk,Result.andThen]
  refine Dw hng λK3 hK3=>?_
  unfold Oper.wp
  rw [hrun5,Cy]
  refine hK3 _ _ ?_
  have htup:RepI c.F ρ5 σ w5 (.tup [iBool false]) (.tuple #[.bool false]):=.tup _ _ (λ_=>.bool false) rfl (λj x hj=>by
   match j,hj with
   | 0,_=>rfl
   | j+1,hj=>simp at hj) λj x hj=>by
   match j,hj with
   | 0,hj=>cases hj;exact z38 _
   | j+1,hj=>simp at hj
  have ha7:All c ρ5 σ w5 ((e1,.tup [iBool false])::(d1,itv b0)::fr') (a5.put nx.dst (.tuple #[.bool false])):=by
   have:=ha5.put (d:=nx.dst) htup (by rw [hnd];intro t ht;cases ht;simpa using hb2)
   rwa [hnd] at this ⊢
  generalize a5.put nx.dst (.tuple #[.bool false])=a7 at ha7 ⊢
  refine Dw heg λK4 hK4=>?_
  obtain ⟨v8,hr8,hv8⟩:=(z5w (R1:=λ_=>True) (vs:=[iBool false]) (z:=iBool false) heo (show Fr.ev ((e1,_)::_) (.tmp e1)=_ by simp [Fr.ev,Fr.get]) rfl) ρ5 w5 a7 ha7
  unfold Oper.wp
  rw [hr8 w5 (.refl _ _ _ _),Cy]
  refine hK4 _ _ ?_
  have ha8:All c ρ5 σ w5 ((e2,iBool false)::(e1,.tup [iBool false])::(d1,itv b0)::fr') (a7.put ex.dst v8):=by
   have:=ha7.put (d:=ex.dst) hv8 (by rw [hed];intro t ht;cases ht;simpa using hb3)
   rwa [hed] at this ⊢
  generalize a7.put ex.dst v8=a8 at ha8 ⊢
  show (Code.seq _ _).wp P _ a8 w5
  refine wp_seq ?_
  refine wp_cond (t:=false) (z0o ha8 (show Fr.ev ((e2,iBool false)::_) (.tmp e2)=_ by simp [Fr.ev,Fr.get])) ?_
  rw [if_neg sI0]
  refine wp_exit ?_
  show (if bid=bid then _ else _)
  rw [if_pos rfl]
  exact ⟨ρ5,σ,_,ha8,hdone b0 k fr' oM0 hI⟩
end
section
variable {P:Program} {c:Cx} {R1:Nat->Prop} {o:Oper} {fr:Fr} {hp:Hp} {σ:Heap'} {Q:Exit->Fr->Heap'->Prop}
theorem y0a {t tn:TypeId} {x y:Operand} {k n by_:Nat} {s:RT} {z:Value} {kn:IntKind} (ho:o.op = .call { callee:=.builtin .append,args:=#[x,y],argTypes:=#[t,tn] }) (hx:fr.ev x=some (.pv (.val (.slice none 0 0)))) (hy:fr.ev y=some (iInt n))
 (ht:P.underlying t=some (.slice s.e)) (htn:P.underlying tn=some (.int kn)) (hz:((P.info? s.e).bind (·.zero))=some z) (hi:(P.info? s.e).map (λi=>(i.size,i.bytes))=some (s.n,by_)) (hzs:z.cells.size=s.n) (hs:0<s.n) (h0:0<n) (hm:n<=maxLen) (hb:n*by_<=140737488355328)
 (hσ:look hp k=none) (hc:c.σ k=none) (hfr:nmFr k fr=false) (hhp:nmHp k hp=false) :
 Ok P c o fr (look hp) (.sl k n) (look ((k,some (.row s (List.replicate n (z.cells.toList.map .val))))::hp)):=by
 intro ρ w a K Q h hK
 cases hq:P.info? s.e with
 | none=>simp [hq] at hi
 | some i =>
  have hsz:i.size=s.n:=by simp [hq] at hi;exact hi.1
  have hby:i.bytes=by_:=by simp [hq] at hi;exact hi.2
  have hiz:i.zero=some z:=by simpa [hq] using hz
  simp only [maxLen] at hm
  have hr:=Lib.run_append_nil_zeros (P:=P) w t tn o.type s.e i z .i64 kn ht htn hq hiz n h0 oM0 oM0 (by rw [hby];omega)
  have hge:=grownCap_ge w n 0 s.e
  have hcm:=Fc w n 0 s.e (by simp only [maxLen];omega)
  refine Lib.wp_append_run w x y t tn ho _ _ (z0o h hx) (z0o h hy) _ _ hr ?_
  refine hK (z1m ρ k (some (w.heap.size,grownCap w n 0 s.e))) _ _ (h.drew.alloc hσ hc hfr hhp (grownCap w n 0 s.e) _ _ λ_ _=>?_) (.sl _ _ _ λs' els' h'=>?_)
  ·have hrow:∀ q,q<n*s.n->(Builtin.zeroCells z.cells n++Builtin.zeroCells z.cells (grownCap w n 0 s.e - n))[q]? = some (z.cells[q % s.n]!):=λq hq=>by
    rw [Ds (by rw [G4,hzs];exact hq)]
    simp [Builtin.zeroCells,hzs,hq]
   refine .row s _ _ (λ_ j=>z.cells[j]!) (z2u _ _) ?_ (by simpa using hge) hcm (λel hel=>?_) (λi el hi j x hj=>?_) λi el hi j x hj=>?_
   ·simp only [Array.size_append,G4,hzs,<- D2]
    congr 1;omega
   ·rw [Ci hel];simp [hzs]
   ·have hel:=Ci (Af hi)
    have hin:i<n:=by have:=(A1.1 hi).1;simpa using this
    subst hel
    have hjs:j<s.n:=by have:=(A1.1 hj).1;simp [hzs] at this;exact this
    have hlt:i*s.n+j<n*s.n:=by
     have:(i+1)*s.n<=n*s.n:=C1 _ oM0
     rw [D2] at this;omega
    rw [hrow _ hlt,Ev,Nat.add_mul_mod_self_right,Dz hjs]
   ·have hel:=Ci (Af hi)
    subst hel
    simp only [B7,A3,Bh] at hj
    obtain ⟨v,hv,rfl⟩:=hj
    have:z.cells[j]! = v:=by simp [getElem!_def,hv]
    rw [this];exact .val v
  ·rw [z2l] at h';cases h'
   exact ⟨by simp,λ_=>.inl ⟨w.heap.size,_,z0b,rfl⟩⟩
theorem All.toEmpty {ρ:Loc} {w:World} {a:Act} {k:Nat} {s:RT} {els:List (List PV)} {fr':Fr} (h:All c ρ (look hp) w fr a) (hk:look hp k=some (.row s els)) (hc:c.σ k=none) (hs:Sub (look hp) fr fr') (hfr:nmFr k fr'=false) (hhp:nmHp k hp=false) :
 All c ρ (look ((k,some (.row s []))::hp)) w fr' a:=by
 have h:=h.sub hs
 have hlk:∀ j,j≠k->look ((k,some (.row s []))::hp) j=look hp j:=λj hj=>z3q (C6 hj)
 have hlk':look ((k,some (.row s []))::hp) k=some (.row s []):=z2l
 have hconv:∀ x v,nm k x=false->RepI c.F ρ (look hp) w x v->RepI c.F ρ (look ((k,some (.row s []))::hp)) w x v:=λx v hx hr =>
  hr.conv (λ_ hb=>hb) λhn=>by
   have:=zw6 (hn.imp λj hj=>Br λe=>hj λo ho=>⟨by rw [hlk j e] at ho;exact ho,rfl⟩)
   rw [this] at hx;cases hx
 refine ⟨⟨h.rel.inj,h.rel.apart,h.rel.old,λj b cc hj=>?_,λj o h1 h2=>?_⟩,λt x hx=>?_,?_,h.df,h.sz,h.kk⟩
 ·obtain ⟨o1,h1,h2⟩:=h.rel.obj j b cc hj
  by_cases e:j=k
  ·subst e
   rw [hk] at h1;cases h1
   refine ⟨_,hlk',?_⟩
   cases h2 with
   | row _ _ r u h hs hl hm hw hv hr=>exact .row s [] r u h hs (A8 _) hm (λ_ h=>by simp at h) (λi el hi=>by simp at hi) λi el hi=>by simp at hi
  ·refine ⟨o1,(hlk j e).trans h1,?_⟩
   cases h2 with
   | box cs e' r u h hl hv hr=>exact .box cs e' r u h hl hv λi x hi=>hconv _ _ (z6g (za7 hhp h1) (Af hi)) (hr i x hi)
   | row s' els' r u h hs hl hm hw hv hr=>exact .row s' els' r u h hs hl hm hw hv hr
   | map es r t u h hl hv hr=>exact .map es r t u h hl hv hr
 ·by_cases e:j=k
  ·subst e;rw [hlk'] at h1;cases h1;exact ⟨s,rfl⟩
  ·rw [hlk j e] at h1;exact h.rel.real j o h1 h2
 ·obtain ⟨v,hv,hr⟩:=h.fr t x hx
  exact ⟨v,hv,hconv _ _ (zk1 hfr hx) hr⟩
 ·have t:=h.tr
  refine ⟨t.os,t.tape,t.output,t.size,t.blk,t.own,λj cs cs' e1 e2=>?_,λj cs cs' e1 e2=>?_,λj s1 s2 els els' e1 e2 hl=>?_,λj s1 s2 els els' e1 e2=>?_,λj cs' e2=>?_,λj cs' e2=>?_,λj s1 els' e2=>?_⟩
  all_goals by_cases e:j=k
  ·subst e;rw [hc] at e1;cases e1
  ·rw [hlk j e] at e2;exact t.box j _ _ e1 e2
  ·subst e;rw [hc] at e1;cases e1
  ·rw [hlk j e] at e2;exact t.map j _ _ e1 e2
  ·subst e;rw [hc] at e1;cases e1
  ·rw [hlk j e] at e2;exact t.row j _ _ _ _ e1 e2 hl
  ·subst e;rw [hc] at e1;cases e1
  ·rw [hlk j e] at e2;exact t.grow j _ _ _ _ e1 e2
  ·subst e;exact .inl hc
  ·rw [hlk j e] at e2;exact t.kindB j _ e2
  ·subst e;exact .inl hc
  ·rw [hlk j e] at e2;exact t.kindM j _ e2
  ·subst e;exact .inl hc
  ·rw [hlk j e] at e2;exact t.kindR j _ _ e2
theorem WL.sliceZero {ops:Array Oper} {l:List Oper} {d k n:Nat} {t:TypeId} {x y:Operand} {s:RT} {els:List (List PV)} {fr':Fr} (hg:o.guard=none) (hd:o.dst=some d) (hn:Nat.blt d c.n=true) (ho:o.op = .slice t x none (some y) none) (hx:fr.ev x=some (.sl k n)) (hy:fr.ev y=some (iInt 0))
 (hk:look hp k=some (.row s els)) (hln:els.length=n) (hpos:0<n) (hc:c.σ k=none) (hu:P.underlying t=some (.slice s.e)) (hsz:(P.info? s.e).map (·.size)=some s.n) (hs:Sub (look hp) fr fr') (hfr:nmFr k fr'=false) (hhp:nmHp k hp=false)
 (h:WL P c ops Q l ((d,.sl k 0)::fr') (look ((k,some (.row s []))::hp))):WL P c ops Q (o::l) fr (look hp):=by
 intro ρ w a ha
 refine Dw hg λK hK=>?_
 rcases ha.row hx hk hln with ⟨b,cc,r,u,hv,hρ,h3,h4,hcc,hcm,hwe,hcells,hu'⟩ | ⟨_,_,hnil⟩
 ·have hrun:(execOp a.eval o).run P w = .ok (.value (.slice (some ⟨b,0,none⟩) 0 cc)) w:=by
   have hso:=z10 hsz w
   simp [execOp,ho,hv,z0o ha hy,Instr.sliceAt,Instr.slice,Ad,B5 hu,Instr.sliceBounds,Instr.sliceBound,asIntOf,hso]
   intro _;rfl
  unfold Oper.wp
  rw [hrun,Cy]
  refine hK _ _ (h ρ w _ ?_)
  have h5:=ha.toEmpty hk hc hs hfr hhp
  have:=h5.put (d:=o.dst) (x:=.sl k 0) (v:=.slice (some ⟨b,0,none⟩) 0 cc) (.sl _ _ _ λs1 els1 h1=>by rw [z2l] at h1;cases h1;exact ⟨A8 _,λ_=>.inl ⟨b,cc,hρ,rfl⟩⟩) (by rw [hd];intro t ht;cases ht;simpa using hn)
  rwa [hd] at this ⊢
 ·subst hnil;simp at hln;omega
theorem zp0 {t e:TypeId} {x:Operand} (ho:o.op = .call { callee:=.builtin .cap,args:=#[x],argTypes:=#[t] }) (hx:fr.ev x=some (.pv (.val (.slice none 0 0)))) (hu:P.underlying t=some (.slice e)):OkV P c R1 o fr σ (iInt 0):=by
 intro ρ w a h
 refine ⟨.int .i64 0,λw2 _=>?_,z38 _⟩
 simp [execOp,ho,z0o h hx,resolve,Ad,invoke,builtin,Builtin.cap_,B5 hu,goInt]
theorem y76 {t e:TypeId} {x y:Operand} {n:Nat} (ho:o.op = .slice t x none (some y) none) (hx:fr.ev x=some (.pv (.val (.slice none 0 0)))) (hy:fr.ev y=some (iInt 0)) (hu:P.underlying t=some (.slice e)) (hs:(P.info? e).map (·.size)=some n):OkV P c R1 o fr σ (.pv (.val (.slice none 0 0))):=by
 intro ρ w a h
 refine ⟨.slice none 0 0,λw2 _=>?_,z38 _⟩
 have hso:=z10 hs w2
 simp [execOp,ho,z0o h hx,z0o h hy,Instr.sliceAt,Instr.slice,Ad,B5 hu,Instr.sliceBounds,Instr.sliceBound,asIntOf,hso]
theorem Sub.cons2 {fr':Fr} {d:Nat} {x y:IV} (hx:∀ F ρ w v,RepI F ρ σ w x v->RepI F ρ σ w y v) (h:Sub σ fr fr'):Sub σ ((d,x)::fr) ((d,y)::fr'):=by
 intro t z hz
 simp only [Fr.get] at hz ⊢
 cases hb:Nat.beq d t with
 | true=>rw [hb] at hz;cases hz;exact ⟨_,rfl,hx⟩
 | false=>rw [hb] at hz;exact h t z hz
theorem Sub.rfl':Sub σ fr fr:=λ_ y hy=>⟨y,hy,λ_ _ _ _ h=>h⟩
theorem All.freezeCell {ρ:Loc} {w:World} {a:Act} {k k2 j n:Nat} {s:RT} {els:List (List PV)} {cs:List IV} (h:All c ρ (look hp) w fr a) (hk:look hp k=some (.row s els)) (hn:els.length=n) (hk2:look hp k2=some (.box cs)) (hj:cs[j]? = some (.sl k n)) (hne:k≠k2) :
 All c (z1m ρ k none) (look ((k2,some (.box (cs.set j (.pv (.seq els)))))::(k,none)::hp)) w fr a:=by
 have h':=h.drop (k:=k)
 have hown:∀ b,owned c.F (z1m ρ k none) b->owned c.F ρ b:=λb hb=>by
  rcases hb with hb | ⟨i,cc,hi⟩
  ·exact .inl hb
  ·by_cases e:i=k
   ·subst e;rw [z0b] at hi;cases hi
   ·rw [z40 (C6 e)] at hi;exact .inr ⟨i,cc,hi⟩
 have hlk:∀ i,i≠k2->look ((k2,some (.box (cs.set j (.pv (.seq els)))))::(k,none)::hp) i=look ((k,none)::hp) i:=λi hi=>z3q (C6 hi)
 have hlk2:look ((k2,some (.box (cs.set j (.pv (.seq els)))))::(k,none)::hp) k2=some (.box (cs.set j (.pv (.seq els)))):=z2l
 have hk2':look ((k,none)::hp) k2=some (.box cs):=y9k hne hk2
 have hnew:∀ v,RepI c.F ρ (look hp) w (.sl k n) v->RepP (owned c.F (z1m ρ k none)) w (.seq els) v:=by
  intro v hv
  cases hv with
  | sl _ _ _ hv =>
   obtain ⟨_,h2⟩:=hv s els hk
   rcases h2 hn with ⟨b,cc,hρ,rfl⟩ | ⟨_,hz,rfl⟩
   ·obtain ⟨o1,h3,h4⟩:=h.rel.obj k b cc hρ
    rw [hk] at h3;cases h3
    cases h4 with
    | row _ _ r u h3 hs hl hm hwe hcells hu =>
     rw [<- hn]
     refine .seq els _ cc b 0 u (λ_=>rfl) (λ_=>⟨λho=>?_,h.rel.lt hρ⟩) oM0 hm (λi el hi q x hq=>?_) λi el hi q x hq=>(hu i el hi q x hq).own hown
     ·rcases ho with ho | ⟨i,cc',hi⟩
      ·exact h.rel.apart _ _ _ hρ ho
      ·by_cases e:i=k
       ·subst e;rw [z0b] at hi;cases hi
       ·rw [z40 (C6 e)] at hi;exact e (h.rel.inj _ _ _ _ _ hi hρ)
     ·rw [z59 h3,Bu,hwe el (Af hi)]
      exact hcells i el hi q x hq
   ·have hnil:els=[]:=At oM0
    subst hnil
    exact .seq [] none 0 0 0 (λ_ _=>undef) sI0 sI0 sI0 (by simp [maxLen]) sI0 sI0
 have hconv:∀ x v,RepI c.F (z1m ρ k none) (look ((k,none)::hp)) w x v->RepI c.F (z1m ρ k none) (look ((k2,some (.box (cs.set j (.pv (.seq els)))))::(k,none)::hp)) w x v:=by
  intro x v hx
  induction hx with
  | pv p v hp=>exact .pv p v hp
  | ptr i off v hi =>
   refine .ptr i off v λcs' h2=>?_
   by_cases e:i=k2
   ·subst e;exact hi _ hk2'
   ·rw [hlk i e] at h2;exact hi _ h2
  | sl i len v hi =>
   refine .sl i len v λs' els' h2=>?_
   by_cases e:i=k2
   ·subst e;rw [hlk2] at h2;cases h2
   ·rw [hlk i e] at h2;exact hi _ _ h2
  | sp i n len v hi =>
   refine .sp i n len v λs' els' h2=>?_
   by_cases e:i=k2
   ·subst e;rw [hlk2] at h2;cases h2
   ·rw [hlk i e] at h2;exact hi _ _ h2
  | rpt i len off v hi =>
   refine .rpt i len off v λs' els' h2=>?_
   by_cases e:i=k2
   ·subst e;rw [hlk2] at h2;cases h2
   ·rw [hlk i e] at h2;exact hi _ _ h2
  | bs i n v hi =>
   refine .bs i n v λcs' h2=>?_
   by_cases e:i=k2
   ·subst e;exact hi _ hk2'
   ·rw [hlk i e] at h2;exact hi _ h2
  | mp i v hi =>
   refine .mp i v λes h2=>?_
   by_cases e:i=k2
   ·subst e;rw [hlk2] at h2;cases h2
   ·rw [hlk i e] at h2;exact hi _ h2
  | tnil i T v hi =>
   refine .tnil i T v λcs' h2=>?_
   by_cases e:i=k2
   ·subst e;exact hi _ hk2'
   ·rw [hlk i e] at h2;exact hi _ h2
  | agg cs vs u hl hv _ ih=>exact .agg cs vs u hl hv ih
  | tup cs vs u hl hv _ ih=>exact .tup cs vs u hl hv ih
  | fn f xs ys vs ws u t hl hv _ hl' hv' _ ih ih'=>exact .fn f xs ys vs ws u t hl hv ih hl' hv' ih'
 refine ⟨⟨h'.rel.inj,h'.rel.apart,h'.rel.old,λi b cc hi=>?_,λi o h1 h2=>?_⟩,λt x hx=>?_,?_,h'.df,h'.sz,h.kk⟩
 ·obtain ⟨o1,h1,h2⟩:=h'.rel.obj i b cc hi
  by_cases e:i=k2
  ·subst e
   rw [hk2'] at h1;cases h1
   refine ⟨_,hlk2,?_⟩
   have hρi:ρ i=some (b,cc):=by rwa [z40 hne] at hi
   obtain ⟨o3,h3,h4⟩:=h.rel.obj i b cc hρi
   rw [hk2] at h3;cases h3
   cases h2 with
   | box _ e' r u h5 hl hv hr =>
    cases h4 with
    | box _ e2 r2 u2 h6 hl2 hv2 hr2 =>
     rw [h5] at h6;cases h6
     refine .box _ e' r u h5 (by simpa using hl) (λq x hq=>?_) λq x hq=>?_
     ·by_cases eq:q=j
      ·subst eq
       exact hv q _ hj
      ·rw [Bi (C6 eq)] at hq;exact hv q x hq
     ·by_cases eq:q=j
      ·subst eq
       have hlt:q<cs.length:=(A1.1 hj).1
       rw [Bj hlt] at hq;cases hq
       have e3:u q=u2 q:=by
        have a1:=hv q _ hj;have a2:=hv2 q _ hj
        rw [a1] at a2;exact Bz a2
       rw [e3]
       exact .pv _ _ (hnew _ (hr2 q _ hj))
      ·rw [Bi (C6 eq)] at hq;exact hconv _ _ (hr q x hq)
  ·refine ⟨o1,(hlk i e).trans h1,?_⟩
   cases h2 with
   | box cs' e' r u h hl hv hr=>exact .box cs' e' r u h hl hv λq x hq=>hconv _ _ (hr q x hq)
   | row s' els' r u h hs hl hm hw hv hr=>exact .row s' els' r u h hs hl hm hw hv hr
   | map es r t u h hl hv hr=>exact .map es r t u h hl hv hr
 ·by_cases e:i=k2
  ·subst e
   rw [z40 hne] at h2
   obtain ⟨s',h3⟩:=h.rel.real i _ hk2 h2
   cases h3
  ·rw [hlk i e] at h1;exact h'.rel.real i o h1 h2
 ·obtain ⟨v,hv,hr⟩:=h'.fr t x hx
  exact ⟨v,hv,hconv _ _ hr⟩
 ·have t:=h'.tr
  refine ⟨t.os,t.tape,t.output,t.size,t.blk,t.own,λi a1 a2 e1 e2=>?_,λi a1 a2 e1 e2=>?_,λi s1 s2 a1 a2 e1 e2 hl=>?_,λi s1 s2 a1 a2 e1 e2=>?_,λi a2 e2=>?_,λi a2 e2=>?_,λi s1 a2 e2=>?_⟩
  all_goals by_cases e:i=k2
  ·subst e;exact t.box i _ _ e1 hk2'
  ·rw [hlk i e] at e2;exact t.box i _ _ e1 e2
  ·subst e;rw [hlk2] at e2;cases e2
  ·rw [hlk i e] at e2;exact t.map i _ _ e1 e2
  ·subst e;rw [hlk2] at e2;cases e2
  ·rw [hlk i e] at e2;exact t.row i _ _ _ _ e1 e2 hl
  ·subst e;rw [hlk2] at e2;cases e2
  ·rw [hlk i e] at e2;exact t.grow i _ _ _ _ e1 e2
  ·subst e;exact t.kindB i _ hk2'
  ·rw [hlk i e] at e2;exact t.kindB i _ e2
  ·subst e;rw [hlk2] at e2;cases e2
  ·rw [hlk i e] at e2;exact t.kindM i _ e2
  ·subst e;rw [hlk2] at e2;cases e2
  ·rw [hlk i e] at e2;exact t.kindR i _ _ e2
theorem Tr.freezeCell {x:Code} {k k2 j n:Nat} {s:RT} {els:List (List PV)} {cs:List IV} (hk:look hp k=some (.row s els)) (hn:els.length=n) (hk2:look hp k2=some (.box cs)) (hj:cs[j]? = some (.sl k n)) (hne:k≠k2)
 (h:Tr P c x fr (look ((k2,some (.box (cs.set j (.pv (.seq els)))))::(k,none)::hp)) Q):Tr P c x fr (look hp) Q:=λ_ w a ha=>h _ w a (ha.freezeCell hk hn hk2 hj hne)
theorem SC.sameR {f:FuncId} {args:List IV} {pre post:List (Nat × HO)} {R R':Nat->Prop} {r:IV} (h:SC P f args pre R r post) (hR:∀ k,look (up pre) k≠none->R' k->R k):SC P f args pre R' r post:=by
 intro F ρ w vs hkept hrel hargs
 refine (h F ρ w vs hkept hrel hargs).mono ?_
 rintro e w' ⟨ρ',v,he,hv,hrel',t⟩
 refine ⟨ρ',v,he,hv,hrel',{ t with blk:=λb hb hall=>t.blk b hb λk cc hk=>hR k ?_ (hall k cc hk) }⟩
 obtain ⟨o,ho,_⟩:=hrel.obj k b cc hk
 rw [ho];simp
theorem Tr.growCell {x:Code} {k k2 j:Nat} {cs:List IV} (s:RT) (hk2:look hp k2=some (.box cs)) (hj:cs[j]? = some (.pv (.val (.slice none 0 0)))) (hσ:look hp k=none) (hc:c.σ k=none) (hfr:nmFr k fr=false) (hhp:nmHp k hp=false)
 (h:Tr P c x fr (look ((k2,some (.box (cs.set j (.sl k 0))))::(k,some (.row s []))::hp)) Q):Tr P c x fr (look hp) Q:=by
 intro ρ w a ha
 obtain ⟨hk,h'⟩:=ha.ghost hσ hc hfr hhp s
 refine h ρ w a ?_
 have hne:k≠k2:=λe=>by subst e;rw [hσ] at hk2;cases hk2
 have hk2':look ((k,some (.row s []))::hp) k2=some (.box cs):=y9k hne hk2
 have hlk:∀ i,i≠k2->look ((k2,some (.box (cs.set j (.sl k 0))))::(k,some (.row s []))::hp) i=look ((k,some (.row s []))::hp) i:=λi hi=>z3q (C6 hi)
 have hlk2:look ((k2,some (.box (cs.set j (.sl k 0))))::(k,some (.row s []))::hp) k2=some (.box (cs.set j (.sl k 0))):=z2l
 have hconv:∀ x v,RepI c.F ρ (look ((k,some (.row s []))::hp)) w x v->RepI c.F ρ (look ((k2,some (.box (cs.set j (.sl k 0))))::(k,some (.row s []))::hp)) w x v:=by
  intro x v hx
  induction hx with
  | pv p v hp=>exact .pv p v hp
  | ptr i off v hi =>
   refine .ptr i off v λcs' h2=>?_
   by_cases e:i=k2
   ·subst e;exact hi _ hk2'
   ·rw [hlk i e] at h2;exact hi _ h2
  | sl i len v hi =>
   refine .sl i len v λs' els' h2=>?_
   by_cases e:i=k2
   ·subst e;rw [hlk2] at h2;cases h2
   ·rw [hlk i e] at h2;exact hi _ _ h2
  | sp i n len v hi =>
   refine .sp i n len v λs' els' h2=>?_
   by_cases e:i=k2
   ·subst e;rw [hlk2] at h2;cases h2
   ·rw [hlk i e] at h2;exact hi _ _ h2
  | rpt i len off v hi =>
   refine .rpt i len off v λs' els' h2=>?_
   by_cases e:i=k2
   ·subst e;rw [hlk2] at h2;cases h2
   ·rw [hlk i e] at h2;exact hi _ _ h2
  | bs i n v hi =>
   refine .bs i n v λcs' h2=>?_
   by_cases e:i=k2
   ·subst e;exact hi _ hk2'
   ·rw [hlk i e] at h2;exact hi _ h2
  | mp i v hi =>
   refine .mp i v λes h2=>?_
   by_cases e:i=k2
   ·subst e;rw [hlk2] at h2;cases h2
   ·rw [hlk i e] at h2;exact hi _ h2
  | tnil i T v hi =>
   refine .tnil i T v λcs' h2=>?_
   by_cases e:i=k2
   ·subst e;exact hi _ hk2'
   ·rw [hlk i e] at h2;exact hi _ h2
  | agg cs vs u hl hv _ ih=>exact .agg cs vs u hl hv ih
  | tup cs vs u hl hv _ ih=>exact .tup cs vs u hl hv ih
  | fn f xs ys vs ws u t hl hv _ hl' hv' _ ih ih'=>exact .fn f xs ys vs ws u t hl hv ih hl' hv' ih'
 refine ⟨⟨h'.rel.inj,h'.rel.apart,h'.rel.old,λi b cc hi=>?_,λi o h1 h2=>?_⟩,λt x hx=>?_,?_,h'.df,h'.sz,h'.kk⟩
 ·obtain ⟨o1,h1,h2⟩:=h'.rel.obj i b cc hi
  by_cases e:i=k2
  ·subst e
   rw [hk2'] at h1;cases h1
   refine ⟨_,hlk2,?_⟩
   cases h2 with
   | box _ e' r u h5 hl hv hr =>
    refine .box _ e' r u h5 (by simpa using hl) (λq x hq=>?_) λq x hq=>?_
    ·by_cases eq:q=j
     ·subst eq;exact hv q _ hj
     ·rw [Bi (C6 eq)] at hq;exact hv q x hq
    ·by_cases eq:q=j
     ·subst eq
      have hlt:q<cs.length:=(A1.1 hj).1
      rw [Bj hlt] at hq;cases hq
      have hnil:=(hr q _ hj).val
      rw [hnil]
      refine .sl _ _ _ λs1 els1 h1=>?_
      rw [hlk _ hne,z2l] at h1
      cases h1
      exact ⟨A8 _,λ_=>.inr ⟨hk,rfl,rfl⟩⟩
     ·rw [Bi (C6 eq)] at hq;exact hconv _ _ (hr q x hq)
  ·refine ⟨o1,(hlk i e).trans h1,?_⟩
   cases h2 with
   | box cs' e' r u h hl hv hr=>exact .box cs' e' r u h hl hv λq x hq=>hconv _ _ (hr q x hq)
   | row s' els' r u h hs hl hm hw hv hr=>exact .row s' els' r u h hs hl hm hw hv hr
   | map es r t u h hl hv hr=>exact .map es r t u h hl hv hr
 ·by_cases e:i=k2
  ·subst e
   obtain ⟨s',h3⟩:=h'.rel.real i _ hk2' h2
   cases h3
  ·rw [hlk i e] at h1;exact h'.rel.real i o h1 h2
 ·obtain ⟨v,hv,hr⟩:=h'.fr t x hx
  exact ⟨v,hv,hconv _ _ hr⟩
 ·have t:=h'.tr
  refine ⟨t.os,t.tape,t.output,t.size,t.blk,t.own,λi a1 a2 e1 e2=>?_,λi a1 a2 e1 e2=>?_,λi s1 s2 a1 a2 e1 e2 hl=>?_,λi s1 s2 a1 a2 e1 e2=>?_,λi a2 e2=>?_,λi a2 e2=>?_,λi s1 a2 e2=>?_⟩
  all_goals by_cases e:i=k2
  ·subst e;exact t.box i _ _ e1 hk2'
  ·rw [hlk i e] at e2;exact t.box i _ _ e1 e2
  ·subst e;rw [hlk2] at e2;cases e2
  ·rw [hlk i e] at e2;exact t.map i _ _ e1 e2
  ·subst e;rw [hlk2] at e2;cases e2
  ·rw [hlk i e] at e2;exact t.row i _ _ _ _ e1 e2 hl
  ·subst e;rw [hlk2] at e2;cases e2
  ·rw [hlk i e] at e2;exact t.grow i _ _ _ _ e1 e2
  ·subst e;exact t.kindB i _ hk2'
  ·rw [hlk i e] at e2;exact t.kindB i _ e2
  ·subst e;rw [hlk2] at e2;cases e2
  ·rw [hlk i e] at e2;exact t.kindM i _ e2
  ·subst e;rw [hlk2] at e2;cases e2
  ·rw [hlk i e] at e2;exact t.kindR i _ _ e2
theorem tup2_sub {F:Nat->Prop} {ρ:Loc} {w:World} {x x' y:IV} {v:Value} (hx:∀ v,RepI F ρ σ w x v->RepI F ρ σ w x' v) (h:RepI F ρ σ w (.tup [x,y]) v):RepI F ρ σ w (.tup [x',y]) v:=by
 cases h with
 | tup _ vs u hl hv hr =>
  refine .tup _ vs u hl (λj z hj=>?_) λj z hj=>?_
  ·match j,hj with
   | 0,_=>exact hv 0 x rfl
   | 1,hj=>exact hv 1 y rfl
   | j+2,hj=>simp at hj
  ·match j,hj with
   | 0,hj=>cases hj;exact hx _ (hr 0 x rfl)
   | 1,hj=>cases hj;exact hr 1 y rfl
   | j+2,hj=>simp at hj
end
theorem tS46:(Tryz.prog.info? 46).map (·.size)=some 8:=by kernel_rfl
theorem tS165:(Tryz.prog.info? 165).map (·.size)=some 0:=by kernel_rfl
theorem tC46:(Tryz.prog.info? 46).map (λi=>(i.size,i.bytes))=some (8,136):=by kernel_rfl
theorem tZ46:((Tryz.prog.info? 46).bind (·.zero))=some (.agg #[.int .i64 (0),.int .i64 (0),.int .i64 (0),.string ⟨#[]⟩,.slice none 0 0,.slice none 0 0,.slice none 0 0,.slice none 0 0]):=by kernel_rfl
theorem tZ165:((Tryz.prog.info? 165).bind (·.zero))=some (.agg #[]):=by kernel_rfl
theorem ent119:z65 Tryz.prog 119:=⟨Tryz.f119,Tryz.func119,by kernel_rfl,by kernel_rfl⟩
theorem ent120:z65 Tryz.prog 120:=⟨Tryz.f120,Tryz.func120,by kernel_rfl,by kernel_rfl⟩
theorem ent121:z65 Tryz.prog 121:=⟨Tryz.f121,Tryz.func121,by kernel_rfl,by kernel_rfl⟩
theorem ent168:z65 Tryz.prog 168:=⟨Tryz.f168,Tryz.func168,by kernel_rfl,by kernel_rfl⟩
def rowI (l:List Int):HO:=.row ⟨3,1⟩ (l.map eInt)
def endv (e:Rend):PV:=.agg [vInt e.1,ints e.2]
theorem j2c {v v':List Int} {x y:Int} (h:setV v x y=some v'):0<=x/\x.toNat<(v.map eInt).length/\v'=v.set x.toNat y:=by
 unfold setV at h
 split at h
 ·rename_i hx
  exact ⟨hx.1,by simpa using hx.2,by cases h;rfl⟩
 ·cases h
theorem zj9 {v v':List Int} {x:Int} {r n:List Int} (h:mSet v (x::r) n=some v'):∃ y n' v1,n=y::n'/\setV v x y=some v1/\mSet v1 r n'=some v':=by
 cases n with
 | nil=>cases h
 | cons y n' =>
  simp only [mSet,Aj] at h
  obtain ⟨v1,h1,h2⟩:=h
  exact ⟨y,n',v1,rfl,h1,h2⟩
def r8op (x:Nd):Bool:=x.kind==3||x.kind==4
def r8num (x:Nd):Bool:=x.kind==1||x.kind==2
def yi5 (x:Nd):Bool:=x.kind==5||x.kind==6||x.kind==7
def r8kn (x:Nd):Int:=if x.kind==11 then 1 else if x.kind==10 then 2 else 0
def z1j (x:Nd):Bool:=(r8op x||x.op==0)&&(r8num x||x.n==0)&&(yi5 x||x.name.toList==[])&&(x.kids.length:Int)==r8kn x&&(x.kind==11||(x.params.length:Int)==0)
def zd7 (b:Bool):List PV:=[vBool b]
def zb5 (tys seen:List Int) (v w:Int):Bool:=!(decide (v<0)||decide (v ≥ tys.length) || !seen.contains v||(w != 0&&(tys.getD v.toNat 0 != w)))
def z16 (tys seen:List Int):List Int->List Int->Bool
 | v::r,w::ws=>zb5 tys seen v w&&z16 tys seen r ws
 | _,_=>true
def z06 (tys seen l want:List Int):Bool:=(l.length:Int)==want.length&&z16 tys seen l want
def z8y (tys:List Int) (set:List Bool) (v w:Int):Bool:=decide (v<0)||decide (v ≥ tys.length)||set.getD v.toNat false||(w != 0&&(tys.getD v.toNat 0 != w))
def z2c (tys:List Int):List Bool->List Int->List Int->Bool × List Bool
 | set,v::r,w::ws=>if z8y tys set v w then (false,set) else z2c tys (set.set v.toNat true) r ws
 | set,_,_=>(true,set)
def z1p (tys:List Int) (set:List Bool) (l want:List Int):Bool × List Bool :=
 if (l.length:Int)==want.length then z2c tys set l want else (false,set)
theorem zb4 (tys:List Int):∀ (l want:List Int) (set:List Bool),(z2c tys set l want).2.length=set.length
 | [],_,_=>by simp [z2c]
 | _::_,[],_=>by simp [z2c]
 | v::r,w::ws,set=>by
  simp only [z2c]
  split
  ·rfl
  ·rw [zb4 tys r ws];simp
theorem z6u (tys:List Int) (set:List Bool) (l want:List Int):(z1p tys set l want).2.length=set.length:=by
 unfold z1p
 split
 ·exact zb4 ..
 ·rfl
def zp4 (tys:List Int) (v:Int):Bool:=decide (0<=v)&&decide (v<tys.length)
def r8of (tys l:List Int):List Int:=if l.all (zp4 tys) then l.map λv=>tys.getD v.toNat 0 else []
structure Wh where
 If:Bool
 Loop:Bool
 Yield:List Int
 Next:List Int
 Left:List Int
abbrev whv (w:Wh):PV:=.agg [vBool w.If,vBool w.Loop,ints w.Yield,ints w.Next,ints w.Left]
def y44 (u:Un) (f:Fl) (n:Nat):List IV:=[.pv (arrs u.arrays),.pv (flws u.flows),iStr f.name,iInt f.ty,iInt f.params,.pv (ints f.types),.pv (z1n f.body),.sl 4 n]
def ckHp (u:Un) (f:Fl) (bt:TypeId) (set:List Bool):List (Nat × HO):=[(3,.box (y44 u f (set.map zd7).length)),(4,.row ⟨bt,1⟩ (set.map zd7))]
def z2t (op:Int):Bool:=decide (op ≥ 20)&&decide (op<=28)
def z3s (op:Int):Bool:=decide (op ≥ 1)&&decide (op<=17)
def z0n (op:Int):Int × Int :=
 if op==18||op==19||op==22 then (2,2) else if op==16||op==17 then (0,2)
 else if decide (op ≥ 12)&&decide (op<=15) then (1,2) else (1,1)
def andS (b:Bool) (set:List Bool) (r:Bool × List Bool):Bool × List Bool:=if b then r else (false,set)
def zb3 (u:Un) (f:Fl) (set:List Bool) (x:Nd) (seen:List Int):Bool × List Bool :=
 if decide (z05 x.name u.flows 0 ≥ 0)=true then
  match u.flows[(z05 x.name u.flows 0).toNat]? with
  | some g=>andS (z06 f.types seen x.args (g.types.take g.params.toNat)) set (z1p f.types set x.outs [g.ty])
  | none=>(false,set)
 else (false,set)
def z1c (u:Un) (f:Fl) (set:List Bool) (x:Nd) (seen:List Int) (w:Wh):Bool × List Bool :=
 if x.kind==1 then andS (z06 f.types seen x.args []) set (z1p f.types set x.outs [1])
 else if x.kind==2 then andS ((x.n==0||x.n==1)&&z06 f.types seen x.args []) set (z1p f.types set x.outs [2])
 else if x.kind==3 then andS (z2t x.op&&z06 f.types seen x.args [(z0n x.op).1]) set (z1p f.types set x.outs [(z0n x.op).2])
 else if x.kind==4 then andS (z3s x.op&&z06 f.types seen x.args [(z0n x.op).1,(z0n x.op).1]&&f.types.getD (x.args.getD 0 0).toNat 0==f.types.getD (x.args.getD 1 0).toNat 0) set (z1p f.types set x.outs [(z0n x.op).2])
 else if x.kind==5 then andS (decide (z0f x.name u.arrays 0 ≥ 0)&&z06 f.types seen x.args [1]) set (z1p f.types set x.outs [1])
 else if x.kind==6 then (decide (z0f x.name u.arrays 0 ≥ 0)&&z06 f.types seen x.args [1,1]&&(x.outs.length:Int)==0,set)
 else if x.kind==7 then zb3 u f set x seen
 else if x.kind==8 then andS ((x.args.length:Int)==0) set (z1p f.types set x.outs [1])
 else if x.kind==9 then (z06 f.types seen x.args [1]&&(x.outs.length:Int)==0,set)
 else if x.kind==12 then (w.If&&z06 f.types seen x.args w.Yield&&(x.outs.length:Int)==0,set)
 else if x.kind==13 then (w.Loop&&z06 f.types seen x.args w.Next&&(x.outs.length:Int)==0,set)
 else if x.kind==14 then (w.Loop&&z06 f.types seen x.args w.Left&&(x.outs.length:Int)==0,set)
 else if x.kind==15 then (z06 f.types seen x.args [f.ty]&&(x.outs.length:Int)==0,set)
 else (false,set)
theorem zt5 (name:ByteArray):∀ (l:List Fl) (i:Int),z05 name l i ≠ -1->i ≥ 0->i<=z05 name l i/\∃ g,l[(z05 name l i - i).toNat]? = some g/\eqS g.name name=true
 | [],i,h,_=>absurd rfl h
 | g::r,i,h,h0=>by
  simp only [z05] at h ⊢
  split
  ·rename_i hq
   exact ⟨D3 _,g,by simp,hq⟩
  ·rename_i hq
   rw [if_neg hq] at h
   obtain ⟨h1,g',h2,h3⟩:=zt5 name r (i+1) h oM0
   refine ⟨by omega,g',?_,h3⟩
   rw [show (z05 name r (i+1) - i).toNat=(z05 name r (i+1) - (i+1)).toNat+1 by omega]
   simpa using h2
theorem zc9 {name:ByteArray} {l:List Fl} (h:z05 name l 0 ≥ 0):∃ g,l[(z05 name l 0).toNat]? = some g/\eqS g.name name=true:=by
 obtain ⟨_,g,h2,h3⟩:=zt5 name l 0 oM0 oM0
 exact ⟨g,by simpa using h2,h3⟩
theorem zg8 {tys seen:List Int} {v w:Int} (h:zb5 tys seen v w=true):0<=v/\v.toNat<tys.length:=by
 simp [zb5] at h
 omega
theorem ya4 {tys seen l:List Int} {t1 t2:Int} (h:z06 tys seen l [t1,t2]=true):∃ a b,l=[a,b]/\0<=a/\a.toNat<tys.length/\0<=b/\b.toNat<tys.length:=by
 match l with
 | []=>simp [z06] at h
 | [a]=>simp [z06] at h
 | [a,b] =>
  simp [z06,z16] at h
  have h1:=zg8 h.1
  have h2:=zg8 h.2
  exact ⟨a,b,rfl,h1.1,h1.2,h2.1,h2.2⟩
 | a::b::c::r=>simp [z06] at h;omega
def andT (r:Bool × List Bool) (k:List Bool->Bool × List Bool):Bool × List Bool:=if r.1 then k r.2 else (false,r.2)
def ne (l:List Nd) (r:Bool × List Bool):Bool × List Bool:=if l.isEmpty then (false,r.2) else r
mutual
def ndW:Nd->Nat
 | .mk _ _ _ _ args outs params kids=>1+args.length+outs.length+params.length+kdW kids
def lsW:List Nd->Nat
 | []=>0
 | x::r=>ndW x+lsW r
def kdW:List (List Nd)->Nat
 | []=>0
 | l::r=>1+lsW l+kdW r
end
def ze4 (f:Fl) (x:Nd) (set:List Bool):Bool × List Bool :=
 andS ((x.outs.length:Int)==0 || !z07 x) set (z1p f.types set x.outs (List.replicate x.outs.length 0))
mutual
def z4n (u:Un) (f:Fl) (deep:Int) (w:Wh) (seen:List Int) (set:List Bool):Nd->Bool × List Bool
 | .mk kind op n name args outs params kids =>
  if !z1j (.mk kind op n name args outs params kids) then (false,set)
  else if kind==10 then
   if z06 f.types seen args [2] then
    match kids with
    | a::b::_ =>
     andT (ne a (r8go u f (deep+1) ⟨true,w.Loop,r8of f.types outs,w.Next,w.Left⟩ seen set a)) λs1 =>
     andT (ne b (r8go u f (deep+1) ⟨true,w.Loop,r8of f.types outs,w.Next,w.Left⟩ seen s1 b)) λs2 =>
     ze4 f (.mk kind op n name args outs params kids) s2
    | _=>(false,set)
   else (false,set)
  else if kind==11 then
   if z06 f.types seen args (r8of f.types params) then
    andT (z1p f.types set params (List.replicate params.length 0)) λs1 =>
    match kids with
    | a::_ =>
     andT (ne a (r8go u f (deep+1) ⟨false,true,[],r8of f.types params,r8of f.types outs⟩ (seen++params) s1 a)) λs2 =>
     ze4 f (.mk kind op n name args outs params kids) s2
    | _=>(false,s1)
   else (false,set)
  else z1c u f set (.mk kind op n name args outs params kids) seen w
def r8go (u:Un) (f:Fl) (deep:Int) (w:Wh) (all:List Int) (set:List Bool):List Nd->Bool × List Bool
 | []=>(true,set)
 | x::r =>
  if deep > 100 then (false,set)
  else andT (z4n u f deep w all set x) λs1 =>
   if z07 x != r.isEmpty then (false,s1)
   else r8go u f deep w (all++x.outs) s1 r
end
def z2j (u:Un) (f:Fl) (deep:Int) (w:Wh) (all:List Int) (set:List Bool) (l:List Nd):Bool × List Bool:=ne l (r8go u f deep w all set l)
theorem zx5 {b:Bool} {set:List Bool} {r:Bool × List Bool} {n:Nat} (h1:set.length=n) (h2:r.2.length=n):(andS b set r).2.length=n:=by unfold andS;split<;>assumption
theorem z72 {r:Bool × List Bool} {k:List Bool->Bool × List Bool} {n:Nat} (h1:r.2.length=n) (h2:∀ s,s.length=n->(k s).2.length=n):(andT r k).2.length=n:=by
 unfold andT;split
 ·exact h2 _ h1
 ·exact h1
theorem zk0 {l:List Nd} {r:Bool × List Bool} {n:Nat} (h:r.2.length=n):(ne l r).2.length=n:=by unfold ne;split<;>exact h
theorem yo1 {p:Prop} [Decidable p] {a b:Bool × List Bool} {n:Nat} (h1:a.2.length=n) (h2:b.2.length=n):(if p then a else b).2.length=n:=by split<;>assumption
theorem y0p (u:Un) (f:Fl) (set:List Bool) (x:Nd) (seen:List Int) (w:Wh):(z1c u f set x seen w).2.length=set.length:=by
 have hS:∀ b l t,(andS b set (z1p f.types set l t)).2.length=set.length:=λb l t=>zx5 rfl (z6u ..)
 unfold z1c zb3
 repeat' (first | exact hS _ _ _ | exact rfl | refine yo1 ?_ ?_ | split)
theorem zt6 {f:Fl} {x:Nd} {set:List Bool} {n:Nat} (h:set.length=n):(ze4 f x set).2.length=n:=zx5 h ((z6u ..).trans h)
mutual
theorem z90 (u:Un) (f:Fl):∀ (x:Nd) (deep:Int) (w:Wh) (seen:List Int) (set:List Bool),(z4n u f deep w seen set x).2.length=set.length
 | .mk kind op n name args outs params kids,deep,w,seen,set=>by
  unfold z4n
  split
  ·rfl
  split
  ·split
   ·match kids with
    | []=>rfl
    | [_]=>rfl
    | a::b::_ =>
     refine z72 (zk0 (z7d u f a ..)) λs hs=>z72 (zk0 ((z7d u f b ..).trans hs)) λs hs=>zt6 hs
   ·rfl
  split
  ·split
   ·refine z72 (z6u ..) λs hs=>?_
    match kids with
    | []=>exact hs
    | a::_=>exact z72 (zk0 ((z7d u f a ..).trans hs)) λs hs=>zt6 hs
   ·rfl
  ·exact y0p ..
theorem z7d (u:Un) (f:Fl):∀ (l:List Nd) (deep:Int) (w:Wh) (all:List Int) (set:List Bool),(r8go u f deep w all set l).2.length=set.length
 | [],_,_,_,_=>by simp [r8go]
 | x::r,deep,w,all,set=>by
  unfold r8go
  split
  ·rfl
  ·refine z72 (z90 u f x ..) λs hs=>?_
   split
   ·exact hs
   ·exact (z7d u f r ..).trans hs
end
theorem z8z (u:Un) (f:Fl) (deep:Int) (w:Wh) (all:List Int) (set:List Bool) (l:List Nd):(z2j u f deep w all set l).2.length=set.length:=zk0 (z7d ..)
theorem ck_lend {u:Un} {f:Fl} {bt:TypeId} {set set':List Bool} (h:set'.length=set.length):∀ k ob,look (up (ckHp u f bt set')) k=some ob->y34 ob=true∨(k=3/\look (up (ckHp u f bt set)) k=some ob):=by
 intro k ob hk
 have hm:=z1e hk
 simp only [ckHp,Ag,Bx,Fm,Ec] at hm
 rcases hm with ⟨rfl,rfl⟩ | ⟨rfl,rfl⟩
 ·exact .inr ⟨rfl,by simp [ckHp,up,look,h]⟩
 ·refine .inl ?_
  simp [y34,zd7,j0e]
theorem zg5 {x:Nd} (h:z1j x=true):(x.kids.length:Int)=r8kn x:=by
 simp only [z1j,A0,As] at h
 exact h.1.2
theorem z3o {x:Nd} (h:z1j x=true) (hk:x.kind=10):∃ a b,x.kids=[a,b]:=by
 have:=zg5 h
 simp [r8kn,hk] at this
 match hx:x.kids with
 | []=>simp [hx] at this
 | [a]=>simp [hx] at this
 | [a,b]=>exact ⟨a,b,rfl⟩
 | a::b::c::r=>simp [hx] at this;omega
theorem z1y {x:Nd} (h:z1j x=true) (hk:x.kind=11):∃ a,x.kids=[a]:=by
 have:=zg5 h
 simp [r8kn,hk] at this
 match hx:x.kids with
 | []=>simp [hx] at this
 | [a]=>exact ⟨a,rfl⟩
 | a::b::r=>simp [hx] at this;omega
theorem zg6 (u:Un) (f:Fl) (deep:Int) (w:Wh) (seen:List Int) (set:List Bool) {x:Nd} (h:z1j x=false):z4n u f deep w seen set x=(false,set):=by
 cases x;unfold z4n;simp [h]
theorem y0o (u:Un) (f:Fl) (deep:Int) (w:Wh) (seen:List Int) (set:List Bool) {x:Nd} {a b:List Nd} (h:z1j x=true) (hk:x.kind=10) (hx:x.kids=[a,b]) :
 z4n u f deep w seen set x=if z06 f.types seen x.args [2] then
  andT (z2j u f (deep+1) ⟨true,w.Loop,r8of f.types x.outs,w.Next,w.Left⟩ seen set a) λs1 =>
  andT (z2j u f (deep+1) ⟨true,w.Loop,r8of f.types x.outs,w.Next,w.Left⟩ seen s1 b) λs2=>ze4 f x s2
  else (false,set):=by
 cases x;simp only [Nd.kind,Nd.kids,Nd.args,Nd.outs] at *;subst hk hx;unfold z4n;simp [h,z2j];rfl
theorem zg7 (u:Un) (f:Fl) (deep:Int) (w:Wh) (seen:List Int) (set:List Bool) {x:Nd} {a:List Nd} (h:z1j x=true) (hk:x.kind=11) (hx:x.kids=[a]) :
 z4n u f deep w seen set x=if z06 f.types seen x.args (r8of f.types x.params) then
  andT (z1p f.types set x.params (List.replicate x.params.length 0)) λs1 =>
  andT (z2j u f (deep+1) ⟨false,true,[],r8of f.types x.params,r8of f.types x.outs⟩ (seen++x.params) s1 a) λs2=>ze4 f x s2
  else (false,set):=by
 cases x;simp only [Nd.kind,Nd.kids,Nd.args,Nd.outs,Nd.params] at *;subst hk hx;unfold z4n;simp [h,z2j];rfl
theorem z91 (u:Un) (f:Fl) (deep:Int) (w:Wh) (seen:List Int) (set:List Bool) {x:Nd} (h:z1j x=true) (h1:(x.kind==10)=false) (h2:(x.kind==11)=false) :
 z4n u f deep w seen set x=z1c u f set x seen w:=by
 cases x;simp only [Nd.kind] at *;unfold z4n;simp [h,h1,h2]
theorem z9l (x:Nd):ndW x=1+x.args.length+x.outs.length+x.params.length+kdW x.kids:=by cases x;simp [ndW,Nd.args,Nd.outs,Nd.params,Nd.kids]
section
def z68 (s:Rs):Rs:={ s with cost:=w64 (s.cost+1) }
theorem zx0 {v v':List Int} {x y:Int} (h:setV v x y=some v'):v'.length=v.length:=by
 rw [(j2c h).2.2,Do]
theorem z4s:∀ {l n v v':List Int},mSet v l n=some v'->v'.length=v.length
 | [],_,_,_,h=>by cases h;rfl
 | _::_,_,_,_,h=>by
  obtain ⟨y,n',v1,rfl,h1,h2⟩:=zj9 h
  rw [z4s h2,zx0 h1]
theorem y6v {rec:List Nd->List Int->Rs->Option Rres} {recLoop:Nd->List Int->List Int->Rs->Option Rres} {recSum:Nd->List Int->Rs->Option (Int × Rs)} {x:Nd} {a v:List Int} {s:Rs} {r:Rres}
 (hr:∀ q v s r,rec q v s=some r->r.2.1.length=v.length) (hl:∀ x v a s r,recLoop x v a s=some r->r.2.1.length=v.length) (h:z5g rec recLoop recSum x a v s=some r):r.2.1.length=v.length:=by
 unfold z5g at h
 split at h
 ·simp only [Aj,A3] at h
  obtain ⟨o,_,v',h1,rfl⟩:=h
  exact zx0 h1
 split at h
 ·cases h;rfl
 split at h
 ·simp only [Aj] at h
  obtain ⟨a0,_,q,_,r1,h1,h2⟩:=h
  have h3:=hr _ _ _ _ h1
  split at h2
  ·simp only [A3] at h2
   obtain ⟨v',h4,rfl⟩:=h2
   exact (z4s h4).trans h3
  ·cases h2;exact h3
 split at h
 ·exact hl _ _ _ _ _ h
 ·simp only [Aj] at h
  obtain ⟨r1,h1,h2⟩:=h
  split at h2
  ·simp only [Aj,A3] at h2
   obtain ⟨o,_,v',h4,rfl⟩:=h2
   exact zx0 h4
  ·cases h2;rfl
theorem zo8 (u:Un):∀ d,(∀ l v s r,z25 u d l v s=some r->r.2.1.length=v.length)/\∀ x v a s r,z3r u d x v a s=some r->r.2.1.length=v.length
 | 0=>⟨λ_ _ _ _ h=>by simp [z25] at h,λ_ _ _ _ _ h=>by simp [z3r] at h⟩
 | d+1=>by
  obtain ⟨i1,i2⟩:=zo8 u d
  refine ⟨λl v s r h=>?_,λx v a s r h=>?_⟩
  ·cases l with
   | nil=>simp only [z25] at h;cases h;rfl
   | cons x l =>
    rw [z25] at h
    split at h
    ·cases h;rfl
    ·simp only [Aj] at h
     obtain ⟨a,_,r1,h1,h2⟩:=h
     have h3:=y6v i1 i2 h1
     split at h2
     ·cases h2;exact h3
     ·exact (i1 _ _ _ _ h2).trans h3
  ·rw [z3r] at h
   simp only [Aj] at h
   obtain ⟨v1,hv1,q,_,r1,h1,h2⟩:=h
   have h3:=(i1 _ _ _ _ h1).trans (z4s hv1)
   split at h2
   ·cases h2;exact h3
   split at h2
   ·simp only [A3] at h2
    obtain ⟨v',h4,rfl⟩:=h2
    exact (z4s h4).trans h3
   ·exact (i2 _ _ _ _ _ h2).trans h3
theorem z8c {u:Un} {d:Nat} {l:List Nd} {v:List Int} {s:Rs} {r:Rres} (h:z25 u d l v s=some r):r.2.1.length=v.length:=(zo8 u d).1 _ _ _ _ h
theorem z52 {u:Un} {d:Nat} {x:Nd} {v a:List Int} {s:Rs} {r:Rres} (h:z3r u d x v a s=some r):∃ d1 v2 q r1,d=d1+1/\mSet v x.params a=some v2/\x.kids[0]? = some q/\z25 u d1 q v2 s=some r1 /\
 (if z13 r1.2.2||r1.1.1==15 then some r1 else if r1.1.1==14 then (mSet r1.2.1 x.outs r1.1.2).map λv=>((0,[]),v,r1.2.2) else z3r u d1 x r1.2.1 r1.1.2 r1.2.2)=some r:=by
 cases d with
 | zero=>simp [z3r] at h
 | succ d =>
  rw [z3r] at h
  simp only [Aj] at h
  obtain ⟨v2,h1,q,h2,r1,h3,h4⟩:=h
  exact ⟨d,v2,q,r1,rfl,h1,h2,h3,h4⟩
theorem z8d {u:Un} {d:Nat} {x:Nd} {l:List Nd} {v:List Int} {s s2:Rs} {r:Rres} (hs2:(z9o s).2=s2) (h:z25 u d (x::l) v s=some r):∃ d1,d=d1+1/\(((z9o s).1=false/\r=((0,[]),v,s2)) ∨
 ((z9o s).1=true/\∃ a r1,mOf v x.args=some a/\z5g (z25 u d1) (z3r u d1) (mSum u d1) x a v s2=some r1/\(if z13 r1.2.2||r1.1.1 != 0 then some r1 else z25 u d1 l r1.2.1 r1.2.2)=some r)):=by
 cases d with
 | zero=>simp [z25] at h
 | succ d =>
  refine ⟨d,rfl,?_⟩
  subst hs2
  rw [z25] at h
  split at h
  ·rename_i s' e;cases h;exact .inl ⟨by rw [e],by rw [e]⟩
  ·rename_i s' e
   simp only [Aj] at h
   obtain ⟨a,h1,r1,h2,h3⟩:=h
   exact .inr ⟨by rw [e],a,r1,h1,by rw [e];exact h2,h3⟩
section
variable {rec:List Nd->List Int->Rs->Option Rres} {recLoop:Nd->List Int->List Int->Rs->Option Rres} {recSum:Nd->List Int->Rs->Option (Int × Rs)} {x:Nd} {a v:List Int} {s:Rs} {r:Rres}
theorem z8e (h:z5g rec recLoop recSum x a v s=some r) (hk:(x.kind==1||x.kind==2)=true):∃ o v2,x.outs[0]? = some o/\setV v o x.n=some v2/\r=((0,[]),v2,s):=by
 unfold z5g at h
 rw [if_pos hk] at h
 simp only [Aj,A3] at h
 obtain ⟨o,h1,v2,h2,rfl⟩:=h
 exact ⟨o,v2,h1,h2,rfl⟩
theorem z5h (h:z5g rec recLoop recSum x a v s=some r) (hk:(x.kind==12||x.kind==13||x.kind==14||x.kind==15)=true):r=((x.kind,a),v,s):=by
 unfold z5g at h
 rw [if_neg (by simp only [Bk,As] at hk ⊢;omega),if_pos hk] at h
 cases h;rfl
theorem zj8 (h:z5g rec recLoop recSum x a v s=some r) (hk:(x.kind==10)=true):∃ a0 q r1,a[0]? = some a0/\x.kids[if a0 != 0 then 0 else 1]? = some q/\rec q v s=some r1 /\
 (if !z13 r1.2.2&&r1.1.1==12 then (mSet r1.2.1 x.outs r1.1.2).map λv'=>((0,[]),v',r1.2.2) else some r1)=some r:=by
 unfold z5g at h
 rw [if_neg (by simp only [Bk,As] at hk ⊢;omega),if_neg (by simp only [Bk,As] at hk ⊢;omega),if_pos hk] at h
 simp only [Aj] at h
 obtain ⟨a0,h1,q,h2,r1,h3,h4⟩:=h
 exact ⟨a0,q,r1,h1,h2,h3,h4⟩
theorem z6z (h:z5g rec recLoop recSum x a v s=some r) (hk:(x.kind==11)=true):recLoop x v a s=some r:=by
 unfold z5g at h
 rw [if_neg (by simp only [Bk,As] at hk ⊢;omega),if_neg (by simp only [Bk,As] at hk ⊢;omega),if_neg (by simp only [As] at hk ⊢;omega),if_pos hk] at h
 exact h
theorem z8f (h:z5g rec recLoop recSum x a v s=some r) (h1:(x.kind==1||x.kind==2)=false) (h2:(x.kind==12||x.kind==13||x.kind==14||x.kind==15)=false) (h3:(x.kind==10)=false) (h4:(x.kind==11)=false):∃ r1,recSum x a s=some r1 /\
 (if !z13 r1.2&&decide (0<x.outs.length) then (x.outs[0]?).bind λo=>(setV v o r1.1).map λv'=>((0,[]),v',r1.2) else some ((0,[]),v,r1.2))=some r:=by
 unfold z5g at h
 rw [h1,h2,h3,h4] at h
 simp only [Ak,Bv,Aj] at h
 exact h
end
theorem z6y {u:Un} {d:Nat} {k:Int} {a:List Int} {s:Rs} {r:Int × Rs} (h:z4c u d k a s=some r):∃ d1 f r1,d=d1+1/\0<=k/\u.flows[k.toNat]? = some f/\a.length<=f.types.length/\f.types.length<=1073741824 /\
 z25 u d1 f.body (a++List.replicate (f.types.length - a.length) 0) s=some r1/\r=(if z13 r1.2.2 then 0 else r1.1.2.headD 0,r1.2.2):=by
 cases d with
 | zero=>simp [z4c] at h
 | succ d =>
  rw [z4c] at h
  split at h
  ·rename_i hk
   simp only [Aj] at h
   obtain ⟨f,hf,h⟩:=h
   split at h
   ·rename_i hl
    simp only [Aj] at h
    obtain ⟨r1,h1,h2⟩:=h
    refine ⟨d,f,r1,rfl,hk,hf,hl.1,hl.2,h1,?_⟩
    split at h2<;>cases h2<;>simp_all
   ·cases h
  ·cases h
variable {u:Un} {d:Nat} {x:Nd} {a:List Int} {s:Rs} {r:Int × Rs}
theorem z7t (h:mSum u d x a s=some r):∃ d',d=d'+1:=by
 cases d with
 | zero=>simp [mSum] at h
 | succ d=>exact ⟨d,rfl⟩
theorem zc6 (h:mSum u (d+1) x a s=some r) (hk:(x.kind==3)=true):∃ a0,a[0]? = some a0/\r=(mOne x.op a0,z68 s):=by
 simp only [mSum,hk,C3,A3] at h
 obtain ⟨a0,h1,rfl⟩:=h
 exact ⟨a0,h1,rfl⟩
theorem zc7 (h:mSum u (d+1) x a s=some r) (hk:(x.kind==4)=true):∃ a0 a1,a[0]? = some a0/\a[1]? = some a1/\r=((mTwo x.op a0 a1).1,if (mTwo x.op a0 a1).2 then z68 s else { z68 s with st:=2 }):=by
 have h3:(x.kind==3)=false:=by have:=eq_of_beq hk;rw [this];rfl
 simp only [mSum,h3,hk,C3,Ak,Bv,A3,Aj] at h
 obtain ⟨a0,h1,a1,h2,rfl⟩:=h
 exact ⟨a0,a1,h1,h2,rfl⟩
theorem za3 (h:mSum u (d+1) x a s=some r) (hk:(x.kind==7)=true):z4c u d (z05 x.name u.flows 0) a (z68 s)=some r:=by
 have e:=eq_of_beq hk
 simp only [mSum,e] at h
 exact h
theorem z8h (h:mSum u (d+1) x a s=some r) (hk:(x.kind==9)=true):∃ a0,a[0]? = some a0/\s.out.length<1073741824/\r=(0,{ z68 s with out:=s.out++[a0] }):=by
 have e:=eq_of_beq hk
 simp only [mSum,e] at h
 simp only [show ((9:Int)==3)=false from rfl,show ((9:Int)==4)=false from rfl,show ((9:Int)==5)=false from rfl,show ((9:Int)==6)=false from rfl,show ((9:Int)==7)=false from rfl,show ((9:Int)==9)=true from rfl,C3,Ak,Bv,Aj] at h
 obtain ⟨a0,h1,h2⟩:=h
 split at h2
 ·rename_i h3;cases h2;exact ⟨a0,h1,h3,rfl⟩
 ·cases h2
theorem za5 (h:mSum u (d+1) x a s=some r) (hk:(x.kind==8)=true):(s.ins=[]/\r=(0,{ z68 s with st:=4 }))∨∃ y q,s.ins=y::q/\r=(y,{ z68 s with ins:=q }):=by
 have e:=eq_of_beq hk
 simp only [mSum,e] at h
 simp only [show ((8:Int)==3)=false from rfl,show ((8:Int)==4)=false from rfl,show ((8:Int)==5)=false from rfl,show ((8:Int)==6)=false from rfl,show ((8:Int)==7)=false from rfl,show ((8:Int)==9)=false from rfl,show ((8:Int)==8)=true from rfl,C3,Ak,Bv] at h
 split at h
 ·rename_i h1;cases h;exact .inl ⟨h1,rfl⟩
 ·rename_i y q h1;cases h;exact .inr ⟨y,q,h1,rfl⟩
theorem za4 (h:mSum u (d+1) x a s=some r) (h3:(x.kind==3)=false) (h4:(x.kind==4)=false) (h5:(x.kind==5)=false) (h6:(x.kind==6)=false) (h7:(x.kind==7)=false) (h9:(x.kind==9)=false) (h8:(x.kind==8)=false):r=(0,z68 s):=by
 simp only [mSum,h3,h4,h5,h6,h7,h8,h9,Ak,Bv] at h
 cases h;rfl
end
def arI:List (List Int)->IV
 | []=>.pv (.val (.slice none 0 0))
 | _::_=>.bs 1003 1
def arH:List (List Int)->List (Nat × HO)
 | []=>[]
 | r::_=>[(1003,.box [.sl 1004 (r.map eInt).length]),(1004,rowI r)]
def rBox (u:Un) (s:Rs):HO:=.box [.pv (arrs u.arrays),.pv (flws u.flows),.pv (ints s.ins),arI s.ar,iInt s.st,iInt s.code,.sl 1002 (s.out.map eInt).length,iInt s.cost,iInt s.fuel,iBool s.spent]
def rH (u:Un) (s:Rs):List (Nat × HO):=(1001,rBox u s)::(1002,rowI s.out)::arH s.ar
def rHV (u:Un) (s:Rs) (v:List Int):List (Nat × HO):=(1001,rBox u s)::(1002,rowI s.out)::(510,rowI v)::arH s.ar
theorem z6d:PSub (.agg [vInt 0,.val (.slice none 0 0)]) (endv (0,[])):=PSub.agg (ps:=[vInt 0,.val (.slice none 0 0)]) (qs:=[vInt 0,.seq []]) (And.intro (PSub.refl _) (And.intro PSub.nil trivial))
theorem zh7 {v v':List Int} {o x:Int} (h:setV v o x=some v'):0<=o/\o.toNat<v.length/\v'=v.set o.toNat x:=by
 unfold setV at h
 split at h
 ·rename_i h1;cases h;exact ⟨h1.1,h1.2,rfl⟩
 ·cases h
theorem y6u {u:Un} {d:Nat} {v:List Int} {s:Rs} {r:Rres} (h:z25 u d [] v s=some r):r=((0,[]),v,s):=by
 cases d with
 | zero=>simp [z25] at h
 | succ d=>simp only [z25] at h;cases h;rfl
theorem y2z {s s':Rs} {k n:Int} (h:za1 s k n=some (true,s')):s'=s/\0<=n/\0<=k/\∃ row,s.ar[k.toNat]? = some row/\n<row.length:=by
 unfold za1 at h
 split at h
 ·cases h
 ·split at h
  ·obtain ⟨row,h1,h2⟩:=Aj.1 h
   split at h2
   ·cases h2
   ·cases h2
    exact ⟨rfl,by omega,by omega,row,h1,by omega⟩
  ·cases h
theorem zj7 {s:Rs} {k n:Int} {q:Bool × Rs} (h:za1 s k n=some q):q.2.ar.length=s.ar.length:=by
 unfold za1 at h
 split at h
 ·cases h;rfl
 ·split at h
  ·obtain ⟨row,h1,h2⟩:=Aj.1 h
   split at h2<;>cases h2<;>rfl
  ·cases h
theorem one_ar {s:Rs} {k:Int} {row:List Int} (h1:s.ar.length<=1) (hk:0<=k) (h:s.ar[k.toNat]? = some row):k=((0:Nat):Int)/\s.ar=[row]:=by
 have h2:=(A1.1 h).1
 have h3:k.toNat=0:=by omega
 rw [h3] at h
 match hs:s.ar,h,h1 with
 | [],h,_=>cases h
 | [r],h,_=>cases h;exact ⟨by omega,rfl⟩
 | _::_::_,_,h1=>simp at h1
theorem z8g {u:Un} {d:Nat} {x:Nd} {a:List Int} {s:Rs} {r:Int × Rs} (h:mSum u (d+1) x a s=some r) (hk:x.kind=5):∃ a0 b s',a[0]? = some a0/\za1 (z68 s) (z0f x.name u.arrays 0) a0=some (b,s') /\
 ((b=false/\r=(0,s'))∨(b=true/\∃ row y,(z68 s).ar[(z0f x.name u.arrays 0).toNat]? = some row/\row[a0.toNat]? = some y/\r=(y,z68 s))):=by
 simp only [mSum,hk,show ((5:Int)==3)=false from rfl,show ((5:Int)==4)=false from rfl,show ((5:Int)==5)=true from rfl,C3,Ak,Bv,Aj] at h
 obtain ⟨a0,h1,⟨b,s'⟩,h2,h5⟩:=h
 refine ⟨a0,b,s',h1,h2,?_⟩
 cases b with
 | false=>exact .inl ⟨rfl,by simpa using h5.symm⟩
 | true =>
  simp only [C3,Aj,A3] at h5
  obtain ⟨row,h6,y,h7,h8⟩:=h5
  exact .inr ⟨rfl,row,y,h6,h7,h8.symm⟩
theorem z76 {u:Un} {d:Nat} {x:Nd} {a:List Int} {s:Rs} {r:Int × Rs} (h:mSum u (d+1) x a s=some r) (hk:x.kind=6):∃ a0 b s',a[0]? = some a0/\za1 (z68 s) (z0f x.name u.arrays 0) a0=some (b,s') /\
 ((b=false/\r=(0,s'))∨(b=true/\∃ row y,(z68 s).ar[(z0f x.name u.arrays 0).toNat]? = some row/\a[1]? = some y/\r=(0,{ z68 s with ar:=(z68 s).ar.set (z0f x.name u.arrays 0).toNat (row.set a0.toNat y) }))):=by
 simp only [mSum,hk,show ((6:Int)==3)=false from rfl,show ((6:Int)==4)=false from rfl,show ((6:Int)==5)=false from rfl,show ((6:Int)==6)=true from rfl,C3,Ak,Bv,Aj] at h
 obtain ⟨a0,h1,⟨b,s'⟩,h2,h5⟩:=h
 refine ⟨a0,b,s',h1,h2,?_⟩
 cases b with
 | false=>exact .inl ⟨rfl,by simpa using h5.symm⟩
 | true =>
  simp only [C3,Aj,A3] at h5
  obtain ⟨y,h6,row,h7,h8⟩:=h5
  exact .inr ⟨rfl,row,y,h7,h6,h8.symm⟩
theorem ba_sz (s:ByteArray):s.data.toList.length=s.size:=rfl
theorem yv0 (s:ByteArray):∀ (n i:Nat) (acc:List UInt8),s.size - i=n->ByteArray.toList.loop s i acc=acc.reverse++s.data.toList.drop i
 | 0,i,acc,h=>by
  rw [ByteArray.toList.loop]
  have:¬ i<s.size:=by omega
  rw [if_neg this,A6 (by rw [ba_sz];omega)]
  simp
 | n+1,i,acc,h=>by
  rw [ByteArray.toList.loop]
  have hi:i<s.size:=by omega
  rw [if_pos hi,yv0 s n (i+1) _ oM0]
  have hi2:i<s.data.toList.length:=by rw [ba_sz];exact hi
  rw [Cw hi2]
  have hget:s.get! i=s.data.toList[i]:=by
   show s.data[i]! = _
   rw [getElem!_pos s.data i hi]
   rfl
  simp [hget]
theorem z22 (s:ByteArray):s.toList=s.data.toList:=by
 rw [ByteArray.toList,yv0 s _ 0 [] rfl];simp
theorem zx9 (s:ByteArray):s.toList.length=s.size:=by rw [z22];rfl
theorem y2d {s:ByteArray} {i:Nat} (h:i<s.toList.length):s[i]? = some (s.toList[i]):=by
 have h2:i<s.size:=by rwa [zx9] at h
 rw [getElem?_pos s i h2]
 congr 1
 simp only [z22]
 rfl
def z4b (n:Int):Bool:=(decide (n ≥ 97)&&decide (n<=122))||(decide (n ≥ 65)&&decide (n<=90))||n==95
def z3p (n:Int):Bool:=decide (n ≥ 48)&&decide (n<=57)
def isLD (b:UInt8):Bool:=z4b b.toNat||z3p b.toNat
def z1d (s:ByteArray):Bool:=s.toList==ByteArray.toList ⟨#[105,110,116]⟩||s.toList==ByteArray.toList ⟨#[98,111,111,108]⟩||s.toList==ByteArray.toList ⟨#[105,102]⟩||s.toList==ByteArray.toList ⟨#[101,108,115,101]⟩||s.toList==ByteArray.toList ⟨#[119,104,105,108,101]⟩||s.toList==ByteArray.toList ⟨#[98,114,101,97,107]⟩||s.toList==ByteArray.toList ⟨#[99,111,110,116,105,110,117,101]⟩||s.toList==ByteArray.toList ⟨#[114,101,116,117,114,110]⟩||s.toList==ByteArray.toList ⟨#[112,114,105,110,116]⟩||s.toList==ByteArray.toList ⟨#[114,101,97,100]⟩||s.toList==ByteArray.toList ⟨#[116,114,117,101]⟩||s.toList==ByteArray.toList ⟨#[102,97,108,115,101]⟩||s.toList==ByteArray.toList ⟨#[105,56]⟩||s.toList==ByteArray.toList ⟨#[105,49,54]⟩||s.toList==ByteArray.toList ⟨#[105,51,50]⟩||s.toList==ByteArray.toList ⟨#[117,56]⟩||s.toList==ByteArray.toList ⟨#[117,49,54]⟩||s.toList==ByteArray.toList ⟨#[117,51,50]⟩
def z0i (s:ByteArray):Bool:=!(s.toList==[])&&decide ((s.size:Int)<=20)&&z4b (s.toList.headD 0).toNat && !z1d s&&s.toList.all isLD
mutual
def wtN:Nd->Nat
 | .mk _ _ _ name args outs params kids=>args.length+outs.length+params.length+name.size+wtK kids
def wtL:List Nd->Nat
 | []=>0
 | x::r=>wtN x+wtL r
def wtK:List (List Nd)->Nat
 | []=>0
 | l::r=>1+(l.length+wtL l)+wtK r
end
def z18 (l:List Nd):Nat:=l.length+wtL l
def wtA:List Ar->Nat
 | []=>0
 | a::r=>a.name.size+wtA r
def wtF:List Fl->Nat
 | []=>0
 | f::r=>f.name.size+f.types.length+z18 f.body+wtF r
def z0g (u:Un):Nat:=u.arrays.length+u.flows.length+wtA u.arrays+wtF u.flows
def z0v:ByteArray:=⟨#[109,97,105,110]⟩
def gArr (u:Un) (a:Ar) (i:Int):Bool:=z0i a.name && !decide (a.size<1) && !decide (a.size > 1000)&&(z0f a.name u.arrays 0==i) && !decide (z05 a.name u.flows 0 ≥ 0)
def r8gA (u:Un):List Ar->Int->Bool
 | [],_=>true
 | a::r,i=>gArr u a i&&r8gA u r (i+1)
def gFlw (u:Un) (f:Fl) (i:Int):Bool:=z0i f.name&&(z05 f.name u.flows 0==i)&&(f.ty==1||f.ty==2) && !decide (f.params<0) && !decide (f.params > f.types.length)
def r8gF (u:Un):List Fl->Int->Bool
 | [],_=>true
 | f::r,i=>gFlw u f i&&r8gF u r (i+1)
def y6d:Fl:=⟨⟨#[]⟩,0,0,[],[]⟩
def z9m (u:Un):Bool:=decide (z05 z0v u.flows 0 ≥ 0)&&(u.flows.getD (z05 z0v u.flows 0).toNat y6d).ty==1&&(u.flows.getD (z05 z0v u.flows 0).toNat y6d).params==0
def z1a (u:Un):Bool:=r8gA u u.arrays 0&&r8gF u u.flows 0&&z9m u
theorem zp3 (name:ByteArray):∀ (l:List Fl) (i:Int),0<=i->z05 name l i ≥ 0->∃ k:Nat,z05 name l i=i+k/\k<l.length
 | [],i,_,h=>by simp [z05] at h
 | f::r,i,hi,h=>by
  unfold z05 at h ⊢
  split
  ·exact ⟨0,by simp,by simp⟩
  ·rename_i hne
   rw [if_neg hne] at h
   obtain ⟨k,h1,h2⟩:=zp3 name r (i+1) oM0 h
   exact ⟨k+1,by omega,by simpa using h2⟩
theorem yi4 {u:Un}:∀ {l:List Fl} {i:Int},r8gF u l i=true->∀ g∈l,0<=g.params/\g.params<=g.types.length
 | [],_,_,g,hg=>by simp at hg
 | f::r,i,h,g,hg=>by
  simp only [r8gF,A0] at h
  rcases Ag.1 hg with rfl | hg
  ·have:=h.1
   simp only [gFlw,A0,Bg,C0] at this
   omega
  ·exact yi4 h.2 g hg
theorem z4t {u:Un} (h:z1a u=true):∀ g∈u.flows,0<=g.params/\g.params<=g.types.length:=by
 simp only [z1a,A0] at h
 exact yi4 h.1.2
def z2z:Wh:=⟨false,false,[],[],[]⟩
def iota (n:Nat):List Int:=(List.range n).map λ(i:Nat)=>(i:Int)
def z5a (k n:Nat):List Bool:=List.replicate k true++List.replicate (n - k) false
def z5q (u:Un) (f:Fl):Bool:=!decide (f.params<0) && !decide (f.params > 8) && !decide (f.params > f.types.length) && !decide ((f.types.length:Int) > 20000)&&f.types.all (λt=>t==1||t==2) &&
 (z2j u f 1 z2z (iota f.params.toNat) (z5a f.params.toNat f.types.length) f.body).1
theorem yy5 (n:Nat):iota n++[(n:Int)]=iota (n+1):=by simp [iota,List.range_succ]
theorem zz9 (n:Nat):(iota n).length=n:=by simp [iota]
theorem z3i {k n:Nat} (h:k<=n):(z5a k n).length=n:=by simp [z5a];omega
theorem yn3 {k n:Nat} (h:k<n):(z5a k n).set k true=z5a (k+1) n:=by
 unfold z5a
 rw [D9 _ _ sI0,E7,Nat.sub_self]
 have:n - k=(n - (k+1))+1:=by omega
 rw [this,F5,Fa,List.replicate_succ',C8]
 rfl
def z5j (u:Un):List Fl->Int->Int × Int
 | [],_=>(0,0)
 | f::r,i=>if z5q u f then z5j u r (i+1) else (80,i)
def z1g (u:Un):Int × Int:=if z1a u then z5j u u.flows 0 else (1,0)
mutual
theorem ndW_le:∀ x:Nd,ndW x<=1+wtN x
 | .mk k o n s a t p ks=>by
  have:=kdW_le ks
  simp only [ndW,wtN]
  omega
theorem y6s:∀ l:List Nd,lsW l<=l.length+wtL l
 | []=>by simp [lsW]
 | x::r=>by
  have h1:=ndW_le x
  have h2:=y6s r
  simp only [lsW,wtL,Ah]
  omega
theorem kdW_le:∀ l:List (List Nd),kdW l<=wtK l
 | []=>by simp [kdW]
 | x::r=>by
  have h1:=y6s x
  have h2:=kdW_le r
  simp only [kdW,wtK]
  omega
end
theorem ye8:∀ {l:List Fl} {f:Fl},f∈l->z18 f.body<=wtF l
 | g::r,f,h=>by
  rcases Ag.1 h with rfl | h
  ·simp only [wtF];omega
  ·have:=ye8 h;simp only [wtF];omega
def idxP {α:Type} (p:α -> Bool):List α -> Int->Int
 | [],_=>-1
 | x::r,i=>if p x then i else idxP p r (i+1)
theorem z5e {α:Type} (p:α -> Bool):∀ (l:List α) (i:Int),0<=i->decide (idxP p l i ≥ 0)=l.any p
 | [],_,_=>rfl
 | x::r,i,hi=>by
  unfold idxP
  cases hx:p x with
  | true=>simp [hx,hi]
  | false=>simp [hx,z5e p r (i+1) oM0]
def eqGo {S:Type} (p:S->Int->Int->Bool × S):S->List Int->List Int->Bool × S
 | s,x::a,y::b=>if (p s x y).1 then eqGo p (p s x y).2 a b else (false,(p s x y).2)
 | s,_,_=>(true,s)
def eqf {S:Type} (p:S->Int->Int->Bool × S) (s:S) (a b:List Int):Bool × S:=if (a.length:Int)=b.length then eqGo p s a b else (false,s)
theorem zt4:∀ l:List Nd,z09 l=l.any z2r
 | []=>rfl
 | x::r=>by simp [z09,zt4 r]
theorem zk4:∀ l:List (List Nd),z2y l=l.any z09
 | []=>rfl
 | x::r=>by simp [z2y,zk4 r]
def z7y (l:List Nd):Bool:=match l.getLast? with
 | some x=>x.kind==12
 | none=>false
theorem y1l (l:List Nd):(z2i l != 12) = !z7y l:=by
 unfold z2i z7y
 cases l.getLast? with
 | none=>rfl
 | some x =>
  simp only [z0t]
  by_cases h:x.kind=12
  ·simp [h]
  ·have hb:(x.kind==12)=false:=by simpa using h
   by_cases h2:(decide (x.kind ≥ 12)&&decide (x.kind<=15))=true
   ·simp only [h2,C3,bne,hb]
   ·simp [h2,h]
theorem y2t (name:ByteArray):∀ (l:List Fl) (i:Int),idxP (λf:Fl=>f.name.toList==name.toList) l i=z05 name l i
 | [],_=>rfl
 | f::r,i=>by
  unfold idxP z05 eqS
  rw [y2t name r]
theorem y0n (name:ByteArray):∀ (l:List Ar) (i:Int),0<=i->decide (z0f name l i ≥ 0)=l.any (λa:Ar=>a.name.toList==name.toList)
 | [],_,_=>rfl
 | f::r,i,hi=>by
  have ih:=y0n name r (i+1) oM0
  rw [G9,<- ih]
  rw [show z0f name (f::r) i=if (f.name.toList==name.toList)=true then i else z0f name r (i+1) from rfl]
  by_cases h:(f.name.toList==name.toList)=true
  ·rw [if_pos h,h];simp [hi]
  ·rw [if_neg h,(by simpa using h:(f.name.toList==name.toList)=false)];simp
def isTy (t:Int):Bool:=t==1||t==2
def z30 (op:Int):Int × Int :=
 if op==22 then (2,2) else if op==16||op==17 then (0,2) else if decide (op ≥ 12)&&decide (op<=15) then (1,2) else (1,1)
def wSigns:List ByteArray:=[⟨#[]⟩,⟨#[43]⟩,⟨#[45]⟩,⟨#[42]⟩,⟨#[47]⟩,⟨#[37]⟩,⟨#[38]⟩,⟨#[124]⟩,⟨#[94]⟩,⟨#[60,60]⟩,⟨#[62,62]⟩,⟨#[62,62,62]⟩,⟨#[60]⟩,⟨#[60,61]⟩,⟨#[62]⟩,⟨#[62,61]⟩,⟨#[61,61]⟩,⟨#[33,61]⟩,⟨#[38,38]⟩,⟨#[124,124]⟩,⟨#[45]⟩,⟨#[126]⟩,⟨#[33]⟩,⟨#[105,56]⟩,⟨#[105,49,54]⟩,⟨#[105,51,50]⟩,⟨#[117,56]⟩,⟨#[117,49,54]⟩,⟨#[117,51,50]⟩]
def zm8 (op:Int):ByteArray:=if op<0||op ≥ 29 then ⟨#[]⟩ else wSigns.getD op.toNat ⟨#[]⟩
def levelTab:List Int:=[0,9,9,10,10,10,5,3,4,8,8,8,7,7,7,7,6,6,2,1,0,0,0,0,0,0,0,0,0]
def z4a (op:Int):Int:=if op<0||op ≥ 29 then 0 else levelTab.getD op.toNat 0
theorem yv2 {op:Int} (h0:0<=op) (h1:op<29):op=0∨op=1∨op=2∨op=3∨op=4∨op=5∨op=6∨op=7∨op=8∨op=9∨op=10∨op=11∨op=12∨op=13∨op=14∨op=15∨op=16∨op=17∨op=18∨op=19∨op=20∨op=21∨op=22∨op=23∨op=24∨op=25∨op=26∨op=27∨op=28:=by omega
def ckS (u:Un) (f:Fl) (it:TypeId) (st:List Int):List (Nat × HO):=[(3,.box (y44 u f (st.map eInt).length)),(4,.row ⟨it,1⟩ (st.map eInt))]
def z9c (tys:List Int) (v t:Int):Bool:=decide (0<=v)&&decide (v<tys.length)&&(t==0||tys.getD v.toNat 0==t)
def zq9 (tys:List Int) (st:List Int) (v t:Int):Bool × List Int:=(z9c tys v t&&st.getD v.toNat 0==1,st)
def z5o (tys:List Int) (st:List Int) (v t:Int):Bool × List Int:=if z9c tys v t&&st.getD v.toNat 0==0 then (true,st.set v.toNat 1) else (false,st)
def z0u (tys st l want:List Int):Bool:=(eqf (zq9 tys) st l want).1
def z1k (tys st l want:List Int):Bool × List Int:=eqf (z5o tys) st l want
def z3e (st l:List Int):List Int:=l.foldl (λs v=>s.set v.toNat 2) st
theorem z9b (tys st:List Int) (v t:Int):(z5o tys st v t).2.length=st.length:=by
 unfold z5o;split<;>simp
theorem zf1 (tys:List Int):∀ (a b st:List Int),(eqGo (z5o tys) st a b).2.length=st.length
 | [],_,st=>by simp [eqGo]
 | _::_,[],st=>by simp [eqGo]
 | x::a,y::b,st=>by
  simp only [eqGo]
  split
  ·rw [zf1 tys a b,z9b]
  ·exact z9b ..
theorem z21 (tys st a b:List Int):(z1k tys st a b).2.length=st.length:=by
 unfold z1k eqf
 split
 ·exact zf1 ..
 ·rfl
theorem z4h:∀ (l st:List Int),(z3e st l).length=st.length
 | [],st=>rfl
 | v::r,st=>by
  have:=z4h r (st.set v.toNat 2)
  simpa [z3e] using this
theorem y3t (tys:List Int):∀ (a b st:List Int),a.length=b.length->(eqGo (z5o tys) st a b).1=true->∀ v∈a,0<=v/\v<tys.length
 | [],_,st,_,_,v,hv=>by simp at hv
 | _::_,[],_,hl,_,_,_=>by simp at hl
 | x::a,y::b,st,hl,h,v,hv=>by
  simp only [eqGo] at h
  split at h
  ·rename_i h1
   rcases Ag.1 hv with rfl | hv
   ·unfold z5o at h1
    split at h1
    ·rename_i h2
     simp only [z9c,A0,Be] at h2
     exact ⟨h2.1.1.1,h2.1.1.2⟩
    ·cases h1
   ·exact y3t tys a b _ (by simpa using hl) h v hv
  ·cases h
theorem y1i {tys st a b:List Int} (h:(z1k tys st a b).1=true):∀ v∈a,0<=v/\v<tys.length:=by
 unfold z1k eqf at h
 split at h
 ·exact y3t tys a b st oM0 h
 ·cases h
def ckSp (u:Un) (f:Fl) (it:TypeId) (q:Nat) (st:List Int):List (Nat × HO):=(q,.box [.ptr 3 0])::ckS u f it st
def andP {S:Type} (b:Bool) (s:S) (r:Bool × S):Bool × S:=if b then r else (false,s)
def andQ {S:Type} (r:Bool × S) (k:S->Bool × S):Bool × S:=if r.1 then k r.2 else (false,r.2)
theorem yt1 {tys st a b:List Int} (h:z0u tys st a b=true):a.length=b.length:=by
 unfold z0u eqf at h
 split at h
 ·omega
 ·cases h
theorem yt2 {tys st l:List Int} {t:Int} (h:z0u tys st l [t,t]=true):∃ a b,l=[a,b]/\a=(a.toNat:Int)/\a.toNat<tys.length/\b=(b.toNat:Int)/\b.toNat<tys.length:=by
 have hl:=yt1 h
 match l,hl with
 | [a,b],_ =>
  unfold z0u eqf at h
  simp only [Ah,Ax,C3,eqGo] at h
  split at h
  ·rename_i h1
   split at h
   ·rename_i h2
    simp only [zq9,z9c,A0,Be] at h1 h2
    exact ⟨a,b,rfl,by omega,by omega,by omega,by omega⟩
   ·cases h
  ·cases h
def y89 (f:Fl) (st:List Int) (x:Nd):Bool × List Int :=
 if x.kind==3 then andP (z2t x.op&&z0u f.types st x.args [(z30 x.op).1]) st (z1k f.types st x.outs [(z30 x.op).2])
 else andP (decide (z4a x.op > 0)&&decide (x.op<=17)&&z0u f.types st x.args [(z30 x.op).1,(z30 x.op).1]&&f.types.getD (x.args.getD 0 0).toNat 0==f.types.getD (x.args.getD 1 0).toNat 0) st (z1k f.types st x.outs [(z30 x.op).2])
def y86 (f:Fl) (st:List Int) (x:Nd) (w:Wh):Bool :=
 if x.kind==12 then (x.outs.length:Int)==0&&w.If&&z0u f.types st x.args w.Yield
 else if x.kind==13 then (x.outs.length:Int)==0&&w.Loop&&z0u f.types st x.args w.Next
 else if x.kind==14 then (x.outs.length:Int)==0&&w.Loop&&z0u f.types st x.args w.Left
 else (x.outs.length:Int)==0&&z0u f.types st x.args [f.ty]
def zu4 (u:Un) (f:Fl) (st:List Int) (x:Nd):Bool × List Int :=
 if z05 x.name u.flows 0<0 then (false,st) else
  match u.flows[(z05 x.name u.flows 0).toNat]? with
  | some g=>andP (z0u f.types st x.args (g.types.take g.params.toNat)) st (z1k f.types st x.outs [g.ty])
  | none=>(false,st)
def z2e (u:Un) (f:Fl) (st:List Int) (x:Nd):Bool × List Int :=
 if x.kind==1 then andP (z0u f.types st x.args []) st (z1k f.types st x.outs [1])
 else if x.kind==2 then andP ((x.n==0||x.n==1)&&z0u f.types st x.args []) st (z1k f.types st x.outs [2])
 else if x.kind==3||x.kind==4 then y89 f st x
 else if x.kind==5 then andP (decide (z0f x.name u.arrays 0 ≥ 0)&&z0u f.types st x.args [1]) st (z1k f.types st x.outs [1])
 else if x.kind==6 then andP (decide (z0f x.name u.arrays 0 ≥ 0)&&z0u f.types st x.args [1,1]) st (z1k f.types st x.outs [])
 else if x.kind==8 then andP (z0u f.types st x.args []) st (z1k f.types st x.outs [1])
 else if x.kind==9 then andP (z0u f.types st x.args [1]) st (z1k f.types st x.outs [])
 else if x.kind==7 then zu4 u f st x
 else (false,st)
theorem z8t {b:Bool} {st:List Int} {r:Bool × List Int} (h:r.2.length=st.length):(andP b st r).2.length=st.length:=by
 unfold andP;split
 ·exact h
 ·rfl
theorem y8a (f:Fl) (st:List Int) (x:Nd):(y89 f st x).2.length=st.length:=by
 unfold y89;split<;>exact z8t (z21 ..)
theorem y5o (u:Un) (f:Fl) (st:List Int) (x:Nd):(zu4 u f st x).2.length=st.length:=by
 unfold zu4
 split
 ·rfl
 ·split
  ·exact z8t (z21 ..)
  ·rfl
theorem y1j (u:Un) (f:Fl) (st:List Int) (x:Nd):(z2e u f st x).2.length=st.length:=by
 unfold z2e
 repeat' split
 all_goals first
  | exact z8t (z21 ..)
  | exact y8a ..
  | exact y5o ..
  | rfl
def z48 (f:Fl) (x:Nd) (st:List Int):Bool × List Int:=andP ((x.outs.length:Int)==0 || !z07 x) st (z1k f.types st x.outs (List.replicate x.outs.length 0))
def z47 (st:List Int) (l:List Nd):List Int:=l.foldl (λs x=>z3e s x.outs) st
def y87 (l:List Nd) (s:List Int):Bool × List Int:=(decide ((l.length:Int) > 0),z47 s l)
mutual
def z5r (u:Un) (f:Fl) (deep:Int) (w:Wh) (st:List Int):Nd->Bool × List Int
 | .mk kind op n name args outs params kids =>
  if !z1j (.mk kind op n name args outs params kids) then (false,st)
  else if kind==10 then
   match kids with
   | a::b::_ =>
    if z0u f.types st args [2] then
     andQ (andQ (shGo u f (deep+1) ⟨true,w.Loop,r8of f.types outs,w.Next,w.Left⟩ st a) (y87 a)) λs1 =>
     andQ (andQ (shGo u f (deep+1) ⟨true,w.Loop,r8of f.types outs,w.Next,w.Left⟩ s1 b) (y87 b)) λs2 =>
     z48 f (.mk kind op n name args outs params kids) s2
    else (false,st)
   | _=>(false,st)
  else if kind==11 then
   if z0u f.types st args (r8of f.types params) then
    andQ (z1k f.types st params (List.replicate params.length 0)) λs1 =>
    match kids with
    | a::_ =>
     andQ (andQ (shGo u f (deep+1) ⟨false,true,[],r8of f.types params,r8of f.types outs⟩ s1 a) (y87 a)) λs2 =>
     z48 f (.mk kind op n name args outs params kids) (z3e s2 params)
    | _=>(false,s1)
   else (false,st)
  else if z0t kind then (y86 f st (.mk kind op n name args outs params kids) w,st)
  else z2e u f st (.mk kind op n name args outs params kids)
def shGo (u:Un) (f:Fl) (deep:Int) (w:Wh) (st:List Int):List Nd->Bool × List Int
 | []=>(true,st)
 | x::r =>
  if deep > 100 then (false,st)
  else andQ (z5r u f deep w st x) λs1 =>
   if z07 x != r.isEmpty then (false,s1)
   else shGo u f deep w s1 r
end
def z1x (u:Un) (f:Fl) (deep:Int) (w:Wh) (st:List Int) (l:List Nd):Bool × List Int:=andQ (shGo u f deep w st l) (y87 l)
theorem z3h {r:Bool × List Int} {k:List Int->Bool × List Int} {n:Nat} (h1:r.2.length=n) (h2:∀ s,s.length=n->(k s).2.length=n):(andQ r k).2.length=n:=by
 unfold andQ;split
 ·exact h2 _ h1
 ·exact h1
theorem z6l:∀ (l:List Nd) (st:List Int),(z47 st l).length=st.length
 | [],_=>rfl
 | x::r,st=>by
  have:=z6l r (z3e st x.outs)
  rw [z4h] at this
  simpa [z47] using this
theorem zl8 {f:Fl} {x:Nd} {st:List Int} {n:Nat} (h:st.length=n):(z48 f x st).2.length=n:=(z8t (z21 ..)).trans h
theorem z7x {l:List Nd} {s:List Int} {n:Nat} (h:s.length=n):(y87 l s).2.length=n:=(z6l l s).trans h
mutual
theorem zl7 (u:Un) (f:Fl):∀ (x:Nd) (deep:Int) (w:Wh) (st:List Int),(z5r u f deep w st x).2.length=st.length
 | .mk kind op n name args outs params kids,deep,w,st=>by
  unfold z5r
  split
  ·rfl
  split
  ·match kids with
   | []=>rfl
   | [_]=>rfl
   | a::b::_ =>
    simp only
    split
    ·exact z3h (z3h (z7j u f a ..) λs hs=>z7x hs) λs hs=>z3h (z3h ((z7j u f b ..).trans hs) λs hs=>z7x hs) λs hs=>zl8 hs
    ·rfl
  split
  ·split
   ·refine z3h (z21 ..) λs hs=>?_
    match kids with
    | []=>exact hs
    | a::_=>exact z3h (z3h ((z7j u f a ..).trans hs) λs hs=>z7x hs) λs hs=>zl8 ((z4h ..).trans hs)
   ·rfl
  split
  ·rfl
  ·exact y1j ..
theorem z7j (u:Un) (f:Fl):∀ (l:List Nd) (deep:Int) (w:Wh) (st:List Int),(shGo u f deep w st l).2.length=st.length
 | [],_,_,_=>by simp [shGo]
 | x::r,deep,w,st=>by
  unfold shGo
  split
  ·rfl
  ·refine z3h (zl7 u f x ..) λs hs=>?_
   split
   ·exact hs
   ·exact (z7j u f r ..).trans hs
end
theorem z99 (u:Un) (f:Fl) (deep:Int) (w:Wh) (st:List Int) (l:List Nd):(z1x u f deep w st l).2.length=st.length:=z3h (z7j ..) λ_ h=>z7x h
theorem zh9 (u:Un) (f:Fl) (deep:Int) (w:Wh) (st:List Int) {x:Nd} (h:z1j x=false):z5r u f deep w st x=(false,st):=by
 cases x;unfold z5r;simp [h]
theorem y1h (u:Un) (f:Fl) (deep:Int) (w:Wh) (st:List Int) {x:Nd} {a b:List Nd} (h:z1j x=true) (hk:x.kind=10) (hx:x.kids=[a,b]) :
 z5r u f deep w st x=if z0u f.types st x.args [2] then andQ (z1x u f (deep+1) ⟨true,w.Loop,r8of f.types x.outs,w.Next,w.Left⟩ st a) (λs1=>andQ (z1x u f (deep+1) ⟨true,w.Loop,r8of f.types x.outs,w.Next,w.Left⟩ s1 b) λs2=>z48 f x s2) else (false,st):=by
 cases x
 simp only [Nd.kind,Nd.kids] at hk hx
 subst hk hx
 unfold z5r
 simp only [h,Fk,Ak,Bv,Nd.args,Nd.outs]
 rfl
theorem zi0 (u:Un) (f:Fl) (deep:Int) (w:Wh) (st:List Int) {x:Nd} {a:List Nd} (h:z1j x=true) (hk:x.kind=11) (hx:x.kids=[a]) :
 z5r u f deep w st x=if z0u f.types st x.args (r8of f.types x.params) then andQ (z1k f.types st x.params (List.replicate x.params.length 0)) (λs1=>andQ (z1x u f (deep+1) ⟨false,true,[],r8of f.types x.params,r8of f.types x.outs⟩ s1 a) λs2=>z48 f x (z3e s2 x.params)) else (false,st):=by
 cases x
 simp only [Nd.kind,Nd.kids] at hk hx
 subst hk hx
 unfold z5r
 simp only [h,Fk,Ak,Bv,Nd.args,Nd.outs,Nd.params]
 rfl
theorem zq8 (u:Un) (f:Fl) (deep:Int) (w:Wh) (st:List Int) {x:Nd} (h:z1j x=true) (h1:(x.kind==10)=false) (h2:(x.kind==11)=false) (h3:z0t x.kind=true):z5r u f deep w st x=(y86 f st x w,st):=by
 cases x
 simp only [Nd.kind] at h1 h2 h3
 unfold z5r
 simp [h,h1,h2,h3]
theorem z9a (u:Un) (f:Fl) (deep:Int) (w:Wh) (st:List Int) {x:Nd} (h:z1j x=true) (h1:(x.kind==10)=false) (h2:(x.kind==11)=false) (h3:z0t x.kind=false):z5r u f deep w st x=z2e u f st x:=by
 cases x
 simp only [Nd.kind] at h1 h2 h3
 unfold z5r
 simp [h,h1,h2,h3]
theorem y62 {S:Type} {b:Bool} {s:S} {r:Bool × S} (h:(andP b s r).1=true):b=true/\r.1=true:=by
 unfold andP at h;split at h
 ·rename_i hb;exact ⟨hb,h⟩
 ·cases h
theorem z9q {S:Type} {r:Bool × S} {k:S->Bool × S} (h:(andQ r k).1=true):r.1=true/\(k r.2).1=true:=by
 unfold andQ at h;split at h
 ·rename_i hb;exact ⟨hb,h⟩
 ·cases h
theorem y1k {f:Fl} {x:Nd} {st:List Int} (h:(z48 f x st).1=true):∀ v∈x.outs,0<=v/\v<f.types.length:=y1i (y62 h).2
theorem y5q {u:Un} {f:Fl} {st:List Int} {x:Nd} (h:(z2e u f st x).1=true):∀ v∈x.outs,0<=v/\v<f.types.length:=by
 unfold z2e y89 zu4 at h
 repeat' split at h
 all_goals first
  | exact y1i (y62 h).2
  | cases h
theorem yt0 {f:Fl} {st:List Int} {x:Nd} {w:Wh} (h:y86 f st x w=true):x.outs=[]:=by
 unfold y86 at h
 have key:∀ b:Bool,((x.outs.length:Int)==0&&b)=true->x.outs=[]:=λb hb=>by
  simp only [A0,As] at hb
  exact At oM0
 repeat' split at h
 all_goals first
  | exact key _ h
  | (rw [Ef] at h;exact key _ h)
theorem yd0 {u:Un} {f:Fl} {deep:Int} {w:Wh} {st:List Int} {x:Nd} (h:(z5r u f deep w st x).1=true):∀ v∈x.outs,0<=v/\v<f.types.length:=by
 cases hb:z1j x with
 | false=>rw [zh9 _ _ _ _ _ hb] at h;cases h
 | true =>
  by_cases h10:x.kind=10
  ·obtain ⟨a,b,hk⟩:=z3o hb h10
   rw [y1h _ _ _ _ _ hb h10 hk] at h
   split at h
   ·exact y1k (z9q (z9q h).2).2
   ·cases h
  ·by_cases h11:x.kind=11
   ·obtain ⟨a,hk⟩:=z1y hb h11
    rw [zi0 _ _ _ _ _ hb h11 hk] at h
    split at h
    ·exact y1k (z9q (z9q h).2).2
    ·cases h
   ·have e10:(x.kind==10)=false:=by simpa using h10
    have e11:(x.kind==11)=false:=by simpa using h11
    cases he:z0t x.kind with
    | true=>rw [zq8 _ _ _ _ _ hb e10 e11 he] at h;intro v hv;rw [yt0 h] at hv;simp at hv
    | false=>rw [z9a _ _ _ _ _ hb e10 e11 he] at h;exact y5q h
theorem y88 {u:Un} {f:Fl} {deep:Int} {w:Wh}:∀ {l:List Nd} {st:List Int},(shGo u f deep w st l).1=true->∀ x∈l,∀ v∈x.outs,0<=v/\v<f.types.length
 | [],_,_,x,hx=>by simp at hx
 | y::r,st,h,x,hx=>by
  unfold shGo at h
  split at h
  ·cases h
  ·obtain ⟨h1,h2⟩:=z9q h
   split at h2
   ·cases h2
   ·rcases Ag.1 hx with rfl | hx
    ·exact yd0 h1
    ·exact y88 h2 x hx
theorem y4k:∀ {l:List Nd} {x:Nd},x∈l->ndW x<=lsW l
 | y::r,x,h=>by
  rcases Ag.1 h with rfl | h
  ·simp only [lsW];omega
  ·have:=y4k h;simp only [lsW];omega
theorem z86:∀ {ks:List (List Nd)} {q:List Nd},q∈ks->lsW q<=kdW ks
 | y::r,x,h=>by
  rcases Ag.1 h with rfl | h
  ·simp only [kdW];omega
  ·have:=z86 h;simp only [kdW];omega
def zl5 (k n:Nat):List Int:=List.replicate k 1++List.replicate (n - k) 0
def y1g (u:Un) (f:Fl):Bool:=!(decide (f.params > 8)||decide ((f.types.length:Int) > 20000)||f.types.any (λt=>!isTy t))&&(z1x u f 1 z2z (zl5 f.params.toNat f.types.length) f.body).1
theorem zu3 {k n:Nat} (h:k<=n):(zl5 k n).length=n:=by simp [zl5];omega
theorem j29 {k n:Nat} (h:k<n):(zl5 k n).set k 1=zl5 (k+1) n:=by
 unfold zl5
 rw [D9 _ _ sI0,E7,Nat.sub_self]
 have:n - k=(n - (k+1))+1:=by omega
 rw [this,F5,Fa,List.replicate_succ',C8]
 rfl
def bump (s:ByteArray) (es:List (Value × PV)):List (Value × PV) :=
 mput (.string s) (match z1f (.string s) es with | some (.val (.int .i64 n))=>.val (.int .i64 (IntKind.i64.wrap (n+1))) | _=>.val (.int .i64 1)) es
def zv2 (a:Ar):Bool:=z0i a.name && !decide (a.size<1) && !decide (a.size > 1000)
def zl6 (f:Fl):Bool:=z0i f.name&&isTy f.ty && !decide (f.params<0) && !decide (f.params > f.types.length)
def zy2 (es:List (Value × PV)) (l:List Ar):List (Value × PV):=l.foldl (λe a=>bump a.name e) es
def y2h (es:List (Value × PV)) (l:List Fl):List (Value × PV):=l.foldl (λe a=>bump a.name e) es
def z8q (u:Un):Bool:=u.arrays.all zv2&&u.flows.all zl6&&((y2h (zy2 [] u.arrays) u.flows).length:Int)==u.arrays.length+u.flows.length&&z9m u
def z9d (u:Un):List Fl->Int->Int × Int
 | [],_=>(0,0)
 | f::r,i=>if y1g u f then z9d u r (i+1) else (80,i)
def z4k (u:Un):Int × Int:=if z8q u then z9d u u.flows 0 else (1,0)
theorem y5p {u:Un} (h:z8q u=true):∀ g∈u.flows,0<=g.params/\g.params<=g.types.length:=by
 simp only [z8q,A0,Bc] at h
 intro g hg
 have:=h.1.1.2 g hg
 simp only [zl6,A0,Bg,C0] at this
 omega
theorem zm2 {α:Type} {p:α -> Bool}:∀ {l:List α} {k:Nat} {x:α},(l.take k).all p=true->l[k]? = some x->p x=false->(l.takeWhile p).length=k/\l.all p=false
 | [],k,x,_,h,_=>by simp at h
 | a::r,0,x,_,h,hx=>by
  simp only [Cq,Cm] at h
  subst h
  simp [hx]
 | a::r,k+1,x,h,hg,hx=>by
  simp only [F6,D4,A0] at h
  obtain ⟨h1,h2⟩:=zm2 h.2 (by simpa using hg) hx
  simp [h.1,h1,h2]
def yq1 (s:ByteArray):ByteArray:=if s.toList.all isLD then s else s.extract 0 (s.toList.takeWhile isLD).length
theorem runOf_at {s:ByteArray} {k:Nat} {b:UInt8} (h:(s.toList.take k).all isLD=true) (hb:s.toList[k]? = some b) (hn:isLD b=false):yq1 s=s.extract 0 k:=by
 obtain ⟨h1,h2⟩:=zm2 h hb hn
 simp [yq1,h1,h2]
theorem runOf_eq (s:ByteArray):((yq1 s).toList==s.toList)=s.toList.all isLD:=by
 unfold yq1
 cases h:s.toList.all isLD with
 | true=>simp
 | false =>
  simp only [Ak,Bv]
  have hlt:(s.toList.takeWhile isLD).length<s.toList.length:=by
   rcases Ea (s.toList.takeWhile isLD).length s.toList.length with h1 | h1
   ·exact h1
   ·have hp:=Eu (l:=s.toList) isLD
    have he:=hp.eq_of_length_le h1
    have:s.toList.all isLD=true:=by rw [<- he];exact List.all_takeWhile
    rw [h] at this;cases this
  have hne:(s.extract 0 (s.toList.takeWhile isLD).length).toList≠s.toList:=by
   intro he
   have:=A7 List.length he
   rw [zx9,Ch,zx9] at this
   rw [zx9] at hlt
   omega
  simpa using hne
theorem ym9 {s:ByteArray} {k:Nat} (h:k<s.toList.length):((s.toList[k]).toNat<128->Utf8.decode s k=((s.toList[k]).toNat,1))/\(128<=(s.toList[k]).toNat->128<=(Utf8.decode s k).1):=by
 have hk:k<s.size:=by rwa [zx9] at h
 have e0:s.get! (k+0)=s.toList[k]:=by
  have h2:=y2d h
  rw [getElem?_pos s k hk] at h2
  rw [<- Bz h2]
  show s.get! k=_
  simp [ByteArray.get!,getElem!_pos,hk]
  rfl
 refine ⟨λhb=>?_,λhb=>?_⟩
 ·simp only [Utf8.decode,e0,hb,C3]
 ·have hn:¬ (s.toList[k]).toNat<128:=by omega
  simp only [Utf8.decode,e0]
  rw [if_neg (by simpa using hn)]
  repeat' split
  all_goals first
   | (simp [Utf8.runeError];done)
   | (rename_i hc;simp only [ge_iff_le,A0,Be] at hc;simp only;omega)
def y21 (r:Int):Bool:=z4b r||z3p r
theorem y6n {r:Int} (h:y21 r=true):r<128:=by
 simp only [y21,z4b,z3p,Bk,A0,Be,As] at h
 omega
theorem zy5 {s:ByteArray} {k:Nat} (h:k<s.toList.length):(y21 (Utf8.decode s k).1=true->(Utf8.decode s k).2=1/\isLD s.toList[k]=true)/\(y21 (Utf8.decode s k).1=false->isLD s.toList[k]=false):=by
 obtain ⟨h1,h2⟩:=ym9 h
 by_cases hb:(s.toList[k]).toNat<128
 ·rw [h1 hb]
  exact ⟨λh=>⟨rfl,h⟩,λh=>h⟩
 ·have h3:=h2 oM0
  refine ⟨λhl=>?_,λ_=>?_⟩
  ·have:=y6n hl;omega
  ·cases hd:isLD s.toList[k] with
   | false=>rfl
   | true=>have:=y6n (r:=((s.toList[k]).toNat:Int)) hd;omega
def Cnt (es:List (Value × PV)):Prop:=(∀ e∈es,z1r .string e.1=true)/\∀ e∈es,∃ n,e.2=vInt n
theorem z3u {k:Value} {v:PV}:∀ {es:List (Value × PV)} {e:Value × PV},e∈mput k v es->e=(k,v)∨e∈es
 | [],e,h=>by simp [mput] at h;exact .inl h
 | (a,p)::r,e,h=>by
  simp only [mput] at h
  split at h
  ·rcases Ag.1 h with rfl | h
   ·exact .inl rfl
   ·exact .inr (.tail _ h)
  ·rcases Ag.1 h with rfl | h
   ·exact .inr (.head _)
   ·rcases z3u h with h | h
    ·exact .inl h
    ·exact .inr (.tail _ h)
theorem z78 {k:Value} {p:PV}:∀ {es:List (Value × PV)},z1f k es=some p->∃ a,(a,p)∈es
 | (a,q)::r,h=>by
  simp only [z1f] at h
  split at h
  ·cases h;exact ⟨a,.head _⟩
  ·obtain ⟨b,hb⟩:=z78 h;exact ⟨b,.tail _ hb⟩
theorem Cnt.find {es:List (Value × PV)} (h:Cnt es) (k:Value):∃ n,(z1f k es).getD (.val (.int .i64 0))=vInt n:=by
 cases hf:z1f k es with
 | none=>exact ⟨0,rfl⟩
 | some p=>obtain ⟨a,ha⟩:=z78 hf;obtain ⟨n,hn⟩:=h.2 _ ha;exact ⟨n,hn⟩
theorem zf4 {es:List (Value × PV)} {s:ByteArray} {n:Int} (h:(z1f (.string s) es).getD (.val (.int .i64 0))=vInt n):bump s es=mput (.string s) (vInt (IntKind.i64.wrap (n+1))) es:=by
 unfold bump
 cases hf:z1f (.string s) es with
 | none =>
  rw [hf] at h
  simp only [Option.getD_none,vInt,PV.val.injEq,Value.int.injEq,true_and] at h
  subst h
  rfl
 | some p =>
  rw [hf] at h
  simp only [Ce] at h
  subst h
  rfl
theorem Cnt.bump {es:List (Value × PV)} (h:Cnt es) (s:ByteArray):Cnt (bump s es):=by
 obtain ⟨n,hn⟩:=h.find (.string s)
 rw [zf4 hn]
 refine ⟨λe he=>?_,λe he=>?_⟩
 ·rcases z3u he with rfl | he
  ·rfl
  ·exact h.1 e he
 ·rcases z3u he with rfl | he
  ·exact ⟨_,rfl⟩
  ·exact h.2 e he
theorem Cnt.nil:Cnt []:=⟨λ_ h=>by simp at h,λ_ h=>by simp at h⟩
structure Rl (n:Nat) (st:List Int) (set:List Bool) (seen:List Int):Prop where
 l1:st.length=n
 l2:set.length=n
 s:∀ v:Nat,v<n->set.getD v false = !(st.getD v 0==0)
 u:∀ v:Nat,v<n->seen.contains (v:Int)=(st.getD v 0==1)
theorem zi9 {α:Type} {l:List α} {i j:Nat} {a d:α}:(l.set i a).getD j d=if i=j/\i<l.length then a else l.getD j d:=by
 simp only [Ay,List.getElem?_set]
 by_cases h:i=j
 ·subst h
  by_cases h2:i<l.length
  ·simp [h2]
  ·simp [h2]
 ·simp [h]
theorem use_rl {tys st:List Int} {set:List Bool} {seen:List Int} (h:Rl tys.length st set seen) (v w:Int):zb5 tys seen v w=(zq9 tys st v w).1:=by
 unfold zb5 zq9 z9c
 by_cases h0:0<=v
 ·by_cases h1:v<tys.length
  ·have hv:v=(v.toNat:Int):=by omega
   have hu:=h.u v.toNat oM0
   rw [<- hv] at hu
   have e1:decide (v<0)=false:=by simpa using h0
   have e2:decide (v ≥ tys.length)=false:=by simpa using h1
   have e3:decide (0<=v)=true:=by simpa using h0
   have e4:decide (v<tys.length)=true:=by simpa using h1
   simp only [e1,e2,e3,e4,hu,C7,B3]
   clear hv e1 e2 e3 e4
   cases hw:(w==0)<;>cases ht:(tys.getD v.toNat 0==w)<;>cases hs:(st.getD v.toNat 0==1)<;>simp_all [bne]
  ·have e2:decide (v ≥ tys.length)=true:=by simp;omega
   have e4:decide (v<tys.length)=false:=by simp;omega
   simp [e2,e4]
 ·have e1:decide (v<0)=true:=by simp;omega
  have e3:decide (0<=v)=false:=by simp;omega
  simp [e1,e3]
theorem y8g {tys st:List Int} {set:List Bool} {seen:List Int} (h:Rl tys.length st set seen):∀ (a b:List Int),z16 tys seen a b=(eqGo (zq9 tys) st a b).1
 | [],_=>by simp [z16,eqGo]
 | _::_,[]=>by simp [z16,eqGo]
 | x::a,y::b=>by
  simp only [z16,eqGo,use_rl h x y]
  have h2:(zq9 tys st x y).2=st:=rfl
  cases hx:(zq9 tys st x y).1 with
  | true=>simp [h2,y8g h a b]
  | false=>simp
theorem ye0 {tys st:List Int} {set:List Bool} {seen:List Int} (h:Rl tys.length st set seen) (a b:List Int):z06 tys seen a b=z0u tys st a b:=by
 unfold z06 z0u eqf
 by_cases hl:(a.length:Int)=b.length
 ·rw [if_pos hl]
  have:((a.length:Int)==b.length)=true:=by simpa using hl
  rw [this,B3,y8g h]
 ·rw [if_neg hl]
  have:((a.length:Int)==b.length)=false:=by simpa using hl
  rw [this,Cu]
theorem set1_rl {tys st:List Int} {set:List Bool} {seen:List Int} (h:Rl tys.length st set seen) (v w:Int) :
 z8y tys set v w = !(z5o tys st v w).1/\((z5o tys st v w).1=true->Rl tys.length (z5o tys st v w).2 (set.set v.toNat true) (seen++[v])/\0<=v/\v<tys.length/\seen.contains v=false):=by
 unfold z8y z5o z9c
 by_cases h0:0<=v
 ·by_cases h1:v<tys.length
  ·have hv:v=(v.toNat:Int):=by omega
   have hn:v.toNat<tys.length:=by omega
   have hs:=h.s v.toNat hn
   have hu:=h.u v.toNat hn
   rw [<- hv] at hu
   have e1:decide (v<0)=false:=by simpa using h0
   have e2:decide (v ≥ tys.length)=false:=by simpa using h1
   have e3:decide (0<=v)=true:=by simpa using h0
   have e4:decide (v<tys.length)=true:=by simpa using h1
   simp only [e1,e2,e3,e4,hs,C7,B3]
   refine ⟨by clear hv e1 e2 e3 e4;cases hw:(w==0)<;>cases ht:(tys.getD v.toNat 0==w)<;>cases hz:(st.getD v.toNat 0==0)<;>simp_all [bne],λhc=>?_⟩
   split at hc
   ·rename_i hif
    rw [if_pos hif]
    simp only [A0] at hif
    have hz:st.getD v.toNat 0=0:=by simpa using hif.2
    refine ⟨⟨by simpa using h.l1,by simpa using h.l2,λj hj=>?_,λj hj=>?_⟩,h0,h1,by rw [hu,hz];rfl⟩
    ·rw [zi9,zi9]
     by_cases e:v.toNat=j
     ·subst e;simp [h.l1,h.l2,hn]
     ·simp only [e,false_and,Bv];exact h.s j hj
    ·rw [zi9]
     simp only [Bp,E3,List.contains_nil,Dt]
     by_cases e:v.toNat=j
     ·subst e
      have:((v.toNat:Int)==v)=true:=by simpa using hv.symm
      rw [this,Bb,if_pos ⟨rfl,by rw [h.l1];exact hn⟩];rfl
     ·have:((j:Int)==v)=false:=by simp;omega
      simp only [e,false_and,Bv,this,Dt]
      exact h.u j hj
   ·cases hc
  ·have e2:decide (v ≥ tys.length)=true:=by simp;omega
   have e4:decide (v<tys.length)=false:=by simp;omega
   simp [e2,e4]
 ·have e1:decide (v<0)=true:=by simp;omega
  have e3:decide (0<=v)=false:=by simp;omega
  simp [e1,e3]
theorem y84 {tys:List Int}:∀ (a b st:List Int) (set:List Bool) (seen:List Int),a.length=b.length->Rl tys.length st set seen ->
 (z2c tys set a b).1=(eqGo (z5o tys) st a b).1/\((eqGo (z5o tys) st a b).1=true->Rl tys.length (eqGo (z5o tys) st a b).2 (z2c tys set a b).2 (seen++a)/\∀ v∈a,0<=v/\v<tys.length/\seen.contains v=false)
 | [],_,st,set,seen,_,h=>by simp [z2c,eqGo];exact h
 | _::_,[],_,_,_,hl,_=>by simp at hl
 | x::a,y::b,st,set,seen,hl,h=>by
  obtain ⟨h1,h2⟩:=set1_rl h x y
  simp only [z2c,eqGo,h1]
  cases hx:(z5o tys st x y).1 with
  | false=>simp
  | true =>
   obtain ⟨h3,h4,h5,h6⟩:=h2 hx
   obtain ⟨ih1,ih2⟩:=y84 a b _ _ _ (by simpa using hl) h3
   simp only [Fk,Ak,Bv,C3]
   refine ⟨ih1,λhc=>?_⟩
   obtain ⟨h7,h8⟩:=ih2 hc
   refine ⟨by simpa using h7,λv hv=>?_⟩
   rcases Ag.1 hv with rfl | hv
   ·exact ⟨h4,h5,h6⟩
   ·obtain ⟨g1,g2,g3⟩:=h8 v hv
    refine ⟨g1,g2,?_⟩
    rw [Bp,Bt] at g3
    exact g3.1
theorem j2d {tys st:List Int} {set:List Bool} {seen:List Int} (h:Rl tys.length st set seen) (a b:List Int) :
 (z1p tys set a b).1=(z1k tys st a b).1/\((z1k tys st a b).1=true->Rl tys.length (z1k tys st a b).2 (z1p tys set a b).2 (seen++a)/\∀ v∈a,0<=v/\v<tys.length/\seen.contains v=false):=by
 unfold z1p z1k eqf
 by_cases hl:(a.length:Int)=b.length
 ·have e:((a.length:Int)==b.length)=true:=by simpa using hl
  rw [if_pos hl,if_pos e]
  exact y84 a b st set seen oM0 h
 ·have e:¬ ((a.length:Int)==b.length)=true:=by simpa using hl
  rw [if_neg hl,if_neg e]
  simp
theorem yy1 {n:Nat}:∀ (l st:List Int) (set:List Bool) (seen rest:List Int),(∀ v∈l,0<=v/\v<n/\rest.contains v=false)->(∀ v∈l,st.getD v.toNat 0≠0)->st.length=n->set.length=n ->
 (∀ v:Nat,v<n->set.getD v false = !(st.getD v 0==0))->(∀ v:Nat,v<n->l.contains (v:Int)=false->rest.contains (v:Int)=(st.getD v 0==1))->Rl n (z3e st l) set rest
 | [],st,set,_,rest,_,_,h1,h2,h3,h4=>⟨h1,h2,h3,λv hv=>h4 v hv rfl⟩
 | x::l,st,set,seen,rest,hin,hnz,h1,h2,h3,h4=>by
  obtain ⟨hx0,hx1,hx2⟩:=hin x (.head _)
  have hxn:x.toNat<n:=by omega
  show Rl n (z3e (st.set x.toNat 2) l) set rest
  have hg:∀ j,(st.set x.toNat 2).getD j 0=if x.toNat=j then 2 else st.getD j 0:=λj=>by
   rw [zi9];simp [h1,hxn]
  -- hidden values are no more among the seen
  have key:∀ v:Nat,v<n->l.contains (v:Int)=false->rest.contains (v:Int)=((st.set x.toNat 2).getD v 0==1):=by
   intro v hv hl
   rw [hg]
   by_cases e:x.toNat=v
   ·have hv2:(v:Int)=x:=by omega
    rw [if_pos e,hv2,hx2];rfl
   ·rw [if_neg e]
    refine h4 v hv ?_
    have:((v:Int)==x)=false:=by simp;omega
    rw [E3,this,hl];rfl
  refine yy1 l (st.set x.toNat 2) set seen rest (λv hv=>hin v (.tail _ hv)) (λv hv=>?_) (by simpa using h1) h2 (λv hv=>?_) key
  ·rw [hg];split
   ·decide
   ·exact hnz v (.tail _ hv)
  ·rw [hg,h3 v hv]
   split
   ·rename_i e
    have:=hnz x (.head _)
    rw [e] at this
    have hb:(st.getD v 0==0)=false:=by simpa using this
    rw [hb];rfl
   ·rfl
def PR (n:Nat) (seen outs:List Int) (r:Bool × List Int) (q:Bool × List Bool):Prop :=
 q.1=r.1/\(r.1=true->Rl n r.2 q.2 (seen++outs)/\∀ v∈outs,0<=v/\v<n/\seen.contains v=false)
theorem PR.no {n:Nat} {seen outs:List Int} {st:List Int} {set:List Bool}:PR n seen outs (false,st) (false,set):=⟨rfl,λh=>by cases h⟩
theorem zs0 {tys st:List Int} {set:List Bool} {seen:List Int} (h:Rl tys.length st set seen) {b b':Bool} (hb:b=b') (outs want:List Int):PR tys.length seen outs (andP b st (z1k tys st outs want)) (andS b' set (z1p tys set outs want)):=by
 subst hb
 cases b with
 | false=>exact .no
 | true=>exact j2d h outs want
theorem nil_rl {tys st:List Int} {set:List Bool} {seen:List Int} (h:Rl tys.length st set seen) {b b':Bool} (hb:b=b') (outs:List Int):PR tys.length seen outs (andP b st (z1k tys st outs [])) (b'&&(outs.length:Int)==0,set):=by
 subst hb
 cases b with
 | false=>exact .no
 | true =>
  cases outs with
  | nil=>exact ⟨rfl,λ_=>⟨by rw [Cl];exact h,λv hv=>by simp at hv⟩⟩
  | cons v r =>
   have e:¬ (((v::r).length:Int)=(([]:List Int).length:Int)):=by simp;omega
   have e2:(((v::r).length:Int)==0)=false:=by simp;omega
   simp only [andP,C3,z1k,eqf,if_neg e,e2,Dh]
   exact .no
theorem yf8 {n:Nat} {st:List Int} {set:List Bool} {seen:List Int} (h:Rl n st set seen) {b b':Bool} (hb:b=b') {outs:List Int} (ho:b=true->outs=[]):PR n seen outs (b,st) (b',set):=by
 subst hb
 refine ⟨rfl,λhb=>?_⟩
 rw [ho hb]
 exact ⟨by simpa using h,λv hv=>by simp at hv⟩
theorem y9v {op:Int} (h:z3s op=true):z30 op=z0n op:=by
 simp only [z3s,A0,Be] at h
 have h18:(op==18)=false:=by simp;omega
 have h19:(op==19)=false:=by simp;omega
 have h22:(op==22)=false:=by simp;omega
 simp only [z30,z0n,h18,h19,h22,Dt,Ak,Bv]
theorem y9u {op:Int} (h:z2t op=true):z30 op=z0n op:=by
 simp only [z2t,A0,Be] at h
 have h18:(op==18)=false:=by simp;omega
 have h19:(op==19)=false:=by simp;omega
 simp only [z30,z0n,h18,h19,C7]
theorem yz3 (op:Int):(decide (z4a op > 0)&&decide (op<=17))=z3s op:=by
 by_cases h0:op<0
 ·have:z4a op=0:=by simp [z4a,h0]
  have h2:z3s op=false:=by simp [z3s];omega
  rw [this,h2];rfl
 ·by_cases h1:op ≥ 29
  ·have:z4a op=0:=by simp [z4a,h1]
   have h2:z3s op=false:=by simp [z3s];omega
   rw [this,h2];rfl
  ·rcases yv2 (op:=op) oM0 oM0 with rfl | rfl | rfl | rfl | rfl | rfl | rfl | rfl | rfl | rfl | rfl | rfl | rfl | rfl | rfl | rfl | rfl | rfl | rfl | rfl | rfl | rfl | rfl | rfl | rfl | rfl | rfl | rfl | rfl<;>rfl
theorem j2i (u:Un) (f:Fl) {st:List Int} {set:List Bool} {seen:List Int} (h:Rl f.types.length st set seen) (x:Nd) (w:Wh) :
 PR f.types.length seen x.outs (if z0t x.kind then (y86 f st x w,st) else z2e u f st x) (z1c u f set x seen w):=by
 have U:=λwant=>(ye0 h x.args want).symm
 have hlen:∀ b,z0u f.types st x.args []=b->((x.args.length:Int)==0)=b:=λb hb=>by
  rw [<- hb]
  unfold z0u eqf
  cases x.args with
  | nil=>rfl
  | cons a r =>
   have e:¬ (((a::r).length:Int)=(([]:List Int).length:Int)):=by simp;omega
   have e2:(((a::r).length:Int)==0)=false:=by simp;omega
   rw [if_neg e,e2]
 unfold z1c z2e y86 y89 zu4 zb3
 by_cases k1:x.kind=1
 ·simp only [k1,z0t];exact zs0 h (U _) _ _
 by_cases k2:x.kind=2
 ·simp only [k2,z0t];exact zs0 h (by rw [U]) _ _
 by_cases k3:x.kind=3
 ·simp only [k3,z0t]
  cases ho:z2t x.op with
  | false=>exact .no
  | true=>rw [y9u ho];exact zs0 h (by rw [U]) _ _
 by_cases k4:x.kind=4
 ·simp only [k4,z0t,yz3]
  cases ho:z3s x.op with
  | false=>exact .no
  | true=>rw [y9v ho];exact zs0 h (by rw [U]) _ _
 by_cases k5:x.kind=5
 ·simp only [k5,z0t];exact zs0 h (by rw [U]) _ _
 by_cases k6:x.kind=6
 ·simp only [k6,z0t];exact nil_rl h (by rw [U]) _
 by_cases k7:x.kind=7
 ·simp only [k7,z0t]
  by_cases hp:z05 x.name u.flows 0<0
  ·have e:¬ (decide (z05 x.name u.flows 0 ≥ 0))=true:=by simp;omega
   simp only [if_pos hp,if_neg e]
   exact .no
  ·have e:(decide (z05 x.name u.flows 0 ≥ 0))=true:=by simp;omega
   simp only [if_neg hp,if_pos e]
   cases u.flows[(z05 x.name u.flows 0).toNat]? with
   | none=>exact .no
   | some g=>exact zs0 h (U _) _ _
 by_cases k8:x.kind=8
 ·simp only [k8,z0t];exact zs0 h (hlen _ rfl).symm _ _
 by_cases k9:x.kind=9
 ·simp only [k9,z0t];exact nil_rl h (U _) _
 have out0:∀ c:Bool,((x.outs.length:Int)==0&&c)=true->x.outs=[]:=λc hc=>by
  simp only [A0,As] at hc
  exact At oM0
 by_cases k12:x.kind=12
 ·simp only [k12,z0t]
  show PR _ _ _ ((x.outs.length:Int)==0&&w.If&&z0u f.types st x.args w.Yield,st) (w.If&&z06 f.types seen x.args w.Yield&&(x.outs.length:Int)==0,set)
  exact yf8 h (by rw [<- U];cases (w.If)<;>cases ((x.outs.length:Int)==0)<;>simp) (λhb=>by rw [Ef] at hb;exact out0 _ hb)
 by_cases k13:x.kind=13
 ·simp only [k13,z0t]
  show PR _ _ _ ((x.outs.length:Int)==0&&w.Loop&&z0u f.types st x.args w.Next,st) (w.Loop&&z06 f.types seen x.args w.Next&&(x.outs.length:Int)==0,set)
  exact yf8 h (by rw [<- U];cases (w.Loop)<;>cases ((x.outs.length:Int)==0)<;>simp) (λhb=>by rw [Ef] at hb;exact out0 _ hb)
 by_cases k14:x.kind=14
 ·simp only [k14,z0t]
  show PR _ _ _ ((x.outs.length:Int)==0&&w.Loop&&z0u f.types st x.args w.Left,st) (w.Loop&&z06 f.types seen x.args w.Left&&(x.outs.length:Int)==0,set)
  exact yf8 h (by rw [<- U];cases (w.Loop)<;>cases ((x.outs.length:Int)==0)<;>simp) (λhb=>by rw [Ef] at hb;exact out0 _ hb)
 by_cases k15:x.kind=15
 ·simp only [k15,z0t]
  show PR _ _ _ ((x.outs.length:Int)==0&&z0u f.types st x.args [f.ty],st) (z06 f.types seen x.args [f.ty]&&(x.outs.length:Int)==0,set)
  exact yf8 h (by rw [<- U];exact Bool.and_comm _ _) (λhb=>out0 _ hb)
 have e1:(x.kind==1)=false:=by simpa using k1
 have e2:(x.kind==2)=false:=by simpa using k2
 have e3:(x.kind==3)=false:=by simpa using k3
 have e4:(x.kind==4)=false:=by simpa using k4
 have e5:(x.kind==5)=false:=by simpa using k5
 have e6:(x.kind==6)=false:=by simpa using k6
 have e7:(x.kind==7)=false:=by simpa using k7
 have e8:(x.kind==8)=false:=by simpa using k8
 have e9:(x.kind==9)=false:=by simpa using k9
 have e12:(x.kind==12)=false:=by simpa using k12
 have e13:(x.kind==13)=false:=by simpa using k13
 have e14:(x.kind==14)=false:=by simpa using k14
 have e15:(x.kind==15)=false:=by simpa using k15
 have ee:z0t x.kind=false:=by simp [z0t];omega
 simp only [e1,e2,e3,e4,e5,e6,e7,e8,e9,e12,e13,e14,e15,ee,Ak,Bv,Dt]
 exact .no
theorem y2s:∀ (l:List Nd) (st:List Int),z47 st l=z3e st (l.flatMap Nd.outs)
 | [],_=>rfl
 | x::r,st=>by
  have:=y2s r (z3e st x.outs)
  simp only [z47,Dm,Dj,z3e,Dk] at this ⊢
  exact this
theorem y6k {n:Nat} {st:List Int} {set:List Bool} {all l:List Int} (h:Rl n st set (all++l)) (hl:∀ v∈l,0<=v/\v<n/\all.contains v=false):Rl n (z3e st l) set all:=by
 refine yy1 l st set [] all hl (λv hv=>?_) h.l1 h.l2 h.s (λv hv hc=>?_)
 ·obtain ⟨h0,h1,_⟩:=hl v hv
  have hu:=h.u v.toNat oM0
  have hc:(all++l).contains ((v.toNat:Nat):Int)=true:=by
   rw [show ((v.toNat:Nat):Int)=v by omega]
   simp [hv]
  rw [hc] at hu
  have:st.getD v.toNat 0=1:=by simpa using hu.symm
  rw [this];decide
 ·have hu:=h.u v hv
  rw [Bp,hc,Dt] at hu
  exact hu
def LR (u:Un) (f:Fl) (l:List Nd):Prop:=∀ (deep:Int) (w:Wh) (st:List Int) (set:List Bool) (seen:List Int),Rl f.types.length st set seen ->
 (z2j u f deep w seen set l).1=(z1x u f deep w st l).1/\((z1x u f deep w st l).1=true->Rl f.types.length (z1x u f deep w st l).2 (z2j u f deep w seen set l).2 seen)
theorem zx6 {n:Nat} {seen outs:List Int} {r:Bool × List Int} {q:Bool × List Bool} {k:List Int->Bool × List Int} {k':List Bool->Bool × List Bool} (h:q.1=r.1) (hk:r.1=true->PR n seen outs (k r.2) (k' q.2)):PR n seen outs (andQ r k) (andT q k'):=by
 unfold andQ andT
 rw [h]
 cases hr:r.1 with
 | false=>exact .no
 | true=>exact hk hr
theorem j2u {f:Fl} {x:Nd} {st:List Int} {set:List Bool} {seen:List Int} (h:Rl f.types.length st set seen):PR f.types.length seen x.outs (z48 f x st) (ze4 f x set):=zs0 h rfl _ _
theorem node_rl (u:Un) (f:Fl) (x:Nd) (ih:∀ q∈x.kids,LR u f q) (deep:Int) (w:Wh) {st:List Int} {set:List Bool} {seen:List Int} (h:Rl f.types.length st set seen) :
 PR f.types.length seen x.outs (z5r u f deep w st x) (z4n u f deep w seen set x):=by
 cases hb:z1j x with
 | false=>rw [zh9 _ _ _ _ _ hb,zg6 _ _ _ _ _ _ hb];exact .no
 | true =>
  by_cases h10:x.kind=10
  ·obtain ⟨a,b,hk⟩:=z3o hb h10
   rw [y1h _ _ _ _ _ hb h10 hk,y0o _ _ _ _ _ _ hb h10 hk,ye0 h]
   split
   ·obtain ⟨h1,h2⟩:=ih a (by rw [hk];simp) (deep+1) ⟨true,w.Loop,r8of f.types x.outs,w.Next,w.Left⟩ st set seen h
    refine zx6 h1 λht=>?_
    obtain ⟨h3,h4⟩:=ih b (by rw [hk];simp) (deep+1) ⟨true,w.Loop,r8of f.types x.outs,w.Next,w.Left⟩ _ _ seen (h2 ht)
    exact zx6 h3 λht2=>j2u (h4 ht2)
   ·exact .no
  ·by_cases h11:x.kind=11
   ·obtain ⟨a,hk⟩:=z1y hb h11
    rw [zi0 _ _ _ _ _ hb h11 hk,zg7 _ _ _ _ _ _ hb h11 hk,ye0 h]
    split
    ·obtain ⟨h1,h2⟩:=j2d h x.params (List.replicate x.params.length 0)
     refine zx6 h1 λht=>?_
     obtain ⟨h3,h4⟩:=h2 ht
     obtain ⟨h5,h6⟩:=ih a (by rw [hk];simp) (deep+1) ⟨false,true,[],r8of f.types x.params,r8of f.types x.outs⟩ _ _ _ h3
     exact zx6 h5 λht2=>j2u (y6k (h6 ht2) h4)
    ·exact .no
   ·have e10:(x.kind==10)=false:=by simpa using h10
    have e11:(x.kind==11)=false:=by simpa using h11
    rw [z91 _ _ _ _ _ _ hb e10 e11]
    have hs:=j2i u f h x w
    cases he:z0t x.kind with
    | true=>rw [zq8 _ _ _ _ _ hb e10 e11 he];rw [if_pos he] at hs;exact hs
    | false=>rw [z9a _ _ _ _ _ hb e10 e11 he];rw [if_neg (by simp [he])] at hs;exact hs
theorem go_rl (u:Un) (f:Fl) (deep:Int) (w:Wh):∀ (l:List Nd),(∀ x∈l,∀ q∈x.kids,LR u f q)->∀ (st:List Int) (set:List Bool) (all:List Int),Rl f.types.length st set all ->
 PR f.types.length all (l.flatMap Nd.outs) (shGo u f deep w st l) (r8go u f deep w all set l)
 | [],_,st,set,all,h=>by
  unfold shGo r8go
  exact ⟨rfl,λ_=>⟨by simpa using h,λv hv=>by simp at hv⟩⟩
 | x::r,ih,st,set,all,h=>by
  unfold shGo r8go
  by_cases hd:deep > 100
  ·rw [if_pos hd,if_pos hd];exact .no
  ·rw [if_neg hd,if_neg hd]
   obtain ⟨h1,h2⟩:=node_rl u f x (ih x (.head _)) deep w h
   refine zx6 h1 λht=>?_
   obtain ⟨h3,h4⟩:=h2 ht
   by_cases hc:(z07 x != r.isEmpty)=true
   ·rw [if_pos hc,if_pos hc];exact .no
   ·rw [if_neg hc,if_neg hc]
    obtain ⟨h5,h6⟩:=go_rl u f deep w r (λy hy=>ih y (.tail _ hy)) _ _ _ h3
    refine ⟨h5,λht2=>?_⟩
    obtain ⟨h7,h8⟩:=h6 ht2
    refine ⟨by simpa using h7,λv hv=>?_⟩
    rw [Dj,Au] at hv
    rcases hv with hv | hv
    ·exact h4 v hv
    ·obtain ⟨g1,g2,g3⟩:=h8 v hv
     rw [Bp,Bt] at g3
     exact ⟨g1,g2,g3.1⟩
theorem yz4 (u:Un) (f:Fl):∀ (N:Nat) (l:List Nd),SizeOf.sizeOf l<N->LR u f l
 | 0,_,h=>absurd h (Ae _)
 | N+1,l,hN=>by
  intro deep w st set seen h
  have ih:∀ x∈l,∀ q∈x.kids,LR u f q:=λx hx q hq=>yz4 u f N q (Ba (z9i hx rfl hq) (C2 hN))
  obtain ⟨h1,h2⟩:=go_rl u f deep w l ih st set seen h
  unfold z2j z1x ne andQ
  cases l with
  | nil =>
   simp only [List.isEmpty_nil,C3]
   unfold shGo
   simp [y87]
  | cons x r =>
   simp only [List.isEmpty_cons,Ak,Bv]
   rw [h1]
   cases hg:(shGo u f deep w st (x::r)).1 with
   | false=>simp [hg]
   | true =>
    obtain ⟨h3,h4⟩:=h2 hg
    simp only [C3,y87]
    refine ⟨by simp,λ_=>?_⟩
    rw [y2s]
    exact y6k h3 h4
theorem j2g (u:Un) (f:Fl) (deep:Int) (w:Wh) {st:List Int} {set:List Bool} {seen:List Int} (h:Rl f.types.length st set seen) (l:List Nd):(z1x u f deep w st l).1=(z2j u f deep w seen set l).1 :=
 ((yz4 u f _ l (A5 _)) deep w st set seen h).1.symm
theorem start_rl {k n:Nat} (h:k<=n):Rl n (zl5 k n) (z5a k n) (iota k):=by
 refine ⟨zu3 h,z3i h,λv hv=>?_,λv hv=>?_⟩
 ·simp only [z5a,zl5,Ay]
  by_cases e:v<k
  ·rw [Ap (by simpa using e),Ap (by simpa using e)]
   simp [Dg,e]
  ·rw [B0 (by simpa using e),B0 (by simpa using e)]
   simp only [E7,Dg]
   rw [if_pos oM0,if_pos oM0]
   rfl
 ·have hc:(iota k).contains (v:Int)=decide (v<k):=by
   simp only [iota]
   by_cases e:v<k
   ·simp [e]
    exact ⟨v,e,rfl⟩
   ·simp [e]
    intro x hx;omega
  rw [hc]
  simp only [zl5,Ay]
  by_cases e:v<k
  ·rw [Ap (by simpa using e)]
   simp [Dg,e]
  ·rw [B0 (by simpa using e)]
   simp only [E7,Dg]
   rw [if_pos oM0]
   simp [e]
theorem yf5:∀ l:List Int,l.any (λt=>!isTy t) = !l.all (λt=>t==1||t==2)
 | []=>rfl
 | t::r=>by rw [G9,D4,yf5 r,Bool.not_and];rfl
theorem j2e (u:Un) (f:Fl) (h0:0<=f.params) (h1:f.params<=f.types.length):y1g u f=z5q u f:=by
 unfold y1g z5q
 rw [j2g u f 1 z2z (start_rl (k:=f.params.toNat) oM0) f.body]
 have e1:decide (f.params<0)=false:=by simp;omega
 have e2:decide (f.params > f.types.length)=false:=by simp;omega
 have e3:=yf5 f.types
 rw [e1,e2,e3]
 cases decide (f.params > 8)<;>cases decide ((f.types.length:Int) > 20000)<;>cases f.types.all (λt=>t==1||t==2)<;>simp
def nmA (l:List Ar):List (List UInt8):=l.map λa=>a.name.toList
def nmF (l:List Fl):List (List UInt8):=l.map λa=>a.name.toList
theorem zx7 (nm:ByteArray):∀ (pre l:List Ar) (i:Int),(nm.toList∈nmA pre->i<=z0f nm (pre++l) i/\z0f nm (pre++l) i<i+pre.length)/\(nm.toList∉nmA pre->z0f nm (pre++l) i=z0f nm l (i+pre.length))
 | [],l,i=>by simp [nmA]
 | a::pre,l,i=>by
  obtain ⟨h1,h2⟩:=zx7 nm pre l (i+1)
  rw [B8,show z0f nm (a::(pre++l)) i=if (a.name.toList==nm.toList)=true then i else z0f nm (pre++l) (i+1) from rfl]
  by_cases e:a.name.toList=nm.toList
  ·have eb:(a.name.toList==nm.toList)=true:=by simpa using e
   rw [if_pos eb]
   refine ⟨λ_=>⟨D3 _,by simp;omega⟩,λh=>absurd (by simp [nmA,e]) h⟩
  ·have eb:¬ (a.name.toList==nm.toList)=true:=by simpa using e
   rw [if_neg eb]
   refine ⟨λh=>?_,λh=>?_⟩
   ·have:nm.toList∈nmA pre:=by
     simp only [nmA,B6,Ag] at h
     exact h.resolve_left λh=>e h.symm
    have:=h1 this
    simp only [Ah];omega
   ·have:nm.toList∉nmA pre:=λhm=>h (by simp only [nmA,B6,Ag];exact .inr hm)
    rw [h2 this]
    congr 1
    simp only [Ah];omega
theorem zg4 (nm:ByteArray):∀ (pre l:List Fl) (i:Int),(nm.toList∈nmF pre->i<=z05 nm (pre++l) i/\z05 nm (pre++l) i<i+pre.length)/\(nm.toList∉nmF pre->z05 nm (pre++l) i=z05 nm l (i+pre.length))
 | [],l,i=>by simp [nmF]
 | a::pre,l,i=>by
  obtain ⟨h1,h2⟩:=zg4 nm pre l (i+1)
  rw [B8,show z05 nm (a::(pre++l)) i=if (a.name.toList==nm.toList)=true then i else z05 nm (pre++l) (i+1) from rfl]
  by_cases e:a.name.toList=nm.toList
  ·have eb:(a.name.toList==nm.toList)=true:=by simpa using e
   rw [if_pos eb]
   refine ⟨λ_=>⟨D3 _,by simp;omega⟩,λh=>absurd (by simp [nmF,e]) h⟩
  ·have eb:¬ (a.name.toList==nm.toList)=true:=by simpa using e
   rw [if_neg eb]
   refine ⟨λh=>?_,λh=>?_⟩
   ·have:nm.toList∈nmF pre:=by
     simp only [nmF,B6,Ag] at h
     exact h.resolve_left λh=>e h.symm
    have:=h1 this
    simp only [Ah];omega
   ·have:nm.toList∉nmF pre:=λhm=>h (by simp only [nmF,B6,Ag];exact .inr hm)
    rw [h2 this]
    congr 1
    simp only [Ah];omega
theorem j0d (nm:ByteArray) (l:List Fl):z05 nm l 0 ≥ 0↔nm.toList∈nmF l:=by
 obtain ⟨h1,h2⟩:=zg4 nm l [] 0
 rw [Cl] at h1 h2
 by_cases h:nm.toList∈nmF l
 ·exact ⟨λ_=>h,λh=>(h1 h).1⟩
 ·refine ⟨λh3=>?_,λh4=>absurd h4 h⟩
  rw [h2 h] at h3
  simp [z05] at h3
theorem array_at (nm:ByteArray) (pre r:List Ar) (a:Ar) (h:a.name.toList=nm.toList):z0f nm (pre++a::r) 0=pre.length↔nm.toList∉nmA pre:=by
 obtain ⟨h1,h2⟩:=zx7 nm pre (a::r) 0
 by_cases e:nm.toList∈nmA pre
 ·have:=h1 e
  exact ⟨λh=>by omega,λh=>absurd e h⟩
 ·refine ⟨λ_=>e,λ_=>?_⟩
  rw [h2 e]
  have eb:(a.name.toList==nm.toList)=true:=by simpa using h
  rw [show z0f nm (a::r) (0+pre.length)=if (a.name.toList==nm.toList)=true then (0+pre.length:Int) else z0f nm r (0+pre.length+1) from rfl,if_pos eb]
  omega
theorem place_at (nm:ByteArray) (pre r:List Fl) (a:Fl) (h:a.name.toList=nm.toList):z05 nm (pre++a::r) 0=pre.length↔nm.toList∉nmF pre:=by
 obtain ⟨h1,h2⟩:=zg4 nm pre (a::r) 0
 by_cases e:nm.toList∈nmF pre
 ·have:=h1 e
  exact ⟨λh=>by omega,λh=>absurd e h⟩
 ·refine ⟨λ_=>e,λ_=>?_⟩
  rw [h2 e]
  have eb:(a.name.toList==nm.toList)=true:=by simpa using h
  rw [show z05 nm (a::r) (0+pre.length)=if (a.name.toList==nm.toList)=true then (0+pre.length:Int) else z05 nm r (0+pre.length+1) from rfl,if_pos eb]
  omega
theorem gA_iff (u:Un):∀ (pre l:List Ar),u.arrays=pre++l->(r8gA u l pre.length=true↔(∀ a∈l,zv2 a=true/\a.name.toList∉nmF u.flows/\a.name.toList∉nmA pre)/\(nmA l).Nodup)
 | pre,[],_=>by simp [r8gA,nmA]
 | pre,a::r,hu=>by
  have ih:=gA_iff u (pre++[a]) r (by simp [hu])
  have hlen:(((pre++[a]).length:Nat):Int)=(pre.length:Int)+1:=by simp
  rw [hlen] at ih
  rw [r8gA,A0,ih]
  have ha:gArr u a pre.length=true↔zv2 a=true/\a.name.toList∉nmA pre/\a.name.toList∉nmF u.flows:=by
   have h1:=array_at a.name pre r a rfl
   have h2:=j0d a.name u.flows
   rw [<- hu] at h1
   unfold gArr zv2
   simp only [A0,Bg,C0,As,h1,h2]
   constructor
   ·rintro ⟨⟨⟨⟨a1,a2⟩,a3⟩,a4⟩,a5⟩;exact ⟨⟨⟨a1,a2⟩,a3⟩,a4,a5⟩
   ·rintro ⟨⟨⟨a1,a2⟩,a3⟩,a4,a5⟩;exact ⟨⟨⟨⟨a1,a2⟩,a3⟩,a4⟩,a5⟩
  rw [ha]
  constructor
  ·rintro ⟨⟨b1,b2,b3⟩,b4,b5⟩
   refine ⟨λx hx=>?_,?_⟩
   ·rcases Ag.1 hx with rfl | hx
    ·exact ⟨b1,b3,b2⟩
    ·obtain ⟨c1,c2,c3⟩:=b4 x hx
     exact ⟨c1,c2,λh=>c3 (by simp only [nmA,Cj,Au];exact .inl h)⟩
   ·refine E9.2 ⟨λh=>?_,b5⟩
    obtain ⟨x,hx,e⟩:=Cc.1 h
    exact (b4 x hx).2.2 (by simp only [nmA,Cj,Au,B6,D6,Ai];exact .inr e)
  ·rintro ⟨b1,b2⟩
   have b3:=E9.1 b2
   obtain ⟨c1,c2,c3⟩:=b1 a (.head _)
   refine ⟨⟨c1,c3,c2⟩,λx hx=>?_,b3.2⟩
   obtain ⟨d1,d2,d3⟩:=b1 x (.tail _ hx)
   refine ⟨d1,d2,λh=>?_⟩
   simp only [nmA,Cj,Au,B6,D6,Ai] at h
   rcases h with h | h
   ·exact d3 h
   ·exact b3.1 (Cc.2 ⟨x,hx,h⟩)
theorem gF_iff (u:Un):∀ (pre l:List Fl),u.flows=pre++l->(r8gF u l pre.length=true↔(∀ a∈l,zl6 a=true/\a.name.toList∉nmF pre)/\(nmF l).Nodup)
 | pre,[],_=>by simp [r8gF,nmF]
 | pre,a::r,hu=>by
  have ih:=gF_iff u (pre++[a]) r (by simp [hu])
  have hlen:(((pre++[a]).length:Nat):Int)=(pre.length:Int)+1:=by simp
  rw [hlen] at ih
  rw [r8gF,A0,ih]
  have ha:gFlw u a pre.length=true↔zl6 a=true/\a.name.toList∉nmF pre:=by
   have h1:=place_at a.name pre r a rfl
   rw [<- hu] at h1
   unfold gFlw zl6 isTy
   simp only [A0,Bg,C0,As,h1]
   constructor
   ·rintro ⟨⟨⟨⟨a1,a2⟩,a3⟩,a4⟩,a5⟩;exact ⟨⟨⟨⟨a1,a3⟩,a4⟩,a5⟩,a2⟩
   ·rintro ⟨⟨⟨⟨a1,a3⟩,a4⟩,a5⟩,a2⟩;exact ⟨⟨⟨⟨a1,a2⟩,a3⟩,a4⟩,a5⟩
  rw [ha]
  constructor
  ·rintro ⟨⟨b1,b2⟩,b4,b5⟩
   refine ⟨λx hx=>?_,?_⟩
   ·rcases Ag.1 hx with rfl | hx
    ·exact ⟨b1,b2⟩
    ·obtain ⟨c1,c3⟩:=b4 x hx
     exact ⟨c1,λh=>c3 (by simp only [nmF,Cj,Au];exact .inl h)⟩
   ·refine E9.2 ⟨λh=>?_,b5⟩
    obtain ⟨x,hx,e⟩:=Cc.1 h
    exact (b4 x hx).2 (by simp only [nmF,Cj,Au,B6,D6,Ai];exact .inr e)
  ·rintro ⟨b1,b2⟩
   have b3:=E9.1 b2
   obtain ⟨c1,c3⟩:=b1 a (.head _)
   refine ⟨⟨c1,c3⟩,λx hx=>?_,b3.2⟩
   obtain ⟨d1,d3⟩:=b1 x (.tail _ hx)
   refine ⟨d1,λh=>?_⟩
   simp only [nmF,Cj,Au,B6,D6,Ai] at h
   rcases h with h | h
   ·exact d3 h
   ·exact b3.1 (Cc.2 ⟨x,hx,h⟩)
def z2n (es:List (Value × PV)):List (List UInt8):=es.map λe=>match e.1 with
 | .string s=>s.toList
 | _=>[]
theorem y06 (s:ByteArray) (v:PV):∀ (es:List (Value × PV)),Cnt es->(s.toList∈z2n es->z2n (mput (.string s) v es)=z2n es)/\(s.toList∉z2n es->z2n (mput (.string s) v es)=z2n es++[s.toList])
 | [],_=>by simp [z2n,mput]
 | (a,p)::r,h=>by
  have ha:=h.1 (a,p) (.head _)
  have hr:Cnt r:=⟨λe he=>h.1 e (.tail _ he),λe he=>h.2 e (.tail _ he)⟩
  obtain ⟨h1,h2⟩:=y06 s v r hr
  cases a with
  | string t =>
   simp only [mput]
   by_cases e:s.toList=t.toList
   ·have eb:keyB (.string s) (.string t)=true:=by simpa [keyB] using e
    rw [if_pos eb]
    exact ⟨λ_=>by simp [z2n,e],λh=>absurd (by simp [z2n,e]) h⟩
   ·have eb:¬ keyB (.string s) (.string t)=true:=by simpa [keyB] using e
    rw [if_neg eb]
    refine ⟨λh=>?_,λh=>?_⟩
    ·have:s.toList∈z2n r:=by
      simp only [z2n,B6,Ag] at h
      exact h.resolve_left e
     have h3:=h1 this
     simp only [z2n,B6] at h3 ⊢
     rw [h3]
    ·have:s.toList∉z2n r:=λhm=>h (by simp only [z2n,B6,Ag];exact .inr hm)
     have h3:=h2 this
     simp only [z2n,B6,B8] at h3 ⊢
     rw [h3]
  | _=>simp [z1r] at ha
theorem y8u (s:ByteArray) {es:List (Value × PV)} (h:Cnt es):(s.toList∈z2n es->z2n (bump s es)=z2n es)/\(s.toList∉z2n es->z2n (bump s es)=z2n es++[s.toList]):=by
 obtain ⟨n,hn⟩:=h.find (.string s)
 rw [zf4 hn]
 exact y06 s _ es h
def zy3 (es:List (Value × PV)) (l:List ByteArray):List (Value × PV):=l.foldl (λe s=>bump s e) es
def nmS (l:List ByteArray):List (List UInt8):=l.map ByteArray.toList
theorem y2i:∀ (l:List ByteArray) (es:List (Value × PV)),Cnt es->(z2n (zy3 es l)).length<=(z2n es).length+l.length /\
 ((z2n (zy3 es l)).length=(z2n es).length+l.length↔(∀ s∈l,s.toList∉z2n es)/\(nmS l).Nodup)
 | [],es,_=>by simp [zy3,nmS]
 | s::r,es,h=>by
  obtain ⟨ih1,ih2⟩:=y2i r (bump s es) (h.bump s)
  obtain ⟨h1,h2⟩:=y8u s h
  show (z2n (zy3 (bump s es) r)).length<=_/\((z2n (zy3 (bump s es) r)).length=_↔_)
  by_cases e:s.toList∈z2n es
  ·rw [h1 e] at ih1
   refine ⟨by simp only [Ah];omega,λhl=>by simp only [Ah] at hl;omega,λhb=>absurd e (hb.1 s (.head _))⟩
  ·have hk:=h2 e
   rw [hk] at ih1 ih2
   simp only [Az,Ah,Ax] at ih1 ih2 ⊢
   refine ⟨by omega,?_⟩
   rw [show (z2n es).length+(r.length+1)=(z2n es).length+(0+1)+r.length by omega,ih2]
   constructor
   ·rintro ⟨b1,b2⟩
    refine ⟨λx hx=>?_,E9.2 ⟨λhm=>?_,b2⟩⟩
    ·rcases Ag.1 hx with rfl | hx
     ·exact e
     ·exact λhm=>b1 x hx (Au.2 (.inl hm))
    ·obtain ⟨x,hx,he⟩:=Cc.1 hm
     exact b1 x hx (by rw [he];simp)
   ·rintro ⟨b1,b2⟩
    have b3:=E9.1 b2
    refine ⟨λx hx hm=>?_,b3.2⟩
    rcases Au.1 hm with hm | hm
    ·exact b1 x (.tail _ hx) hm
    ·exact b3.1 (Cc.2 ⟨x,hx,by simpa using hm⟩)
theorem yw2 (u:Un):((y2h (zy2 [] u.arrays) u.flows).length:Int)=u.arrays.length+u.flows.length↔(nmA u.arrays++nmF u.flows).Nodup:=by
 have e:y2h (zy2 [] u.arrays) u.flows=zy3 [] (u.arrays.map Ar.name++u.flows.map Fl.name):=by
  simp only [y2h,zy2,zy3,Dk,List.foldl_map]
 have hn:nmS (u.arrays.map Ar.name++u.flows.map Fl.name)=nmA u.arrays++nmF u.flows:=by
  simp only [nmS,nmA,nmF,Cj,Ej]
  rfl
 obtain ⟨_,h2⟩:=y2i (u.arrays.map Ar.name++u.flows.map Fl.name) [] .nil
 rw [e]
 simp only [z2n,A4,Az,Ax,Bu] at h2
 rw [<- hn]
 constructor
 ·intro h;exact (h2.1 oM0).2
 ·intro h
  have:=h2.2 ⟨λs _=>by simp,h⟩
  omega
theorem j2f (u:Un):z8q u=z1a u:=by
 have hA:=gA_iff u [] u.arrays rfl
 have hF:=gF_iff u [] u.flows rfl
 simp only [Ax] at hA hF
 rw [D7]
 unfold z8q z1a
 simp only [A0,Bc,As,yw2]
 rw [show ((0:Nat):Int)=0 from rfl] at hA hF
 rw [hA,hF,Fg]
 constructor
 ·rintro ⟨⟨⟨a1,a2⟩,a3,a4,a5⟩,a6⟩
  exact ⟨⟨⟨λa ha=>⟨a1 a ha,λhm=>a5 _ (Cc.2 ⟨a,ha,rfl⟩) _ hm rfl,by simp [nmA]⟩,a3⟩,λf hf=>⟨a2 f hf,by simp [nmF]⟩,a4⟩,a6⟩
 ·rintro ⟨⟨⟨a1,a3⟩,a2,a4⟩,a6⟩
  refine ⟨⟨⟨λa ha=>(a1 a ha).1,λf hf=>(a2 f hf).1⟩,a3,a4,λx hx y hy e=>?_⟩,a6⟩
  obtain ⟨a,ha,rfl⟩:=Cc.1 hx
  exact (a1 a ha).2.1 (e ▸ hy)
theorem y3u (u:Un):∀ (l:List Fl) (i:Int),(∀ f∈l,0<=f.params/\f.params<=f.types.length)->z9d u l i=z5j u l i
 | [],_,_=>rfl
 | f::r,i,h=>by
  obtain ⟨h1,h2⟩:=h f (.head _)
  simp only [z9d,z5j,j2e u f h1 h2,y3u u r (i+1) (λf hf=>h f (.tail _ hf))]
theorem zd6 (u:Un):z4k u=z1g u:=by
 unfold z4k z1g
 rw [j2f]
 cases h:z1a u with
 | false=>rfl
 | true=>simp only [C3];exact y3u u _ _ (z4t h)
theorem Nd.enc_len (x:Nd):x.enc.length=8:=by rw [Nd.enc_eq,Nd.cells_eta];rfl
theorem Nd.enc_one (x:Nd):∀ y∈x.enc,y.one=true:=by
 rw [Nd.enc_eq,Nd.cells_eta]
 intro y hy
 simp only [Ag,Bx,Fm] at hy
 rcases hy with rfl | rfl | rfl | rfl | rfl | rfl | rfl | rfl<;>rfl
theorem hw_node {l:List Nd}:∀ el∈l.map Nd.enc,el.length=8:=by
 intro el hel
 obtain ⟨x,_,rfl⟩:=Cc.1 hel
 exact x.enc_len
def tot:List (List Nd)->Nat
 | []=>0
 | l::r=>l.length+tot r
theorem y1s:∀ ks:List (List Nd),ks.flatten.length=tot ks
 | []=>rfl
 | l::r=>by simp [tot,y1s r]
def z1u (x:Nd):Bool:=x.kind==1||x.kind==2||x.kind==3||(x.kind==4&&x.op != 4&&x.op != 5)
def vKey (v:Int):Value:=.int .i64 v
def vsOf (l:List Int):List (Value × PV):=l.foldl (λe v=>mput (vKey v) (.agg []) e) []
def VSet (es:List (Value × PV)):Prop:=(∀ e∈es,z1r (.int .i64) e.1=true)/\∀ e∈es,e.2 = .agg []
theorem VSet.nil:VSet []:=⟨λ_ h=>by simp at h,λ_ h=>by simp at h⟩
theorem VSet.put {es:List (Value × PV)} (h:VSet es) (v:Int):VSet (mput (vKey v) (.agg []) es):=by
 refine ⟨λe he=>?_,λe he=>?_⟩
 ·rcases z3u he with rfl | he
  ·rfl
  ·exact h.1 e he
 ·rcases z3u he with rfl | he
  ·rfl
  ·exact h.2 e he
theorem y8m (l:List Int) (v:Int):mput (vKey v) (.agg []) (vsOf l)=vsOf (l++[v]):=by simp [vsOf]
theorem VSet.of (l:List Int):VSet (vsOf l):=by
 have key:∀ (l:List Int) (es:List (Value × PV)),VSet es->VSet (l.foldl (λe v=>mput (vKey v) (.agg []) e) es):=by
  intro l
  induction l with
  | nil=>exact λ_ h=>h
  | cons v r ih=>exact λes h=>ih _ (h.put v)
 exact key l [] .nil
theorem y6w (k k':Int) (p:PV):∀ (es:List (Value × PV)),VSet es->z1f (vKey k) (mput (vKey k') p es)=if k=k' then some p else z1f (vKey k) es
 | [],_=>by
  simp only [mput,z1f]
  by_cases e:k=k'
  ·simp [e,vKey,keyB]
  ·simp [e,vKey,keyB]
 | (a,q)::r,h=>by
  have ha:=h.1 (a,q) (.head _)
  have hr:VSet r:=⟨λe he=>h.1 e (.tail _ he),λe he=>h.2 e (.tail _ he)⟩
  have ih:=y6w k k' p r hr
  cases a with
  | int kk z =>
   simp only [mput]
   by_cases e1:k'=z
   ·have b1:keyB (vKey k') (.int kk z)=true:=by simp [vKey,keyB,e1]
    rw [if_pos b1]
    simp only [z1f]
    by_cases e:k=k'
    ·simp [e,vKey,keyB]
    ·have b2:¬ keyB (vKey k) (vKey k')=true:=by simp [vKey,keyB,e]
     have b3:¬ keyB (vKey k) (.int kk z)=true:=by simp [vKey,keyB];omega
     rw [if_neg b2,if_neg e,if_neg b3]
   ·have b1:¬ keyB (vKey k') (.int kk z)=true:=by simp [vKey,keyB,e1]
    rw [if_neg b1]
    simp only [z1f,ih]
    by_cases e:k=z
    ·have b3:keyB (vKey k) (.int kk z)=true:=by simp [vKey,keyB,e]
     rw [if_pos b3,if_neg oM0,if_pos b3]
    ·have b3:¬ keyB (vKey k) (.int kk z)=true:=by simp [vKey,keyB,e]
     rw [if_neg b3,if_neg b3]
  | _=>simp [z1r] at ha
theorem vsOf_has (l:List Int) (v:Int):(z1f (vKey v) (vsOf l)).isSome=l.contains v:=by
 have key:∀ (l:List Int) (es:List (Value × PV)),VSet es->(z1f (vKey v) (l.foldl (λe v=>mput (vKey v) (.agg []) e) es)).isSome=((z1f (vKey v) es).isSome||l.contains v):=by
  intro l
  induction l with
  | nil=>intro es _;simp
  | cons a r ih =>
   intro es h
   rw [Dm,ih _ (h.put a),y6w _ _ _ _ h,E3]
   by_cases e:v=a
   ·simp [e]
   ·have eb:(v==a)=false:=by simpa using e
    rw [if_neg e,eb,C7]
 have:=key l [] .nil
 simpa [vsOf,z1f] using this
theorem unit_sub {F:Nat->Prop} {ρ:Loc} {σ:Heap'} {w:World} {v:Value} {k:Value} {es:List (Value × PV)} (h:VSet es) (hr:RepI F ρ σ w (.pv ((z1f k es).getD (.val (.agg #[])))) v):RepI F ρ σ w (.pv (.agg [])) v:=by
 cases hf:z1f k es with
 | none =>
  rw [hf] at hr
  obtain rfl:=hr.val
  exact .pv _ _ (.agg [] #[] (λ_=>undef) rfl (λj x hj=>by simp at hj) λj x hj=>by simp at hj)
 | some p =>
  obtain ⟨a,ha⟩:=z78 hf
  have:=h.2 _ ha
  simp only at this
  subst this
  rw [hf] at hr
  exact hr
def z0r (vs:List Int):List Nd->List Nd × List Nd
 | []=>([],[])
 | x::r =>
  if z1u x then
   if x.args.any (λv=>vs.contains v) then ((z0r (vs++[x.outs.headD 0]) r).1,x::(z0r (vs++[x.outs.headD 0]) r).2)
   else (x::(z0r vs r).1,(z0r vs r).2)
  else ([],x::r)
theorem z9w:∀ (l:List Nd) (vs:List Int),(z0r vs l).1.length+(z0r vs l).2.length=l.length
 | [],_=>rfl
 | x::r,vs=>by
  unfold z0r
  split
  ·split
   ·have:=z9w r (vs++[x.outs.headD 0]);simp only [Ah];omega
   ·have:=z9w r vs;simp only [Ah];omega
  ·simp
def hOut (kind op n:Int) (name:ByteArray) (args outs params:List Int) (ks:List (List Nd)):List Nd :=
 if kind==11 then
  match ks with
  | b::r=>(z0r params b).1++[.mk kind op n name args outs params ((z0r params b).2::r)]
  | []=>[.mk kind op n name args outs params []]
 else [.mk kind op n name args outs params ks]
mutual
def z4m:Nd->List Nd
 | .mk kind op n name args outs params ks=>hOut kind op n name args outs params (z3z ks)
def z0w:List Nd->List Nd
 | []=>[]
 | x::r=>z4m x++z0w r
def z3z:List (List Nd)->List (List Nd)
 | []=>[]
 | l::r=>z0w l::z3z r
end
theorem zw0 (x:Nd):z4m x=hOut x.kind x.op x.n x.name x.args x.outs x.params (z3z x.kids):=by cases x;simp [z4m,Nd.kind,Nd.op,Nd.n,Nd.name,Nd.args,Nd.outs,Nd.params,Nd.kids]
theorem zz4:∀ ks,z3z ks=ks.map z0w
 | []=>by simp [z3z]
 | l::r=>by simp [z3z,zz4 r]
mutual
def hOkN:Nd->Bool
 | .mk kind op n name args outs params ks=>(!z1u (.mk kind op n name args outs params ks) || !outs.isEmpty)&&(kind != 11 || !ks.isEmpty)&&hOkK ks
def hOkL:List Nd->Bool
 | []=>true
 | x::r=>hOkN x&&hOkL r
def hOkK:List (List Nd)->Bool
 | []=>true
 | l::r=>hOkL l&&hOkK r
end
theorem hOkN_eq (x:Nd):hOkN x=((!z1u x || !x.outs.isEmpty)&&(x.kind != 11 || !x.kids.isEmpty)&&hOkK x.kids):=by cases x;simp [hOkN,Nd.kind,Nd.outs,Nd.kids]
theorem yg2:∀ {l:List Nd} {x:Nd},hOkL l=true->x∈l->hOkN x=true
 | y::r,x,h,hx=>by
  simp only [hOkL,A0] at h
  rcases Ag.1 hx with rfl | hx
  ·exact h.1
  ·exact yg2 h.2 hx
theorem y4b:∀ {l:List (List Nd)} {x:List Nd},hOkK l=true->x∈l->hOkL x=true
 | y::r,x,h,hx=>by
  simp only [hOkK,A0] at h
  rcases Ag.1 hx with rfl | hx
  ·exact h.1
  ·exact y4b h.2 hx
def Outs (l:List Nd):Prop:=∀ x∈l,z1u x=true->x.outs≠[]
theorem zz5:∀ (l:List Nd) (vs:List Int) (x:Nd),(x∈(z0r vs l).1∨x∈(z0r vs l).2)↔x∈l
 | [],_,x=>by simp [z0r]
 | y::r,vs,x=>by
  unfold z0r
  split
  ·split
   ·have:=zz5 r (vs++[y.outs.headD 0]) x
    simp only [Ag]
    constructor
    ·rintro (h | h | h)
     ·exact .inr (this.1 (.inl h))
     ·exact .inl h
     ·exact .inr (this.1 (.inr h))
    ·rintro (h | h)
     ·exact .inr (.inl h)
     ·rcases this.2 h with h | h
      ·exact .inl h
      ·exact .inr (.inr h)
   ·have:=zz5 r vs x
    simp only [Ag]
    constructor
    ·rintro ((h | h) | h)
     ·exact .inl h
     ·exact .inr (this.1 (.inl h))
     ·exact .inr (this.1 (.inr h))
    ·rintro (h | h)
     ·exact .inl (.inl h)
     ·rcases this.2 h with h | h
      ·exact .inl (.inr h)
      ·exact .inr h
  ·simp
mutual
theorem yn6:∀ (x:Nd),hOkN x=true->Outs (z4m x)
 | .mk kind op n name args outs params ks,h=>by
  simp only [hOkN,A0,Bk,Bg] at h
  have hown:∀ ks',Outs [.mk kind op n name args outs params ks']:=by
   intro ks' y hy hm
   obtain rfl:=Ai.1 hy
   have hm2:z1u (.mk kind op n name args outs params ks)=true:=hm
   rcases h.1.1 with h1 | h1
   ·rw [h1] at hm2;cases hm2
   ·intro e
    have e2:outs=[]:=e
    rw [e2] at h1;cases h1
  unfold z4m hOut
  split
  ·match ks,h with
   | [],_=>simp only [z3z];exact hown _
   | l::r,h =>
    simp only [z3z]
    have hl:hOkL l=true:=by have:=h.2;simp only [hOkK,A0] at this;exact this.1
    have ih:=zo0 l hl
    intro y hy
    rcases Au.1 hy with hy | hy
    ·exact ih y ((zz5 (z0w l) params y).1 (.inl hy))
    ·exact hown _ y hy
  ·exact hown _
theorem zo0:∀ (l:List Nd),hOkL l=true->Outs (z0w l)
 | [],_=>by simp [z0w,Outs]
 | x::r,h=>by
  simp only [hOkL,A0] at h
  intro y hy
  simp only [z0w] at hy
  rcases Au.1 hy with hy | hy
  ·exact yn6 x h.1 y hy
  ·exact zo0 r h.2 y hy
end
mutual
theorem yy0:∀ (x:Nd),(z4m x).length<=ndW x
 | .mk kind op n name args outs params ks=>by
  unfold z4m hOut
  split
  ·match ks with
   | []=>simp [z3z,ndW];omega
   | l::r =>
    have h1:=zj1 l
    have h2:=z9w (z0w l) params
    simp only [z3z,ndW,kdW,Az,Ah,Ax]
    omega
  ·simp [ndW];omega
theorem zj1:∀ (l:List Nd),(z0w l).length<=lsW l
 | []=>by simp [z0w]
 | x::r=>by
  have h1:=yy0 x
  have h2:=zj1 r
  simp only [z0w,lsW,Az]
  omega
end
theorem yg5:∀ ks:List (List Nd),ks.length<=kdW ks
 | []=>by simp
 | l::r=>by have:=yg5 r;simp only [kdW,Ah];omega
def z5d (f:Fl):Fl:=⟨f.name,f.ty,f.params,f.types,z0w f.body⟩
def z3n (u:Un):Un:=⟨u.arrays,u.flows.map z5d⟩
def z6f (u:Un):Un × Int:=if (z4k u).1==0 then (z3n u,0) else (⟨[],[]⟩,1)
def inR (n:Nat) (ds:List Int):Prop:=∀ v∈ds,0<=v/\v<n
def Frs (set:List Bool) (ds:List Int):Prop:=ds.Nodup/\∀ v∈ds,set.getD v.toNat false=false
def z2x (set:List Bool) (ds:List Int):List Bool:=ds.foldl (λs v=>s.set v.toNat true) set
theorem z42:∀ (ds:List Int) (set:List Bool),(z2x set ds).length=set.length
 | [],_=>rfl
 | v::r,set=>by have:=z42 r (set.set v.toNat true);simpa [z2x] using this
theorem za6 (set:List Bool) (a b:List Int):z2x set (a++b)=z2x (z2x set a) b:=by simp [z2x]
theorem y05 {n:Nat}:∀ (ds:List Int) (set:List Bool),set.length=n->inR n ds->∀ v:Int,0<=v->v<n->(z2x set ds).getD v.toNat false=(ds.contains v||set.getD v.toNat false)
 | [],set,_,_,v,_,_=>by simp [z2x]
 | d::r,set,hn,hr,v,h0,h1=>by
  have ih:=y05 r (set.set d.toNat true) (by simpa using hn) (λv hv=>hr v (.tail _ hv)) v h0 h1
  obtain ⟨d0,d1⟩:=hr d (.head _)
  show (z2x (set.set d.toNat true) r).getD v.toNat false=_
  rw [ih,zi9,E3]
  by_cases e:v=d
  ·subst e
   rw [if_pos ⟨rfl,by omega⟩];simp
  ·have e2:¬ (d.toNat=v.toNat/\d.toNat<set.length):=by omega
   have e3:(v==d)=false:=by simpa using e
   rw [if_neg e2,e3,C7]
theorem zz1 {n:Nat} {set:List Bool} {a b:List Int} (hn:set.length=n) (ha:inR n a) (hb:inR n b):Frs set (a++b)↔Frs set a/\Frs (z2x set a) b:=by
 unfold Frs
 rw [Fg]
 constructor
 ·rintro ⟨⟨h1,h2,h3⟩,h4⟩
  refine ⟨⟨h1,λv hv=>h4 v (by simp [hv])⟩,h2,λv hv=>?_⟩
  rw [y05 a set hn ha v (hb v hv).1 (hb v hv).2,h4 v (by simp [hv])]
  have:a.contains v=false:=by
   rw [<- Fp,List.contains_iff_mem]
   exact λhm=>h3 v hm v hv rfl
  rw [this];rfl
 ·rintro ⟨⟨h1,h2⟩,h3,h4⟩
  have hkey:∀ v∈b,a.contains v=false/\set.getD v.toNat false=false:=λv hv=>by
   have:=h4 v hv
   rw [y05 a set hn ha v (hb v hv).1 (hb v hv).2,Bt] at this
   exact this
  refine ⟨⟨h1,h3,λx hx y hy e=>?_⟩,λv hv=>?_⟩
  ·subst e
   have:=(hkey x hy).1
   rw [<- Fp,List.contains_iff_mem] at this
   exact this hx
  ·rcases Au.1 hv with hv | hv
   ·exact h2 v hv
   ·exact (hkey v hv).2
def z7n (tys:List Int):List Int->List Int->Bool
 | [],[]=>true
 | v::r,w::ws=>z9c tys v w&&z7n tys r ws
 | _,_=>false
theorem z3l {tys:List Int}:∀ {l want:List Int},z7n tys l want=true->inR tys.length l
 | [],[],_=>λv hv=>by simp at hv
 | [],_::_,h=>by simp [z7n] at h
 | _::_,[],h=>by simp [z7n] at h
 | x::r,w::ws,h=>by
  simp only [z7n,A0,z9c,Be] at h
  intro v hv
  rcases Ag.1 hv with rfl | hv
  ·exact ⟨h.1.1.1,h.1.1.2⟩
  ·exact z3l h.2 v hv
theorem zc0 {tys:List Int}:∀ {l want:List Int},z7n tys l want=true->l.length=want.length
 | [],[],_=>rfl
 | [],_::_,h=>by simp [z7n] at h
 | _::_,[],h=>by simp [z7n] at h
 | x::r,w::ws,h=>by
  simp only [z7n,A0] at h
  simp [zc0 h.2]
theorem yv1 (tys:List Int) (set:List Bool) (v w:Int):z8y tys set v w=false↔z9c tys v w=true/\set.getD v.toNat false=false:=by
 unfold z8y z9c
 simp only [Bt,C0,A0,Be,Bk]
 constructor
 ·rintro ⟨⟨⟨h1,h2⟩,h3⟩,h4⟩
  refine ⟨⟨⟨by omega,by omega⟩,?_⟩,h3⟩
  cases hw:(w==0) with
  | true=>exact .inl rfl
  | false=>exact .inr (by simpa [bne,hw] using h4)
 ·rintro ⟨⟨⟨h1,h2⟩,h4⟩,h3⟩
  refine ⟨⟨⟨by omega,by omega⟩,h3⟩,?_⟩
  rcases h4 with h4 | h4
  ·simp [bne,h4]
  ·rw [show (tys.getD v.toNat 0 != w)=false from by rw [bne,h4];rfl,Dh]
theorem y3s (tys:List Int):∀ (l want:List Int) (set:List Bool),l.length=want.length->set.length=tys.length ->
 ((z2c tys set l want).1=true↔z7n tys l want=true/\Frs set l)/\((z2c tys set l want).1=true->(z2c tys set l want).2=z2x set l)
 | [],[],set,_,_=>by simp [z2c,z7n,Frs,z2x]
 | [],_::_,_,h,_=>by simp at h
 | _::_,[],_,h,_=>by simp at h
 | x::r,w::ws,set,hl,hn=>by
  obtain ⟨ih1,ih2⟩:=y3s tys r ws (set.set x.toNat true) (by simpa using hl) (by simpa using hn)
  simp only [z2c]
  cases hb:z8y tys set x w with
  | true =>
   simp only [C3,Ak,false_iff,not_and,false_implies,and_true]
   intro h1 h2
   simp only [z7n,A0] at h1
   have:=(yv1 tys set x w).2 ⟨h1.1,h2.2 x (.head _)⟩
   rw [hb] at this;cases this
  | false =>
   obtain ⟨b1,b2⟩:=(yv1 tys set x w).1 hb
   simp only [Ak,Bv]
   refine ⟨?_,λh=>ih2 h⟩
   rw [ih1]
   simp only [z7n,b1,B3]
   refine Eb λhv=>?_
   have hx:inR tys.length [x]:=λv hv=>by
    obtain rfl:=Ai.1 hv
    simp only [z9c,A0,Be] at b1
    exact ⟨b1.1.1,b1.1.2⟩
   have:=zz1 (a:=[x]) (b:=r) hn hx (z3l hv)
   rw [show x::r=[x]++r from rfl,this]
   exact ⟨λh=>⟨⟨by simp,λv hv=>by obtain rfl:=Ai.1 hv;exact b2⟩,h⟩,λh=>h.2⟩
theorem y5n (tys:List Int) (set:List Bool) (l want:List Int) (hn:set.length=tys.length) :
 ((z1p tys set l want).1=true↔z7n tys l want=true/\Frs set l)/\((z1p tys set l want).1=true->(z1p tys set l want).2=z2x set l):=by
 unfold z1p
 by_cases hl:l.length=want.length
 ·have e:((l.length:Int)==want.length)=true:=by simp;omega
  rw [if_pos e]
  exact y3s tys l want set hl hn
 ·have e:¬ ((l.length:Int)==want.length)=true:=by simp;omega
  rw [if_neg e]
  refine ⟨⟨λh=>(by cases h),λh=>absurd (zc0 h.1) hl⟩,λh=>by cases h⟩
structure SForm where
 b:Bool
 want:Option (List Int)
def SForm.run (s:SForm) (tys:List Int) (outs:List Int) (set:List Bool):Bool × List Bool:=match s.want with
 | some wt=>andS s.b set (z1p tys set outs wt)
 | none=>(s.b&&(outs.length:Int)==0,set)
def SForm.ok (s:SForm) (tys:List Int) (outs:List Int):Bool:=match s.want with
 | some wt=>s.b&&z7n tys outs wt
 | none=>s.b&&(outs.length:Int)==0
def z8p (u:Un) (f:Fl) (x:Nd) (seen:List Int) (w:Wh):SForm :=
 if x.kind==1 then ⟨z06 f.types seen x.args [],some [1]⟩
 else if x.kind==2 then ⟨(x.n==0||x.n==1)&&z06 f.types seen x.args [],some [2]⟩
 else if x.kind==3 then ⟨z2t x.op&&z06 f.types seen x.args [(z0n x.op).1],some [(z0n x.op).2]⟩
 else if x.kind==4 then ⟨z3s x.op&&z06 f.types seen x.args [(z0n x.op).1,(z0n x.op).1]&&f.types.getD (x.args.getD 0 0).toNat 0==f.types.getD (x.args.getD 1 0).toNat 0,some [(z0n x.op).2]⟩
 else if x.kind==5 then ⟨decide (z0f x.name u.arrays 0 ≥ 0)&&z06 f.types seen x.args [1],some [1]⟩
 else if x.kind==6 then ⟨decide (z0f x.name u.arrays 0 ≥ 0)&&z06 f.types seen x.args [1,1],none⟩
 else if x.kind==7 then (if decide (z05 x.name u.flows 0 ≥ 0)=true then match u.flows[(z05 x.name u.flows 0).toNat]? with
  | some g=>⟨z06 f.types seen x.args (g.types.take g.params.toNat),some [g.ty]⟩
  | none=>⟨false,none⟩
  else ⟨false,none⟩)
 else if x.kind==8 then ⟨(x.args.length:Int)==0,some [1]⟩
 else if x.kind==9 then ⟨z06 f.types seen x.args [1],none⟩
 else if x.kind==12 then ⟨w.If&&z06 f.types seen x.args w.Yield,none⟩
 else if x.kind==13 then ⟨w.Loop&&z06 f.types seen x.args w.Next,none⟩
 else if x.kind==14 then ⟨w.Loop&&z06 f.types seen x.args w.Left,none⟩
 else if x.kind==15 then ⟨z06 f.types seen x.args [f.ty],none⟩
 else ⟨false,none⟩
theorem yd1 (u:Un) (f:Fl) (set:List Bool) (x:Nd) (seen:List Int) (w:Wh):z1c u f set x seen w=(z8p u f x seen w).run f.types x.outs set:=by
 unfold z1c z8p zb3
 by_cases k1:(x.kind==1)=true
 ·rw [if_pos k1,if_pos k1];rfl
 rw [if_neg k1,if_neg k1]
 by_cases k2:(x.kind==2)=true
 ·rw [if_pos k2,if_pos k2];rfl
 rw [if_neg k2,if_neg k2]
 by_cases k3:(x.kind==3)=true
 ·rw [if_pos k3,if_pos k3];rfl
 rw [if_neg k3,if_neg k3]
 by_cases k4:(x.kind==4)=true
 ·rw [if_pos k4,if_pos k4];rfl
 rw [if_neg k4,if_neg k4]
 by_cases k5:(x.kind==5)=true
 ·rw [if_pos k5,if_pos k5];rfl
 rw [if_neg k5,if_neg k5]
 by_cases k6:(x.kind==6)=true
 ·rw [if_pos k6,if_pos k6];rfl
 rw [if_neg k6,if_neg k6]
 by_cases k7:(x.kind==7)=true
 ·rw [if_pos k7,if_pos k7]
  by_cases hp:decide (z05 x.name u.flows 0 ≥ 0)=true
  ·rw [if_pos hp,if_pos hp]
   cases u.flows[(z05 x.name u.flows 0).toNat]? with
   | none=>rfl
   | some g=>rfl
  ·rw [if_neg hp,if_neg hp];rfl
 rw [if_neg k7,if_neg k7]
 by_cases k8:(x.kind==8)=true
 ·rw [if_pos k8,if_pos k8];rfl
 rw [if_neg k8,if_neg k8]
 by_cases k9:(x.kind==9)=true
 ·rw [if_pos k9,if_pos k9];rfl
 rw [if_neg k9,if_neg k9]
 by_cases k12:(x.kind==12)=true
 ·rw [if_pos k12,if_pos k12];rfl
 rw [if_neg k12,if_neg k12]
 by_cases k13:(x.kind==13)=true
 ·rw [if_pos k13,if_pos k13];rfl
 rw [if_neg k13,if_neg k13]
 by_cases k14:(x.kind==14)=true
 ·rw [if_pos k14,if_pos k14];rfl
 rw [if_neg k14,if_neg k14]
 by_cases k15:(x.kind==15)=true
 ·rw [if_pos k15,if_pos k15];rfl
 rw [if_neg k15,if_neg k15]
 rfl
theorem run_iff {tys outs:List Int} {set:List Bool} (s:SForm) (hn:set.length=tys.length):((s.run tys outs set).1=true↔s.ok tys outs=true/\Frs set outs)/\((s.run tys outs set).1=true->(s.run tys outs set).2=z2x set outs):=by
 obtain ⟨b,want⟩:=s
 cases want with
 | some wt =>
  obtain ⟨h1,h2⟩:=y5n tys set outs wt hn
  simp only [SForm.run,SForm.ok,andS]
  cases b with
  | false=>simp
  | true=>simp only [C3,B3];exact ⟨h1,h2⟩
 | none =>
  simp only [SForm.run,SForm.ok]
  constructor
  ·constructor
   ·intro h
    refine ⟨h,?_⟩
    simp only [A0,As] at h
    have:outs=[]:=At oM0
    subst this
    exact ⟨by simp,λv hv=>by simp at hv⟩
   ·exact λh=>h.1
  ·intro h
   simp only [A0,As] at h
   have:outs=[]:=At oM0
   subst this
   rfl
theorem ok_in {tys outs:List Int} {s:SForm} (h:s.ok tys outs=true):inR tys.length outs:=by
 obtain ⟨b,want⟩:=s
 cases want with
 | some wt=>simp only [SForm.ok,A0] at h;exact z3l h.2
 | none =>
  simp only [SForm.ok,A0,As] at h
  have:outs=[]:=At oM0
  subst this
  exact λv hv=>by simp at hv
mutual
def dN:Nd->List Int
 | .mk _ _ _ _ _ outs params ks=>params++(dK ks++outs)
def dL:List Nd->List Int
 | []=>[]
 | x::r=>dN x++dL r
def dK:List (List Nd)->List Int
 | []=>[]
 | l::r=>dL l++dK r
end
theorem dN_eq (x:Nd):dN x=x.params++(dK x.kids++x.outs):=by cases x;simp [dN,Nd.params,Nd.kids,Nd.outs]
def zer (l:List Int):List Int:=List.replicate l.length 0
def w1 (w:Wh) (f:Fl) (x:Nd):Wh:=⟨true,w.Loop,r8of f.types x.outs,w.Next,w.Left⟩
def w2 (f:Fl) (x:Nd):Wh:=⟨false,true,[],r8of f.types x.params,r8of f.types x.outs⟩
def y4u (x:Nd):Bool:=(x.outs.length:Int)==0 || !z07 x
mutual
def z6m (u:Un) (f:Fl) (deep:Int) (w:Wh) (seen:List Int):Nd->Bool
 | .mk kind op n name args outs params kids =>
  z1j (.mk kind op n name args outs params kids) &&
  (if kind==10 then
   match kids with
   | a::b::_=>z06 f.types seen args [2]&&(!a.isEmpty&&vGo u f (deep+1) (w1 w f (.mk kind op n name args outs params kids)) seen a)&&(!b.isEmpty&&vGo u f (deep+1) (w1 w f (.mk kind op n name args outs params kids)) seen b) &&
    y4u (.mk kind op n name args outs params kids)&&z7n f.types outs (zer outs)
   | _=>false
  else if kind==11 then
   match kids with
   | a::_=>z06 f.types seen args (r8of f.types params)&&z7n f.types params (zer params)&&(!a.isEmpty&&vGo u f (deep+1) (w2 f (.mk kind op n name args outs params kids)) (seen++params) a) &&
    y4u (.mk kind op n name args outs params kids)&&z7n f.types outs (zer outs)
   | _=>false
  else (z8p u f (.mk kind op n name args outs params kids) seen w).ok f.types outs)
def vGo (u:Un) (f:Fl) (deep:Int) (w:Wh) (all:List Int):List Nd->Bool
 | []=>true
 | x::r=>!decide (deep > 100)&&z6m u f deep w all x&&(z07 x==r.isEmpty)&&vGo u f deep w (all++x.outs) r
end
def z3c (u:Un) (f:Fl) (deep:Int) (w:Wh) (all:List Int) (l:List Nd):Bool:=!l.isEmpty&&vGo u f deep w all l
theorem z5p (u:Un) (f:Fl) (deep:Int) (w:Wh) (seen:List Int) {x:Nd} {a b:List Nd} (h:z1j x=true) (hk:x.kind=10) (hx:x.kids=[a,b]) :
 z6m u f deep w seen x=(z06 f.types seen x.args [2]&&z3c u f (deep+1) (w1 w f x) seen a&&z3c u f (deep+1) (w1 w f x) seen b&&y4u x&&z7n f.types x.outs (zer x.outs)):=by
 cases x
 simp only [Nd.kind,Nd.kids] at hk hx
 subst hk hx
 unfold z6m
 simp only [h,B3,Nd.args,Nd.outs]
 rfl
theorem z3b (u:Un) (f:Fl) (deep:Int) (w:Wh) (seen:List Int) {x:Nd} {a:List Nd} (h:z1j x=true) (hk:x.kind=11) (hx:x.kids=[a]) :
 z6m u f deep w seen x=(z06 f.types seen x.args (r8of f.types x.params)&&z7n f.types x.params (zer x.params)&&z3c u f (deep+1) (w2 f x) (seen++x.params) a&&y4u x&&z7n f.types x.outs (zer x.outs)):=by
 cases x
 simp only [Nd.kind,Nd.kids] at hk hx
 subst hk hx
 unfold z6m
 simp only [h,B3,Nd.args,Nd.outs,Nd.params]
 rfl
theorem z2p (u:Un) (f:Fl) (deep:Int) (w:Wh) (seen:List Int) {x:Nd} (h:z1j x=true) (h1:(x.kind==10)=false) (h2:(x.kind==11)=false) :
 z6m u f deep w seen x=(z8p u f x seen w).ok f.types x.outs:=by
 cases x
 simp only [Nd.kind] at h1 h2
 unfold z6m
 simp only [h,B3,Nd.outs,h1,h2,Ak,Bv]
theorem z2g (u:Un) (f:Fl) (deep:Int) (w:Wh) (seen:List Int) {x:Nd} (h:z6m u f deep w seen x=true):z1j x=true:=by
 cases x
 unfold z6m at h
 simp only [A0] at h
 exact h.1
theorem zy1 {x:Nd} (h:z1j x=true) (hk:(x.kind==11)=false):x.params=[]:=by
 simp only [z1j,A0,hk,C7,As] at h
 exact At oM0
theorem z8b {x:Nd} (h:z1j x=true) (h1:(x.kind==10)=false) (h2:(x.kind==11)=false):x.kids=[]:=by
 have:=zg5 h
 simp only [r8kn,h1,h2,Ak,Bv] at this
 exact At oM0
theorem zy4 {x:Nd} (h:z1j x=true) (h1:(x.kind==10)=false) (h2:(x.kind==11)=false):dN x=x.outs:=by
 rw [dN_eq,zy1 h h2,z8b h h1 h2];rfl
theorem dN_if {x:Nd} {a b:List Nd} (h:z1j x=true) (hk:x.kind=10) (hx:x.kids=[a,b]):dN x=dL a++(dL b++x.outs):=by
 rw [dN_eq,zy1 h (by rw [hk];rfl),hx];simp [dK]
theorem y8x {x:Nd} {a:List Nd} (hx:x.kids=[a]):dN x=x.params++(dL a++x.outs):=by
 rw [dN_eq,hx];simp [dK]
theorem zo3 {n:Nat} {a b:List Int}:inR n (a++b)↔inR n a/\inR n b :=
 ⟨λh=>⟨λv hv=>h v (by simp [hv]),λv hv=>h v (by simp [hv])⟩,λh v hv=>(Au.1 hv).elim (h.1 v) (h.2 v)⟩
theorem zv8 {n:Nat} {set:List Bool} {a b d:List Int} (hn:set.length=n) (ha:inR n a) (hb:inR n b) (hd:inR n d):Frs set (a++(b++d))↔Frs set a/\Frs (z2x set a) b/\Frs (z2x (z2x set a) b) d:=by
 rw [zz1 hn ha (zo3.2 ⟨hb,hd⟩),zz1 ((z42 a set).trans hn) hb hd]
def RG (u:Un) (f:Fl) (l:List Nd):Prop:=∀ (deep:Int) (w:Wh) (all:List Int),vGo u f deep w all l=true->inR f.types.length (dL l)
theorem y9n (u:Un) (f:Fl) (x:Nd) (ih:∀ q∈x.kids,RG u f q) (deep:Int) (w:Wh) (seen:List Int) (h:z6m u f deep w seen x=true):inR f.types.length (dN x):=by
 have hb:=z2g u f deep w seen h
 by_cases h10:x.kind=10
 ·obtain ⟨a,b,hk⟩:=z3o hb h10
  rw [z5p u f deep w seen hb h10 hk] at h
  simp only [A0,z3c] at h
  rw [dN_if hb h10 hk]
  exact zo3.2 ⟨ih a (by rw [hk];simp) _ _ _ h.1.1.1.2.2,zo3.2 ⟨ih b (by rw [hk];simp) _ _ _ h.1.1.2.2,z3l h.2⟩⟩
 ·by_cases h11:x.kind=11
  ·obtain ⟨a,hk⟩:=z1y hb h11
   rw [z3b u f deep w seen hb h11 hk] at h
   simp only [A0,z3c] at h
   rw [y8x hk]
   exact zo3.2 ⟨z3l h.1.1.1.2,zo3.2 ⟨ih a (by rw [hk];simp) _ _ _ h.1.1.2.2,z3l h.2⟩⟩
  ·have e10:(x.kind==10)=false:=by simpa using h10
   have e11:(x.kind==11)=false:=by simpa using h11
   rw [z2p u f deep w seen hb e10 e11] at h
   rw [zy4 hb e10 e11]
   exact ok_in h
theorem go_in (u:Un) (f:Fl):∀ (l:List Nd),(∀ x∈l,∀ q∈x.kids,RG u f q)->RG u f l
 | [],_=>λ_ _ _ _ v hv=>by simp [dL] at hv
 | x::r,ih=>λdeep w all h=>by
  simp only [vGo,A0] at h
  exact zo3.2 ⟨y9n u f x (ih x (.head _)) _ _ _ h.1.1.2,go_in u f r (λy hy=>ih y (.tail _ hy)) _ _ _ h.2⟩
theorem rg_all (u:Un) (f:Fl):∀ (N:Nat) (l:List Nd),SizeOf.sizeOf l<N->RG u f l
 | 0,_,h=>absurd h (Ae _)
 | N+1,l,hN=>go_in u f l λx hx q hq=>rg_all u f N q (Ba (z9i hx rfl hq) (C2 hN))
theorem rg (u:Un) (f:Fl) (l:List Nd):RG u f l:=rg_all u f _ l (A5 _)
def CH (u:Un) (f:Fl) (l:List Nd):Prop:=∀ (deep:Int) (w:Wh) (seen:List Int) (set:List Bool),set.length=f.types.length ->
 ((z2j u f deep w seen set l).1=true↔z3c u f deep w seen l=true/\Frs set (dL l))/\((z2j u f deep w seen set l).1=true->(z2j u f deep w seen set l).2=z2x set (dL l))
theorem z4q {q:Bool × List Bool} {k:List Bool->Bool × List Bool}:((andT q k).1=true↔q.1=true/\(k q.2).1=true)/\((andT q k).1=true->(andT q k).2=(k q.2).2):=by
 unfold andT
 cases q.1 with
 | false=>simp
 | true=>simp
theorem yw5 (f:Fl) (x:Nd) (set:List Bool) (hn:set.length=f.types.length):((ze4 f x set).1=true↔(y4u x=true/\z7n f.types x.outs (zer x.outs)=true)/\Frs set x.outs)/\((ze4 f x set).1=true->(ze4 f x set).2=z2x set x.outs):=by
 obtain ⟨h1,h2⟩:=y5n f.types set x.outs (zer x.outs) hn
 unfold ze4 andS
 show ((if y4u x=true then _ else _:Bool × List Bool).1=true↔_)/\_
 by_cases ho:y4u x=true
 ·simp only [ho,C3,true_and]
  exact ⟨h1,λh=>by
   have ho2:((x.outs.length:Int)==0 || !z07 x)=true:=ho
   rw [if_pos ho2] at h ⊢
   exact h2 h⟩
 ·have ho2:¬ ((x.outs.length:Int)==0 || !z07 x)=true:=ho
  rw [if_neg ho,if_neg ho2]
  simp [ho]
theorem node_iff (u:Un) (f:Fl) (x:Nd) (ih:∀ q∈x.kids,CH u f q) (deep:Int) (w:Wh) (seen:List Int) (set:List Bool) (hn:set.length=f.types.length) :
 ((z4n u f deep w seen set x).1=true↔z6m u f deep w seen x=true/\Frs set (dN x))/\((z4n u f deep w seen set x).1=true->(z4n u f deep w seen set x).2=z2x set (dN x)):=by
 cases hb:z1j x with
 | false =>
  rw [zg6 _ _ _ _ _ _ hb]
  refine ⟨⟨λh=>(by cases h),λh=>?_⟩,λh=>by cases h⟩
  have:=z2g u f deep w seen h.1
  rw [hb] at this;cases this
 | true =>
  by_cases h10:x.kind=10
  ·obtain ⟨a,b,hk⟩:=z3o hb h10
   rw [y0o _ _ _ _ _ _ hb h10 hk,z5p u f deep w seen hb h10 hk,dN_if hb h10 hk,show (⟨true,w.Loop,r8of f.types x.outs,w.Next,w.Left⟩:Wh)=w1 w f x from rfl]
   by_cases ht:z06 f.types seen x.args [2]=true
   ·rw [if_pos ht]
    obtain ⟨a1,a2⟩:=ih a (by rw [hk];simp) (deep+1) (w1 w f x) seen set hn
    have hna:(z2x set (dL a)).length=f.types.length:=(z42 _ _).trans hn
    obtain ⟨b1,b2⟩:=ih b (by rw [hk];simp) (deep+1) (w1 w f x) seen (z2x set (dL a)) hna
    have hnb:(z2x (z2x set (dL a)) (dL b)).length=f.types.length:=(z42 _ _).trans hna
    obtain ⟨e1,e2⟩:=yw5 f x (z2x (z2x set (dL a)) (dL b)) hnb
    have key:(andT (z2j u f (deep+1) (w1 w f x) seen set a) (λs1=>andT (z2j u f (deep+1) (w1 w f x) seen s1 b) λs2=>ze4 f x s2)).1=true ↔
     (z2j u f (deep+1) (w1 w f x) seen set a).1=true/\(z2j u f (deep+1) (w1 w f x) seen (z2x set (dL a)) b).1=true/\(ze4 f x (z2x (z2x set (dL a)) (dL b))).1=true:=by
     rw [z4q.1]
     refine Eb λh=>?_
     rw [a2 h,z4q.1]
     exact Eb λh2=>by rw [b2 h2]
    refine ⟨?_,λh=>?_⟩
    ·rw [key,a1,b1,e1]
     simp only [ht,B3,A0]
     constructor
     ·rintro ⟨⟨c1,c2⟩,⟨c3,c4⟩,⟨c5,c6⟩,c7⟩
      have ra:=rg u f a _ _ _ (by simp only [z3c,A0] at c1;exact c1.2)
      have rb:=rg u f b _ _ _ (by simp only [z3c,A0] at c3;exact c3.2)
      exact ⟨⟨⟨⟨c1,c3⟩,c5⟩,c6⟩,(zv8 hn ra rb (z3l c6)).2 ⟨c2,c4,c7⟩⟩
     ·rintro ⟨⟨⟨⟨c1,c3⟩,c5⟩,c6⟩,c7⟩
      have ra:=rg u f a _ _ _ (by simp only [z3c,A0] at c1;exact c1.2)
      have rb:=rg u f b _ _ _ (by simp only [z3c,A0] at c3;exact c3.2)
      obtain ⟨d1,d2,d3⟩:=(zv8 hn ra rb (z3l c6)).1 c7
      exact ⟨⟨c1,d1⟩,⟨c3,d2⟩,⟨c5,c6⟩,d3⟩
    ·obtain ⟨k1,k2,k3⟩:=key.1 h
     have h':=(z4q.1.1 h).2
     rw [z4q.2 h,a2 k1]
     rw [a2 k1] at h'
     rw [z4q.2 h',b2 k2,e2 k3,za6,za6]
   ·rw [if_neg ht]
    refine ⟨⟨λh=>(by cases h),λh=>?_⟩,λh=>by cases h⟩
    simp only [A0] at h
    exact absurd h.1.1.1.1.1 ht
  ·by_cases h11:x.kind=11
   ·obtain ⟨a,hk⟩:=z1y hb h11
    rw [zg7 _ _ _ _ _ _ hb h11 hk,z3b u f deep w seen hb h11 hk,y8x hk,show (⟨false,true,[],r8of f.types x.params,r8of f.types x.outs⟩:Wh)=w2 f x from rfl,show List.replicate x.params.length 0=zer x.params from rfl]
    by_cases ht:z06 f.types seen x.args (r8of f.types x.params)=true
    ·rw [if_pos ht]
     obtain ⟨a1,a2⟩:=y5n f.types set x.params (zer x.params) hn
     have hna:(z2x set x.params).length=f.types.length:=(z42 _ _).trans hn
     obtain ⟨b1,b2⟩:=ih a (by rw [hk];simp) (deep+1) (w2 f x) (seen++x.params) (z2x set x.params) hna
     have hnb:(z2x (z2x set x.params) (dL a)).length=f.types.length:=(z42 _ _).trans hna
     obtain ⟨e1,e2⟩:=yw5 f x (z2x (z2x set x.params) (dL a)) hnb
     have key:(andT (z1p f.types set x.params (zer x.params)) (λs1=>andT (z2j u f (deep+1) (w2 f x) (seen++x.params) s1 a) λs2=>ze4 f x s2)).1=true ↔
      (z1p f.types set x.params (zer x.params)).1=true/\(z2j u f (deep+1) (w2 f x) (seen++x.params) (z2x set x.params) a).1=true/\(ze4 f x (z2x (z2x set x.params) (dL a))).1=true:=by
      rw [z4q.1]
      refine Eb λh=>?_
      rw [a2 h,z4q.1]
      exact Eb λh2=>by rw [b2 h2]
     refine ⟨?_,λh=>?_⟩
     ·rw [key,a1,b1,e1]
      simp only [ht,B3,A0]
      constructor
      ·rintro ⟨⟨c1,c2⟩,⟨c3,c4⟩,⟨c5,c6⟩,c7⟩
       have rb:=rg u f a _ _ _ (by simp only [z3c,A0] at c3;exact c3.2)
       exact ⟨⟨⟨⟨c1,c3⟩,c5⟩,c6⟩,(zv8 hn (z3l c1) rb (z3l c6)).2 ⟨c2,c4,c7⟩⟩
      ·rintro ⟨⟨⟨⟨c1,c3⟩,c5⟩,c6⟩,c7⟩
       have rb:=rg u f a _ _ _ (by simp only [z3c,A0] at c3;exact c3.2)
       obtain ⟨d1,d2,d3⟩:=(zv8 hn (z3l c1) rb (z3l c6)).1 c7
       exact ⟨⟨c1,d1⟩,⟨c3,d2⟩,⟨c5,c6⟩,d3⟩
     ·obtain ⟨k1,k2,k3⟩:=key.1 h
      have h':=(z4q.1.1 h).2
      rw [z4q.2 h,a2 k1]
      rw [a2 k1] at h'
      rw [z4q.2 h',b2 k2,e2 k3,za6,za6]
    ·rw [if_neg ht]
     refine ⟨⟨λh=>(by cases h),λh=>?_⟩,λh=>by cases h⟩
     simp only [A0] at h
     exact absurd h.1.1.1.1.1 ht
   ·have e10:(x.kind==10)=false:=by simpa using h10
    have e11:(x.kind==11)=false:=by simpa using h11
    rw [z91 _ _ _ _ _ _ hb e10 e11,z2p u f deep w seen hb e10 e11,zy4 hb e10 e11,yd1]
    exact run_iff _ hn
theorem go_iff (u:Un) (f:Fl) (deep:Int) (w:Wh):∀ (l:List Nd),(∀ x∈l,∀ q∈x.kids,CH u f q)->∀ (all:List Int) (set:List Bool),set.length=f.types.length ->
 ((r8go u f deep w all set l).1=true↔vGo u f deep w all l=true/\Frs set (dL l))/\((r8go u f deep w all set l).1=true->(r8go u f deep w all set l).2=z2x set (dL l))
 | [],_,all,set,_=>by simp [r8go,vGo,dL,Frs,z2x]
 | x::r,ih,all,set,hn=>by
  obtain ⟨n1,n2⟩:=node_iff u f x (ih x (.head _)) deep w all set hn
  have hm:(z2x set (dN x)).length=f.types.length:=(z42 _ _).trans hn
  obtain ⟨r1,r2⟩:=go_iff u f deep w r (λy hy=>ih y (.tail _ hy)) (all++x.outs) (z2x set (dN x)) hm
  unfold r8go vGo
  by_cases hd:deep > 100
  ·rw [if_pos hd]
   simp [hd]
  ·rw [if_neg hd]
   have hdb:(!decide (deep > 100))=true:=by simpa using hd
   by_cases hc:(z07 x != r.isEmpty)=true
   ·have hcb:(z07 x==r.isEmpty)=false:=by
     cases hcc:(z07 x==r.isEmpty) with
     | false=>rfl
     | true=>simp [bne,hcc] at hc
    simp only [if_pos hc,hcb,Dh,Cu,Ak,false_and,iff_false,Fp]
    have:(andT (z4n u f deep w all set x) λs1=>(false,s1)).1=false:=by
     unfold andT;split<;>rfl
    exact ⟨this,λh=>by rw [this] at h;cases h⟩
   ·have hcb:(z07 x==r.isEmpty)=true:=by
     cases hcc:(z07 x==r.isEmpty) with
     | true=>rfl
     | false=>simp [bne,hcc] at hc
    simp only [if_neg hc,hcb,hdb,B3,Cp,A0]
    have key:(andT (z4n u f deep w all set x) λs1=>r8go u f deep w (all++x.outs) s1 r).1=true↔(z4n u f deep w all set x).1=true/\(r8go u f deep w (all++x.outs) (z2x set (dN x)) r).1=true:=by
     rw [z4q.1]
     exact Eb λh=>by rw [n2 h]
    refine ⟨?_,λh=>?_⟩
    ·rw [key,n1,r1]
     constructor
     ·rintro ⟨⟨c1,c2⟩,c3,c4⟩
      exact ⟨⟨c1,c3⟩,(zz1 hn (y9n u f x (λq _=>rg u f q) _ _ _ c1) (rg u f r _ _ _ c3)).2 ⟨c2,c4⟩⟩
     ·rintro ⟨⟨c1,c3⟩,c4⟩
      obtain ⟨d1,d2⟩:=(zz1 hn (y9n u f x (λq _=>rg u f q) _ _ _ c1) (rg u f r _ _ _ c3)).1 c4
      exact ⟨⟨c1,d1⟩,c3,d2⟩
    ·obtain ⟨k1,k2⟩:=key.1 h
     rw [z4q.2 h,n2 k1,r2 k2]
     show _=z2x set (dN x++dL r)
     rw [za6]
theorem ch_all (u:Un) (f:Fl):∀ (N:Nat) (l:List Nd),SizeOf.sizeOf l<N->CH u f l
 | 0,_,h=>absurd h (Ae _)
 | N+1,l,hN=>by
  intro deep w seen set hn
  obtain ⟨h1,h2⟩:=go_iff u f deep w l (λx hx q hq=>ch_all u f N q (Ba (z9i hx rfl hq) (C2 hN))) seen set hn
  unfold z2j ne z3c
  cases l with
  | nil=>simp
  | cons x r=>simpa using ⟨h1,h2⟩
theorem z70 (u:Un) (f:Fl) (l:List Nd) (deep:Int) (w:Wh) (seen:List Int) (set:List Bool) (hn:set.length=f.types.length):(z2j u f deep w seen set l).1=true↔z3c u f deep w seen l=true/\Frs set (dL l) :=
 (ch_all u f _ l (A5 _) deep w seen set hn).1
def SubL (a b:List Int):Prop:=∀ v:Int,a.contains v=true->b.contains v=true
theorem SubL.refl (a:List Int):SubL a a:=λ_ h=>h
theorem SubL.app {a b c d:List Int} (h:SubL a b) (h2:SubL c d):SubL (a++c) (b++d):=λv hv=>by
 rw [Bp,Bk] at hv ⊢
 exact hv.elim (λh'=>.inl (h v h')) (λh'=>.inr (h2 v h'))
theorem SubL.left {a b c:List Int} (h:SubL a b):SubL a (b++c):=λv hv=>by rw [Bp,h v hv];rfl
theorem y1u {tys s s':List Int}:∀ {l want:List Int},(∀ v∈l,s.contains v=true->s'.contains v=true)->z16 tys s l want=true->z16 tys s' l want=true
 | [],_,_,_=>by simp [z16]
 | _::_,[],_,_=>by simp [z16]
 | x::r,w::ws,hs,h=>by
  simp only [z16,A0] at h ⊢
  refine ⟨?_,y1u (λv hv=>hs v (.tail _ hv)) h.2⟩
  have h1:=h.1
  unfold zb5 at h1 ⊢
  cases hc:s.contains x with
  | false=>rw [hc] at h1;simp at h1
  | true=>rw [hs x (.head _) hc];rw [hc] at h1;exact h1
theorem y8d {tys s s' l want:List Int} (hs:∀ v∈l,s.contains v=true->s'.contains v=true) (h:z06 tys s l want=true):z06 tys s' l want=true:=by
 unfold z06 at h ⊢
 simp only [A0] at h ⊢
 exact ⟨h.1,y1u hs h.2⟩
theorem z8r {tys s s' l want:List Int} (hs:SubL s s') (h:z06 tys s l want=true):z06 tys s' l want=true:=y8d (λv _=>hs v) h
theorem z5t {x:Nd} (h:z1u x=true):(x.kind=1∨x.kind=2∨x.kind=3∨x.kind=4):=by
 simp only [z1u,Bk,A0,As] at h
 rcases h with ((h | h) | h) | h
 ·exact .inl h
 ·exact .inr (.inl h)
 ·exact .inr (.inr (.inl h))
 ·exact .inr (.inr (.inr h.1.1))
theorem z9x {x:Nd} (h:z1u x=true):(x.kind==10)=false/\(x.kind==11)=false/\z07 x=false/\z2r x=false:=by
 have hk:=z5t h
 have h10:(x.kind==10)=false:=by simp;omega
 have h11:(x.kind==11)=false:=by simp;omega
 have h14:(x.kind==14)=false:=by simp;omega
 refine ⟨h10,h11,?_,?_⟩
 ·simp only [z07,h10,h11,Cu,Ak,Bv,z0t]
  simp;omega
 ·rw [z43,h10,h14];rfl
theorem ys9 {u:Un} {f:Fl} {x:Nd} {s s':List Int} {w:Wh} {outs:List Int} (hs:SubL s s') (h:(z8p u f x s w).ok f.types outs=true):(z8p u f x s' w).ok f.types outs=true:=by
 have M:∀ want,z06 f.types s x.args want=true->z06 f.types s' x.args want=true:=λwant=>z8r hs
 have F:∀ (b b':Bool) (want:Option (List Int)),(b=true->b'=true)->SForm.ok ⟨b,want⟩ f.types outs=true->SForm.ok ⟨b',want⟩ f.types outs=true:=λb b' want hb h=>by
  cases want<;>simp only [SForm.ok,A0] at h ⊢<;>exact ⟨hb h.1,h.2⟩
 unfold z8p at h ⊢
 by_cases k1:(x.kind==1)=true
 ·rw [if_pos k1] at h ⊢
  exact F _ _ _ (λhb=>M _ hb) h
 rw [if_neg k1] at h ⊢
 by_cases k2:(x.kind==2)=true
 ·rw [if_pos k2] at h ⊢
  exact F _ _ _ (λhb=>by simp only [A0] at hb ⊢;exact ⟨hb.1,M _ hb.2⟩) h
 rw [if_neg k2] at h ⊢
 by_cases k3:(x.kind==3)=true
 ·rw [if_pos k3] at h ⊢
  exact F _ _ _ (λhb=>by simp only [A0] at hb ⊢;exact ⟨hb.1,M _ hb.2⟩) h
 rw [if_neg k3] at h ⊢
 by_cases k4:(x.kind==4)=true
 ·rw [if_pos k4] at h ⊢
  exact F _ _ _ (λhb=>by simp only [A0] at hb ⊢;exact ⟨⟨hb.1.1,M _ hb.1.2⟩,hb.2⟩) h
 rw [if_neg k4] at h ⊢
 by_cases k5:(x.kind==5)=true
 ·rw [if_pos k5] at h ⊢
  exact F _ _ _ (λhb=>by simp only [A0] at hb ⊢;exact ⟨hb.1,M _ hb.2⟩) h
 rw [if_neg k5] at h ⊢
 by_cases k6:(x.kind==6)=true
 ·rw [if_pos k6] at h ⊢
  exact F _ _ _ (λhb=>by simp only [A0] at hb ⊢;exact ⟨hb.1,M _ hb.2⟩) h
 rw [if_neg k6] at h ⊢
 by_cases k7:(x.kind==7)=true
 ·rw [if_pos k7] at h ⊢
  by_cases hp:decide (z05 x.name u.flows 0 ≥ 0)=true
  ·rw [if_pos hp] at h ⊢
   cases hg:u.flows[(z05 x.name u.flows 0).toNat]? with
   | none=>rw [hg] at h;exact h
   | some g=>rw [hg] at h;exact F _ _ _ (λhb=>M _ hb) h
  ·rw [if_neg hp] at h ⊢;exact h
 rw [if_neg k7] at h ⊢
 by_cases k8:(x.kind==8)=true
 ·rw [if_pos k8] at h ⊢
  exact h
 rw [if_neg k8] at h ⊢
 by_cases k9:(x.kind==9)=true
 ·rw [if_pos k9] at h ⊢
  exact F _ _ _ (λhb=>M _ hb) h
 rw [if_neg k9] at h ⊢
 by_cases k12:(x.kind==12)=true
 ·rw [if_pos k12] at h ⊢
  exact F _ _ _ (λhb=>by simp only [A0] at hb ⊢;exact ⟨hb.1,M _ hb.2⟩) h
 rw [if_neg k12] at h ⊢
 by_cases k13:(x.kind==13)=true
 ·rw [if_pos k13] at h ⊢
  exact F _ _ _ (λhb=>by simp only [A0] at hb ⊢;exact ⟨hb.1,M _ hb.2⟩) h
 rw [if_neg k13] at h ⊢
 by_cases k14:(x.kind==14)=true
 ·rw [if_pos k14] at h ⊢
  exact F _ _ _ (λhb=>by simp only [A0] at hb ⊢;exact ⟨hb.1,M _ hb.2⟩) h
 rw [if_neg k14] at h ⊢
 by_cases k15:(x.kind==15)=true
 ·rw [if_pos k15] at h ⊢
  exact F _ _ _ (λhb=>M _ hb) h
 rw [if_neg k15] at h ⊢
 exact h
theorem zh8 {u:Un} {f:Fl} {x:Nd} {s s':List Int} {w w':Wh} {outs:List Int} (hm:z1u x=true) (hs:∀ v∈x.args,s.contains v=true->s'.contains v=true) (h:(z8p u f x s w).ok f.types outs=true) :
 (z8p u f x s' w').ok f.types outs=true/\outs.length=1:=by
 have M:∀ want,z06 f.types s x.args want=true->z06 f.types s' x.args want=true:=λwant=>y8d hs
 have F:∀ (b b':Bool) (t:Int),(b=true->b'=true)->SForm.ok ⟨b,some [t]⟩ f.types outs=true->SForm.ok ⟨b',some [t]⟩ f.types outs=true/\outs.length=1:=λb b' t hb h=>by
  simp only [SForm.ok,A0] at h ⊢
  exact ⟨⟨hb h.1,h.2⟩,zc0 h.2⟩
 unfold z8p at h ⊢
 by_cases k1:(x.kind==1)=true
 ·rw [if_pos k1] at h ⊢
  exact F _ _ _ (λhb=>M _ hb) h
 rw [if_neg k1] at h ⊢
 by_cases k2:(x.kind==2)=true
 ·rw [if_pos k2] at h ⊢
  exact F _ _ _ (λhb=>by simp only [A0] at hb ⊢;exact ⟨hb.1,M _ hb.2⟩) h
 rw [if_neg k2] at h ⊢
 by_cases k3:(x.kind==3)=true
 ·rw [if_pos k3] at h ⊢
  exact F _ _ _ (λhb=>by simp only [A0] at hb ⊢;exact ⟨hb.1,M _ hb.2⟩) h
 rw [if_neg k3] at h ⊢
 by_cases k4:(x.kind==4)=true
 ·rw [if_pos k4] at h ⊢
  exact F _ _ _ (λhb=>by simp only [A0] at hb ⊢;exact ⟨⟨hb.1.1,M _ hb.1.2⟩,hb.2⟩) h
 rw [if_neg k4] at h ⊢
 have hk:=z5t hm
 simp only [As] at k1 k2 k3 k4
 omega
theorem yw3:∀ (a b:List Nd),dL (a++b)=dL a++dL b
 | [],_=>rfl
 | x::r,b=>by simp only [B8,dL,yw3 r b,C8]
theorem y0j:∀ (l:List Nd) (vs:List Int),List.Perm (dL (z0r vs l).1++dL (z0r vs l).2) (dL l)
 | [],_=>by simp [z0r,dL]
 | x::r,vs=>by
  unfold z0r
  split
  ·split
   ·have ih:=y0j r (vs++[x.outs.headD 0])
    simp only [dL]
    refine (List.perm_append_comm_assoc _ _ _).trans ?_
    exact ih.append_left (dN x)
   ·have ih:=y0j r vs
    simp only [dL,C8]
    exact ih.append_left (dN x)
  ·simp [dL]
mutual
theorem yn7:∀ x:Nd,List.Perm (dL (z4m x)) (dN x)
 | .mk kind op n name args outs params ks=>by
  have hk:=y2q ks
  unfold z4m hOut
  split
  ·cases hq:z3z ks with
   | nil =>
    rw [hq] at hk
    simp only [dL,dN,Cl]
    exact (hk.append_right outs).append_left params
   | cons b r =>
    rw [hq] at hk
    simp only [yw3,dL,dN,dK,Cl] at hk ⊢
    have hp:=y0j b params
    refine (List.perm_append_comm_assoc _ _ _).trans (List.Perm.append_left params ?_)
    rw [<- C8,<- C8]
    refine List.Perm.append_right outs ?_
    refine (List.Perm.append_right (dK r) hp).trans hk
  ·simp only [dL,dN,Cl]
   exact (hk.append_right outs).append_left params
theorem zo1:∀ l:List Nd,List.Perm (dL (z0w l)) (dL l)
 | []=>by simp [z0w]
 | x::r=>by
  simp only [z0w,yw3,dL]
  exact (yn7 x).append (zo1 r)
theorem y2q:∀ ks:List (List Nd),List.Perm (dK (z3z ks)) (dK ks)
 | []=>by simp [z3z]
 | l::r=>by
  simp only [z3z,dK]
  exact (zo1 l).append (y2q r)
end
theorem Frs.perm {set:List Bool} {a b:List Int} (h:Frs set a) (hp:List.Perm a b):Frs set b:=⟨hp.nodup_iff.1 h.1,λv hv=>h.2 v (hp.mem_iff.2 hv)⟩
theorem zo5:∀ (a b:List Nd),z09 (a++b)=(z09 a||z09 b)
 | [],b=>by simp [z09]
 | x::r,b=>by simp only [B8,z09,zo5 r b,Bool.or_assoc]
theorem z8w:∀ (l:List Nd) (vs:List Int),z09 (z0r vs l).1=false/\z09 (z0r vs l).2=z09 l
 | [],_=>by simp [z0r,z09]
 | x::r,vs=>by
  unfold z0r
  split
  ·rename_i hm
   obtain ⟨_,_,_,h4⟩:=z9x hm
   split
   ·obtain ⟨h1,h2⟩:=z8w r (vs++[x.outs.headD 0])
    exact ⟨h1,by simp only [z09,h2]⟩
   ·obtain ⟨h1,h2⟩:=z8w r vs
    exact ⟨by simp only [z09,h1,h4,Dt],by simp only [z09,h2,h4,C7]⟩
  ·simp [z09]
mutual
theorem y9g:∀ x:Nd,z09 (z4m x)=z2r x
 | .mk kind op n name args outs params ks=>by
  have hk:=y02 ks
  unfold z4m hOut
  split
  ·rename_i h11
   have e11:kind=11:=by simpa using h11
   subst e11
   cases hq:z3z ks with
   | nil=>simp [z09,z2r]
   | cons b r=>simp only [zo5,(z8w b params).1];simp [z09,z2r]
  ·simp only [z09,z2r,hk,Dt]
theorem zg1:∀ l:List Nd,z09 (z0w l)=z09 l
 | []=>by simp [z0w]
 | x::r=>by simp only [z0w,zo5,y9g x,zg1 r,z09]
theorem y02:∀ ks:List (List Nd),z2y (z3z ks)=z2y ks
 | []=>by simp [z3z]
 | l::r=>by simp only [z3z,z2y,zg1 l,y02 r]
end
theorem y2r (x:Nd):∃ A y,z4m x=A++[y]/\y.kind=x.kind:=by
 cases x with
 | mk kind op n name args outs params ks =>
  unfold z4m hOut
  split
  ·cases z3z ks with
   | nil=>exact ⟨[],_,rfl,rfl⟩
   | cons b r=>exact ⟨_,_,rfl,rfl⟩
  ·exact ⟨[],_,rfl,rfl⟩
theorem y4a {l:List Nd} (h:l≠[]):z0w l≠[]:=by
 cases l with
 | nil=>exact absurd rfl h
 | cons x r =>
  obtain ⟨A,y,e,_⟩:=y2r x
  simp [z0w,e]
theorem yz1:∀ l:List Nd,z2i (z0w l)=z2i l
 | []=>by simp [z0w]
 | x::r=>by
  obtain ⟨A,y,e,hk⟩:=y2r x
  cases r with
  | nil=>simp [z0w,e,z2i,hk]
  | cons z r' =>
   have ih:=yz1 (z::r')
   have hne:z0w (z::r')≠[]:=y4a sI0
   have h1:(z0w (x::z::r')).getLast? = (z0w (z::r')).getLast?:=by
    rw [show z0w (x::z::r')=z4m x++z0w (z::r') from rfl,List.getLast?_append]
    cases hl:(z0w (z::r')).getLast? with
    | none=>exact absurd (List.getLast?_eq_none_iff.1 hl) hne
    | some q=>rfl
   unfold z2i at ih ⊢
   rw [h1,ih]
   simp [Ek]
def Oks (B:Int) (s:Rs):Prop:=0<=s.fuel/\0<=s.cost/\s.cost+s.fuel<=B
def Live (s:Rs):Prop:=s.spent=false/\s.st=0
def dec (s:Rs):Rs:={ s with fuel:=s.fuel - 1 }
def gone (s:Rs):Rs:={ s with spent:=true }
def bmp (s:Rs):Rs:={ s with cost:=s.cost+1 }
theorem j3j {n:Int} (h:0<=n) (h2:n<=4611686018427387904):w64 n=n:=Cv n oM0
theorem z7u {s:Rs}:z13 s=false↔Live s:=by
 unfold z13 Live
 simp
theorem z0s {s:Rs} (h:Live s):z13 s=false:=z7u.2 h
theorem zr9 {s:Rs} {B:Int} (hB:B<=4611686018427387903) (ho:Oks B s):z68 s=bmp s:=by
 obtain ⟨h1,h2,h3⟩:=ho
 unfold z68 bmp
 rw [j3j oM0 oM0]
theorem y3v {s:Rs} {B:Int} (hB:B<=4611686018427387903) (ho:Oks B s) (hl:Live s):(s.fuel<1/\z9o s=(false,gone s))∨(1<=s.fuel/\z9o s=(true,dec s)):=by
 obtain ⟨h1,h2,h3⟩:=ho
 unfold z9o
 rw [z0s hl]
 simp only [Ak,Bv]
 by_cases h:s.fuel<1
 ·rw [if_pos h];exact .inl ⟨h,rfl⟩
 ·rw [if_neg h,j3j oM0 oM0];exact .inr ⟨by omega,rfl⟩
theorem yg3 {u:Un} {d:Nat} {x:Nd} {l:List Nd} {a:List Int} {s:Rs} {r:Rres} {B:Int} (hB:B<=4611686018427387903) (h:z25 u d (x::l) a s=some r) (ho:Oks B s) (hl:Live s) :
 ∃ d1,d=d1+1/\((s.fuel<1/\r=((0,[]),a,gone s))∨(1<=s.fuel/\∃ p r1,mOf a x.args=some p/\z5g (z25 u d1) (z3r u d1) (mSum u d1) x p a (dec s)=some r1/\(if z13 r1.2.2||r1.1.1 != 0 then some r1 else z25 u d1 l r1.2.1 r1.2.2)=some r)):=by
 obtain ⟨d1,rfl,h2⟩:=z8d rfl h
 refine ⟨d1,rfl,?_⟩
 rcases y3v hB ho hl with ⟨h3,h4⟩ | ⟨h3,h4⟩
 ·rw [h4] at h2
  rcases h2 with ⟨_,h2⟩ | ⟨h2,_⟩
  ·exact .inl ⟨h3,h2⟩
  ·cases h2
 ·rw [h4] at h2
  rcases h2 with ⟨h2,_⟩ | ⟨_,h2⟩
  ·cases h2
  ·exact .inr ⟨h3,h2⟩
def hc (x:Nd):Nat:=if x.kind=3∨x.kind=4 then 1 else 0
def y97 (x:Nd) (p:List Int):Option Int :=
 if x.kind=1∨x.kind=2 then some x.n
 else if x.kind=3 then (p[0]?).map λa=>mOne x.op a
 else (p[0]?).bind λa=>(p[1]?).map λb=>(mTwo x.op a b).1
def HL (x:Nd):Prop:=z1u x=true/\(x.kind=4->z3s x.op=true)/\x.outs≠[]
def hRun (x:Nd) (a a2:List Int):Prop:=∃ p y o,mOf a x.args=some p/\y97 x p=some y/\x.outs[0]? = some o/\setV a o y=some a2
theorem two_ok {op a b:Int} (h:z3s op=true) (h4:op≠4) (h5:op≠5):(mTwo op a b).2=true:=by
 simp only [z3s,A0,Be] at h
 have:op=1∨op=2∨op=3∨op=6∨op=7∨op=8∨op=9∨op=10∨op=11∨op=12∨op=13∨op=14∨op=15∨op=16∨op=17:=by omega
 rcases this with rfl | rfl | rfl | rfl | rfl | rfl | rfl | rfl | rfl | rfl | rfl | rfl | rfl | rfl | rfl<;>rfl
def hSt (x:Nd) (s:Rs):Rs:={ s with cost:=s.cost+hc x }
theorem hc_01 (x:Nd):hc x=0∨hc x=1:=by unfold hc;split<;>simp
theorem hSt0 {x:Nd} {s:Rs} (h:hc x=0):hSt x s=s:=by unfold hSt;rw [h];simp
theorem yn8 {u:Un} {d:Nat} {x:Nd} {p a:List Int} {s:Rs} {r:Rres} {B:Int} (hB:B<=4611686018427387903) (ho:Oks B s) (hl:Live s) (hx:HL x) (h:z5g (z25 u d) (z3r u d) (mSum u d) x p a s=some r) :
 ∃ y o a2,y97 x p=some y/\x.outs[0]? = some o/\setV a o y=some a2/\r=((0,[]),a2,hSt x s):=by
 obtain ⟨h1,h2,h3⟩:=hx
 obtain ⟨n10,n11,_,_⟩:=z9x h1
 have hk:=z5t h1
 rcases hk with hk | hk | hk | hk
 ·obtain ⟨o,v2,g1,g2,rfl⟩:=z8e h (by rw [hk];rfl)
  exact ⟨x.n,o,v2,by simp [y97,hk],g1,g2,by rw [hSt0];simp [hc,hk]⟩
 ·obtain ⟨o,v2,g1,g2,rfl⟩:=z8e h (by rw [hk];rfl)
  exact ⟨x.n,o,v2,by simp [y97,hk],g1,g2,by rw [hSt0];simp [hc,hk]⟩
 ·obtain ⟨r1,g1,g2⟩:=z8f h (by rw [hk];rfl) (by rw [hk];rfl) n10 n11
  obtain ⟨d',rfl⟩:=z7t g1
  obtain ⟨a0,g3,rfl⟩:=zc6 g1 (by rw [hk];rfl)
  rw [zr9 hB ho] at g2
  have hov:z13 (bmp s)=false:=z0s hl
  rw [hov] at g2
  have hlen:0<x.outs.length:=D0.2 h3
  simp only [Du,B3,C4 hlen,C3,Aj,A3] at g2
  obtain ⟨o,g4,v2,g5,rfl⟩:=g2
  exact ⟨_,o,v2,by simp [y97,hk,g3],g4,g5,by simp [hSt,hc,hk,bmp]⟩
 ·have h4:=h2 hk
  have hop:x.op≠4/\x.op≠5:=by
   simp only [z1u,hk] at h1
   simpa using h1
  obtain ⟨r1,g1,g2⟩:=z8f h (by rw [hk];rfl) (by rw [hk];rfl) n10 n11
  obtain ⟨d',rfl⟩:=z7t g1
  obtain ⟨a0,a1,g3,g3',rfl⟩:=zc7 g1 (by rw [hk];rfl)
  rw [two_ok h4 hop.1 hop.2,if_pos rfl,zr9 hB ho] at g2
  have hov:z13 (bmp s)=false:=z0s hl
  rw [hov] at g2
  have hlen:0<x.outs.length:=D0.2 h3
  simp only [Du,B3,C4 hlen,C3,Aj,A3] at g2
  obtain ⟨o,g4,v2,g5,rfl⟩:=g2
  exact ⟨_,o,v2,by simp [y97,hk,g3,g3'],g4,g5,by simp [hSt,hc,hk,bmp]⟩
structure Ext (B:Int) (s t:Rs):Prop where
 ok:Oks B t
 out:s.out <+: t.out
 ar:t.ar.length=s.ar.length
 fuel:t.fuel<=s.fuel
theorem Ext.rfl {B:Int} {s:Rs} (h:Oks B s):Ext B s s:=⟨h,Cd _,Eq.refl _,D3 _⟩
theorem Ext.trans {B:Int} {s t w:Rs} (h:Ext B s t) (h2:Ext B t w):Ext B s w:=⟨h2.ok,h.out.trans h2.out,h2.ar.trans h.ar,Int.le_trans h2.fuel h.fuel⟩
theorem y04 {s:Rs} {k n:Int} {q:Bool × Rs} (h:za1 s k n=some q):(q=(false,{ s with st:=3 }))∨q=(true,s):=by
 unfold za1 at h
 split at h
 ·cases h;exact .inl (Eq.refl _)
 ·split at h
  ·obtain ⟨row,h1,h2⟩:=Aj.1 h
   split at h2
   ·cases h2;exact .inl (Eq.refl _)
   ·cases h2;exact .inr (Eq.refl _)
  ·cases h
theorem sum_ext {u:Un} {d:Nat} {x:Nd} {p:List Int} {s:Rs} {r:Int × Rs} {B:Int} (hB:B<=4611686018427387903) (ho:Oks B s) (ho1:s.cost+s.fuel+1<=B)
 (hC:∀ d' k a r,d=d'+1->z4c u d' k a (bmp s)=some r->Ext B (bmp s) r.2) (h:mSum u d x p s=some r):Ext B s r.2:=by
 obtain ⟨d',rfl⟩:=z7t h
 have hb:Oks B (bmp s):=⟨ho.1,by have:=ho.2.1;show 0<=s.cost+1;omega,by show s.cost+1+s.fuel<=B;omega⟩
 have e:=zr9 hB ho
 have E0:Ext B s (bmp s):=⟨hb,Cd _,Eq.refl _,D3 _⟩
 have ne:∀ {i:Int},x.kind≠i->(x.kind==i)=false:=λh=>Aa.2 h
 by_cases k3:x.kind=3
 ·obtain ⟨a0,_,rfl⟩:=zc6 h (As.2 k3);rw [e];exact E0
 by_cases k4:x.kind=4
 ·obtain ⟨a0,a1,_,_,rfl⟩:=zc7 h (As.2 k4)
  rw [e]
  split
  ·exact E0
  ·exact ⟨hb,Cd _,Eq.refl _,D3 _⟩
 by_cases k5:x.kind=5
 ·obtain ⟨a0,b,s',_,h2,h3⟩:=z8g h k5
  rw [e] at h2 h3
  rcases h3 with ⟨rfl,rfl⟩ | ⟨rfl,row,y,_,_,rfl⟩
  ·rcases y04 h2 with h4 | h4
   ·obtain ⟨_,rfl⟩:=G7 h4
    exact ⟨hb,Cd _,Eq.refl _,D3 _⟩
   ·cases (G7 h4).1
  ·exact E0
 by_cases k6:x.kind=6
 ·obtain ⟨a0,b,s',_,h2,h3⟩:=z76 h k6
  rw [e] at h2 h3
  rcases h3 with ⟨rfl,rfl⟩ | ⟨rfl,row,y,_,_,rfl⟩
  ·rcases y04 h2 with h4 | h4
   ·obtain ⟨_,rfl⟩:=G7 h4
    exact ⟨hb,Cd _,Eq.refl _,D3 _⟩
   ·cases (G7 h4).1
  ·exact ⟨hb,Cd _,by simp [bmp],D3 _⟩
 by_cases k7:x.kind=7
 ·have h2:=za3 h (As.2 k7)
  rw [e] at h2
  exact E0.trans (hC _ _ _ _ (Eq.refl _) h2)
 by_cases k9:x.kind=9
 ·obtain ⟨a0,_,_,rfl⟩:=z8h h (As.2 k9)
  rw [e]
  exact ⟨hb,List.prefix_append _ _,Eq.refl _,D3 _⟩
 by_cases k8:x.kind=8
 ·rcases za5 h (As.2 k8) with ⟨_,rfl⟩ | ⟨y,q,_,rfl⟩<;>rw [e]<;>exact ⟨hb,Cd _,Eq.refl _,D3 _⟩
 ·obtain rfl:=za4 h (ne k3) (ne k4) (ne k5) (ne k6) (ne k7) (ne k9) (ne k8)
  rw [e];exact E0
theorem z4l {s:Rs} {B:Int} (ho:Oks B s) (h:1<=s.fuel):Oks B (dec s)/\(dec s).cost+(dec s).fuel+1<=B:=by
 obtain ⟨h1,h2,h3⟩:=ho
 refine ⟨⟨?_,h2,?_⟩,?_⟩
 ·show 0<=s.fuel - 1;omega
 ·show s.cost+(s.fuel - 1)<=B;omega
 ·show s.cost+(s.fuel - 1)+1<=B;omega
theorem j0a {u:Un} {d:Nat} {l:List Nd} {a:List Int} {s:Rs} {r:Rres} (h:z25 u d l a s=some r) (ho:z13 s=true):r=((0,[]),a,s):=by
 cases l with
 | nil=>exact y6u h
 | cons x l =>
  obtain ⟨d1,rfl,h2⟩:=z8d rfl h
  have:z9o s=(false,s):=by unfold z9o;rw [ho];rfl
  rw [this] at h2
  rcases h2 with ⟨_,h2⟩ | ⟨h2,_⟩
  ·exact h2
  ·cases h2
theorem y47 (u:Un) {B:Int} (hB:B<=4611686018427387903):∀ d,
 (∀ l a s r,z25 u d l a s=some r->Oks B s->Ext B s r.2.2)/\(∀ x p a s r,z3r u d x p a s=some r->Oks B s->Ext B s r.2.2) /\
 (∀ k p s r,z4c u d k p s=some r->Oks B s->Ext B s r.2)/\∀ x p s r,mSum u d x p s=some r->Oks B s->s.cost+s.fuel+1<=B->Ext B s r.2
 | 0=>⟨λ_ _ _ _ h=>by simp [z25] at h,λ_ _ _ _ _ h=>by simp [z3r] at h,λ_ _ _ _ h=>by simp [z4c] at h,λ_ _ _ _ h=>by simp [mSum] at h⟩
 | d+1=>by
  obtain ⟨i1,i2,i3,i4⟩:=y47 u hB d
  refine ⟨λl a s r h ho=>?_,λx p a s r h ho=>?_,λk p s r h ho=>?_,λx p s r h ho ho1=>?_⟩
  ·cases l with
   | nil=>rw [y6u h];exact Ext.rfl ho
   | cons x l =>
    cases hov:z13 s with
    | true=>rw [j0a h hov];exact Ext.rfl ho
    | false =>
     obtain ⟨d1,e,h2⟩:=yg3 hB h ho (z7u.1 hov)
     obtain rfl:d1=d:=by omega
     rcases h2 with ⟨_,rfl⟩ | ⟨hf,p,r1,_,h3,h4⟩
     ·exact ⟨ho,Cd _,rfl,D3 _⟩
     ·obtain ⟨o1,o2⟩:=z4l ho hf
      have E0:Ext B s (dec s):=⟨o1,Cd _,rfl,by show s.fuel - 1<=s.fuel;omega⟩
      have E1:Ext B (dec s) r1.2.2:=by
       unfold z5g at h3
       split at h3
       ·simp only [Aj,A3] at h3
        obtain ⟨o,_,v',_,rfl⟩:=h3
        exact Ext.rfl o1
       split at h3
       ·cases h3;exact Ext.rfl o1
       split at h3
       ·simp only [Aj] at h3
        obtain ⟨a0,_,q,_,r2,h5,h6⟩:=h3
        have h7:=i1 _ _ _ _ h5 o1
        split at h6
        ·simp only [A3] at h6
         obtain ⟨v',_,rfl⟩:=h6
         exact h7
        ·cases h6;exact h7
       split at h3
       ·exact i2 _ _ _ _ _ h3 o1
       ·simp only [Aj] at h3
        obtain ⟨r2,h5,h6⟩:=h3
        have h7:=i4 _ _ _ _ h5 o1 o2
        split at h6
        ·simp only [Aj,A3] at h6
         obtain ⟨o,_,v',_,rfl⟩:=h6
         exact h7
        ·cases h6;exact h7
      split at h4
      ·cases h4;exact E0.trans E1
      ·exact (E0.trans E1).trans (i1 _ _ _ _ h4 E1.ok)
  ·obtain ⟨d1,v2,q,r1,e,_,_,h3,h4⟩:=z52 h
   obtain rfl:d1=d:=by omega
   have E1:=i1 _ _ _ _ h3 ho
   split at h4
   ·cases h4;exact E1
   split at h4
   ·simp only [A3] at h4
    obtain ⟨v',_,rfl⟩:=h4
    exact E1
   ·exact E1.trans (i2 _ _ _ _ _ h4 E1.ok)
  ·obtain ⟨d1,f,r1,e,_,_,_,_,h3,rfl⟩:=z6y h
   obtain rfl:d1=d:=by omega
   exact i1 _ _ _ _ h3 ho
  ·refine sum_ext hB ho ho1 (λd' k a r e h2=>?_) h
   obtain rfl:d'=d:=by omega
   have hb:Oks B (bmp s):=⟨ho.1,by have:=ho.2.1;show 0<=s.cost+1;omega,by show s.cost+1+s.fuel<=B;omega⟩
   exact i3 _ _ _ _ h2 hb
theorem z7p {u:Un} {d:Nat} {l:List Nd} {a:List Int} {s:Rs} {r:Rres} {B:Int} (hB:B<=4611686018427387903) (h:z25 u d l a s=some r) (ho:Oks B s):Ext B s r.2.2:=(y47 u hB d).1 _ _ _ _ h ho
theorem zi5 {u:Un} {d:Nat} {x:Nd} {p a:List Int} {s:Rs} {r:Rres} {B:Int} (hB:B<=4611686018427387903) (h:z3r u d x p a s=some r) (ho:Oks B s):Ext B s r.2.2:=(y47 u hB d).2.1 _ _ _ _ _ h ho
theorem y90 {u:Un} {d:Nat} {x:Nd} {p:List Int} {s:Rs} {r:Int × Rs} {B:Int} (hB:B<=4611686018427387903) (h:mSum u d x p s=some r) (ho:Oks B s) (ho1:s.cost+s.fuel+1<=B):Ext B s r.2:=(y47 u hB d).2.2.2 _ _ _ _ h ho ho1
section
structure KF where
 k:Int
 outs:List Int
 rest:List Nd
mutual
def nsz:Nd->Nat
 | .mk _ _ _ _ _ _ _ ks=>1+kdz ks
def lsz:List Nd->Nat
 | []=>0
 | x::r=>nsz x+lsz r
def kdz:List (List Nd)->Nat
 | []=>0
 | l::r=>lsz l+kdz r
end
theorem y30 (x:Nd):nsz x=1+kdz x.kids:=by cases x;simp [nsz,Nd.kids]
def ksz:List KF->Nat
 | []=>0
 | f::K=>lsz f.rest+ksz K
abbrev VR:=List Int->List Int->Prop
abbrev ER:=Int->List Int->List Int->List Int->List Int->Prop
def setO (outs a:List Int) (y:Int) (a2:List Int):Prop:=match outs with
 | []=>a2=a
 | o::_=>setV a o y=some a2
inductive LRel:Nat->Nat->VR->List Nd->List KF->List Nd->ER->Prop
 | dead {I l K l' E}:(∀ a b,¬ I a b)->LRel 0 0 I l K l' E
 | weak {k c I I' l K l' E}:(∀ a b,I a b->I' a b)->LRel k c I' l K l' E->LRel k c I l K l' E
 | both {k c I J x x' l K l' E}:HL x->HL x'->hc x'<=hc x->(∀ a b a2 b2,I a b->hRun x a a2->hRun x' b b2->J a2 b2)->LRel k c J l K l' E->LRel k c I (x::l) K (x'::l') E
 | skip {k c I J x l K l' E}:HL x->(∀ a b a2,I a b->hRun x a a2->J a2 b)->LRel k c J l K l' E->LRel k c I (x::l) K l' E
 | paid {k c I J x l K l' E}:HL x->(∀ a b a2,I a b->hRun x a a2->J a2 b)->l≠[]->LRel k c J l K l' E->LRel (k+1) (c+hc x) I (x::l) K l' E
 | add {k c I J x' l K l' E}:HL x'->l≠[]->(∀ a b b2,I a b->hRun x' b b2->J a b2)->LRel (k+1) (c+hc x') J l K l' E->LRel k c I l K (x'::l') E
 | eff {I J x x' l K l' E}:(x.kind≠1/\x.kind≠2/\x.kind≠10/\x.kind≠11/\x.kind≠12/\x.kind≠13/\x.kind≠14/\x.kind≠15)->x'.kind=x.kind->x'.op=x.op->x'.name=x.name->x'.outs.length=x.outs.length ->
  (∀ a b p p',I a b->mOf a x.args=some p->mOf b x'.args=some p'->p'=p)->(∀ a b a2 b2 y,I a b->setO x.outs a y a2->setO x'.outs b y b2->J a2 b2)->LRel 0 0 J l K l' E->LRel 0 0 I (x::l) K (x'::l') E
 | ite {I J E2 x x' q0 q1 q0' q1' l K l' E}:x.kind=10->x'.kind=10->x.kids=[q0,q1]->x'.kids=[q0',q1']->(∀ a b p p',I a b->mOf a x.args=some p->mOf b x'.args=some p'->p'[0]? = p[0]?) ->
  LRel 0 0 I q0 [] q0' E2->LRel 0 0 I q1 [] q1' E2 ->
  (∀ n p p' a b,E2 n p p' a b->(n=12/\∀ a2 b2,mSet a x.outs p=some a2->mSet b x'.outs p'=some b2->J a2 b2)∨(n≠12/\n≠0/\(K=[]∨n=15)/\E n p p' a b)) ->
  LRel 0 0 J l K l' E->LRel 0 0 I (x::l) K (x'::l') E
 | loop {k c I I2 J E2 x x' q q' l K l' E}:x.kind=11->x'.kind=11->x.kids=[q]->x'.kids=[q'] ->
  (∀ a b p p' a2 b2,I a b->mOf a x.args=some p->mOf b x'.args=some p'->mSet a x.params p=some a2->mSet b x'.params p'=some b2->I2 a2 b2) ->
  LRel k c I2 q [] q' E2 ->
  (∀ n p p' a b,E2 n p p' a b->(n=15/\E 15 p p' a b)∨(n=14/\∀ a2 b2,mSet a x.outs p=some a2->mSet b x'.outs p'=some b2->J a2 b2)∨(n=13/\∀ a2 b2,mSet a x.params p=some a2->mSet b x'.params p'=some b2->I2 a2 b2)) ->
  LRel 0 0 J l K l' E->LRel k c I (x::l) K (x'::l') E
 | ender {I x x' l K l' E}:12<=x.kind->x.kind<=15->x'.kind=x.kind->(K=[]∨x.kind=15)->(∀ a b p p',I a b->mOf a x.args=some p->mOf b x'.args=some p'->E x.kind p p' a b)->LRel 0 0 I (x::l) K (x'::l') E
 | once {k c I J x q l K l' E}:x.kind=11->x.kids=[q]->(∀ a b p a2,I a b->mOf a x.args=some p->mSet a x.params p=some a2->J a2 b)->LRel k c J q (⟨14,x.outs,l⟩::K) l' E->LRel k c I (x::l) K l' E
 | leave {k c I J y l f K l' E}:y.kind=f.k->f.k=12∨f.k=14->(∀ a b p a2,I a b->mOf a y.args=some p->mSet a f.outs p=some a2->J a2 b)->LRel k c J f.rest K l' E->LRel k c I (y::l) (f::K) l' E
 | fork {k c I x q0 q1 l K l' E}:x.kind=10->x.kids=[q0,q1]->LRel k c I q0 (⟨12,x.outs,l⟩::K) l' E->LRel k c I q1 (⟨12,x.outs,l⟩::K) l' E->LRel k c I (x::l) K l' E
theorem LRel.nil {k c:Nat} {I:VR} {l:List Nd} {K:List KF} {l':List Nd} {E:ER} (h:LRel k c I l K l' E):l=[]->k=0:=by
 induction h with
 | dead _=>exact λ_=>rfl
 | weak _ _ ih=>exact ih
 | add _ h1 _ _ _=>exact λe=>absurd e h1
 | _=>intro e;cases e
def KFin (u:Un) (D:Nat):List KF->Rres->Rres->Prop
 | [],r1,r=>r=r1
 | f::K,r1,r=>if r1.1.1=15 then r=r1 else if r1.1.1=f.k then ∃ a2 d r2,d<=D/\mSet r1.2.1 f.outs r1.1.2=some a2/\z25 u d f.rest a2 r1.2.2=some r2/\(if z13 r2.2.2=true then r=r2 else KFin u D K r2 r) else r1.2.2.out <+: r.2.2.out
def KRun (u:Un) (D:Nat) (l:List Nd) (K:List KF) (a:List Int) (s:Rs) (r:Rres):Prop:=∃ d r1,d<=D/\z25 u d l a s=some r1/\(if z13 r1.2.2=true then r=r1 else KFin u D K r1 r)
def KNext (u:Un) (D:Nat) (l:List Nd) (K:List KF) (r1 r:Rres):Prop:=(z13 r1.2.2=true/\r=r1)∨(Live r1.2.2/\r1.1.1≠0/\KFin u D K r1 r)∨(Live r1.2.2/\r1.1.1=0/\KRun u D l K r1.2.1 r1.2.2 r)
section
variable {u:Un} {D:Nat} {l:List Nd} {K:List KF} {a:List Int} {s:Rs} {r:Rres} {B:Int}
theorem KFin.out (hB:B<=4611686018427387903):∀ {K:List KF} {r1 r:Rres},KFin u D K r1 r->Oks B r1.2.2->r1.2.2.out <+: r.2.2.out
 | [],r1,r,h,ho=>by obtain rfl:r=r1:=h;exact Cd _
 | f::K,r1,r,h,ho=>by
  unfold KFin at h
  split at h
  ·subst h;exact Cd _
  split at h
  ·obtain ⟨a2,d,r2,_,_,h2,h3⟩:=h
   have e:=z7p hB h2 ho
   split at h3
   ·subst h3;exact e.out
   ·exact e.out.trans (KFin.out hB h3 e.ok)
  ·exact h
theorem KRun.out (hB:B<=4611686018427387903) (h:KRun u D l K a s r) (ho:Oks B s):s.out <+: r.2.2.out:=by
 obtain ⟨d,r1,_,h1,h2⟩:=h
 have e:=z7p hB h1 ho
 split at h2
 ·subst h2;exact e.out
 ·exact e.out.trans (KFin.out hB h2 e.ok)
theorem KNext.out {r1:Rres} (hB:B<=4611686018427387903) (h:KNext u D l K r1 r) (ho:Oks B r1.2.2):r1.2.2.out <+: r.2.2.out:=by
 rcases h with ⟨_,rfl⟩ | ⟨_,_,h⟩ | ⟨_,_,h⟩
 ·exact Cd _
 ·exact KFin.out hB h ho
 ·exact h.out hB ho
theorem zu8 {x:Nd} (hB:B<=4611686018427387903) (h:KRun u D (x::l) K a s r) (ho:Oks B s) (hl:Live s) :
 (s.fuel<1/\r=((0,[]),a,gone s))∨(1<=s.fuel/\∃ d1 p r1,d1<D/\mOf a x.args=some p/\z5g (z25 u d1) (z3r u d1) (mSum u d1) x p a (dec s)=some r1/\KNext u D l K r1 r):=by
 obtain ⟨d,r0,hd,h1,h2⟩:=h
 obtain ⟨d1,rfl,h3⟩:=yg3 hB h1 ho hl
 rcases h3 with ⟨h3,rfl⟩ | ⟨h3,p,r1,h4,h5,h6⟩
 ·rw [if_pos (by simp [z13,gone])] at h2
  exact .inl ⟨h3,h2⟩
 ·refine .inr ⟨h3,d1,p,r1,hd,h4,h5,?_⟩
  cases hov:z13 r1.2.2 with
  | true =>
   rw [hov] at h6
   cases h6
   rw [if_pos hov] at h2
   exact .inl ⟨hov,h2⟩
  | false =>
   rw [hov] at h6
   by_cases hk:r1.1.1=0
   ·rw [hk] at h6
    exact .inr (.inr ⟨z7u.1 hov,hk,d1,r0,by omega,h6,h2⟩)
   ·have:(false||r1.1.1 != 0)=true:=by simpa using hk
    rw [if_pos this] at h6
    cases h6
    rw [if_neg (by rw [hov];decide)] at h2
    exact .inr (.inl ⟨z7u.1 hov,hk,h2⟩)
theorem z6s (hl:Live s):Live (dec s):=hl
theorem y4i {x:Nd} (hl:Live s):Live (hSt x s):=hl
theorem zs7 {x:Nd} (ho:Oks B s) (h:1<=s.fuel):Oks B (hSt x (dec s)):=by
 obtain ⟨h1,h2,h3⟩:=ho
 have:=hc_01 x
 refine ⟨?_,?_,?_⟩
 ·show 0<=s.fuel - 1;omega
 ·show 0<=s.cost+(hc x:Int);omega
 ·show s.cost+(hc x:Int)+(s.fuel - 1)<=B;omega
theorem y6l {x:Nd} (hB:B<=4611686018427387903) (hx:HL x) (h:KRun u D (x::l) K a s r) (ho:Oks B s) (hl:Live s) :
 (s.fuel<1/\r=((0,[]),a,gone s))∨(1<=s.fuel/\∃ a2,hRun x a a2/\KRun u D l K a2 (hSt x (dec s)) r):=by
 rcases zu8 hB h ho hl with h1 | ⟨h1,d1,p,r1,_,h2,h3,h4⟩
 ·exact .inl h1
 ·obtain ⟨y,o,a2,g1,g2,g3,rfl⟩:=yn8 hB (z4l ho h1).1 (z6s hl) hx h3
  refine .inr ⟨h1,a2,⟨p,y,o,h2,g1,g2,g3⟩,?_⟩
  rcases h4 with ⟨h5,_⟩ | ⟨_,h5,_⟩ | ⟨_,_,h5⟩
  ·have:z13 (hSt x (dec s))=false:=z0s hl
   rw [show (((0,[]),a2,hSt x (dec s)):Rres).2.2=hSt x (dec s) from rfl,this] at h5
   cases h5
  ·exact absurd rfl h5
  ·exact h5
theorem y79 {x:Nd} {q:List Nd} (hB:B<=4611686018427387903) (hx:x.kind=11) (hq:x.kids=[q]) (h:KRun u D (x::l) K a s r) (ho:Oks B s) (hl:Live s) :
 (s.fuel<1/\r=((0,[]),a,gone s))∨(1<=s.fuel/\∃ p a2,mOf a x.args=some p/\mSet a x.params p=some a2/\KRun u D q (⟨14,x.outs,l⟩::K) a2 (dec s) r):=by
 rcases zu8 hB h ho hl with h1 | ⟨h1,d1,p,r1,hd,h2,h3,h4⟩
 ·exact .inl h1
 ·have h5:=z6z h3 (by rw [hx];rfl)
  have ho1:=(z4l ho h1).1
  obtain ⟨d2,v2,q2,r2,rfl,g1,g2,g3,g4⟩:=z52 h5
  rw [hq] at g2
  obtain rfl:q=q2:=by simpa using g2
  refine .inr ⟨h1,p,v2,h2,g1,d2,r2,by omega,g3,?_⟩
  have e:=z7p hB g3 ho1
  cases hov:z13 r2.2.2 with
  | true =>
   rw [hov] at g4
   cases g4
   rw [if_pos rfl]
   rcases h4 with ⟨_,h4⟩ | ⟨h4,_⟩ | ⟨h4,_⟩
   ·exact h4
   ·rw [z0s h4] at hov;cases hov
   ·rw [z0s h4] at hov;cases hov
  | false =>
   rw [hov] at g4
   rw [if_neg dC0]
   unfold KFin
   by_cases k15:r2.1.1=15
   ·rw [k15] at g4
    cases g4
    rw [if_pos k15]
    rcases h4 with ⟨h4,_⟩ | ⟨_,_,h4⟩ | ⟨_,h4,_⟩
    ·rw [hov] at h4;cases h4
    ·cases K with
     | nil=>exact h4
     | cons f K=>unfold KFin at h4;rw [if_pos k15] at h4;exact h4
    ·rw [k15] at h4;exact absurd h4 dC0
   ·rw [if_neg k15]
    have n15:(false||r2.1.1==15)=false:=by simpa using k15
    rw [n15,if_neg dC0] at g4
    by_cases k14:r2.1.1=14
    ·rw [if_pos k14]
     rw [if_pos (by rw [k14];rfl)] at g4
     obtain ⟨v3,g5,rfl⟩:=A3.1 g4
     rcases h4 with ⟨h4,_⟩ | ⟨_,h4,_⟩ | ⟨_,_,d3,r3,h6,h7,h8⟩
     ·rw [show (((0,[]),v3,r2.2.2):Rres).2.2=r2.2.2 from rfl,hov] at h4;cases h4
     ·exact absurd rfl h4
     ·exact ⟨v3,d3,r3,h6,g5,h7,h8⟩
    ·rw [if_neg k14]
     rw [if_neg (by simpa using k14)] at g4
     have e2:=zi5 hB g4 e.ok
     exact e2.out.trans (h4.out hB e2.ok)
theorem yn1 {x:Nd} {d:Nat} {p:List Int} {r1:Rres} (h1:12<=x.kind) (h2:x.kind<=15) (h:z5g (z25 u d) (z3r u d) (mSum u d) x p a s=some r1):r1=((x.kind,p),a,s) :=
 z5h h (by rcases (show x.kind=12∨x.kind=13∨x.kind=14∨x.kind=15 by omega) with e | e | e | e<;>rw [e]<;>rfl)
theorem zn6 {x:Nd} (hB:B<=4611686018427387903) (h1:12<=x.kind) (h2:x.kind<=15) (h:KRun u D (x::l) K a s r) (ho:Oks B s) (hl:Live s) :
 (s.fuel<1/\r=((0,[]),a,gone s))∨(1<=s.fuel/\∃ p,mOf a x.args=some p/\KFin u D K ((x.kind,p),a,dec s) r):=by
 rcases zu8 hB h ho hl with h3 | ⟨h3,d1,p,r1,hd,h4,h5,h6⟩
 ·exact .inl h3
 ·obtain rfl:=yn1 h1 h2 h5
  refine .inr ⟨h3,p,h4,?_⟩
  rcases h6 with ⟨h6,_⟩ | ⟨_,_,h6⟩ | ⟨_,h6,_⟩
  ·have:z13 (dec s)=false:=z0s hl
   rw [show ((x.kind,p),a,dec s).2.2=dec s from rfl,this] at h6
   cases h6
  ·exact h6
  ·exact absurd h6 (by show x.kind≠0;omega)
theorem y2u {y:Nd} {f:KF} (hB:B<=4611686018427387903) (hy:y.kind=f.k) (hf:f.k=12∨f.k=14) (h:KRun u D (y::l) (f::K) a s r) (ho:Oks B s) (hl:Live s) :
 (s.fuel<1/\r=((0,[]),a,gone s))∨(1<=s.fuel/\∃ p a2,mOf a y.args=some p/\mSet a f.outs p=some a2/\KRun u D f.rest K a2 (dec s) r):=by
 rcases zn6 hB oM0 oM0 h ho hl with h3 | ⟨h3,p,h4,h5⟩
 ·exact .inl h3
 ·unfold KFin at h5
  rw [show (((y.kind,p),a,dec s):Rres).1.1=f.k from hy,if_neg oM0,if_pos rfl] at h5
  obtain ⟨a2,d,r2,g1,g2,g3,g4⟩:=h5
  exact .inr ⟨h3,p,a2,h4,g2,d,r2,g1,g3,g4⟩
theorem y6f {x:Nd} {q0 q1:List Nd} (hB:B<=4611686018427387903) (hx:x.kind=10) (hq:x.kids=[q0,q1]) (h:KRun u D (x::l) K a s r) (ho:Oks B s) (hl:Live s) :
 (s.fuel<1/\r=((0,[]),a,gone s))∨(1<=s.fuel/\∃ q,(q=q0∨q=q1)/\KRun u D q (⟨12,x.outs,l⟩::K) a (dec s) r):=by
 rcases zu8 hB h ho hl with h1 | ⟨h1,d1,p,r1,hd,h2,h3,h4⟩
 ·exact .inl h1
 ·have ho1:=(z4l ho h1).1
  obtain ⟨a0,q,r2,_,g2,g3,g4⟩:=zj8 h3 (by rw [hx];rfl)
  refine .inr ⟨h1,q,?_,d1,r2,by omega,g3,?_⟩
  ·rw [hq] at g2
   by_cases e:(a0 != 0)=true
   ·rw [if_pos e] at g2;exact .inl (by simpa using g2.symm)
   ·rw [if_neg e] at g2;exact .inr (by simpa using g2.symm)
  have e:=z7p hB g3 ho1
  cases hov:z13 r2.2.2 with
  | true =>
   rw [hov] at g4
   cases g4
   rw [if_pos rfl]
   rcases h4 with ⟨_,h4⟩ | ⟨h4,_⟩ | ⟨h4,_⟩
   ·exact h4
   ·rw [z0s h4] at hov;cases hov
   ·rw [z0s h4] at hov;cases hov
  | false =>
   rw [hov] at g4
   rw [if_neg dC0]
   unfold KFin
   by_cases k15:r2.1.1=15
   ·rw [k15] at g4
    cases g4
    rw [if_pos k15]
    rcases h4 with ⟨h4,_⟩ | ⟨_,_,h4⟩ | ⟨_,h4,_⟩
    ·rw [hov] at h4;cases h4
    ·cases K with
     | nil=>exact h4
     | cons f K=>unfold KFin at h4;rw [if_pos k15] at h4;exact h4
    ·rw [k15] at h4;exact absurd h4 dC0
   ·rw [if_neg k15]
    by_cases k12:r2.1.1=12
    ·rw [if_pos k12]
     rw [k12] at g4
     obtain ⟨v3,g5,rfl⟩:=A3.1 g4
     rcases h4 with ⟨h4,_⟩ | ⟨_,h4,_⟩ | ⟨_,_,d3,r3,h6,h7,h8⟩
     ·rw [show (((0,[]),v3,r2.2.2):Rres).2.2=r2.2.2 from rfl,hov] at h4;cases h4
     ·exact absurd rfl h4
     ·exact ⟨v3,d3,r3,h6,g5,h7,h8⟩
    ·rw [if_neg k12]
     have n12:(!false&&r2.1.1==12)=false:=by simpa using k12
     rw [n12,if_neg dC0] at g4
     cases g4
     exact h4.out hB e.ok
end
end
def MG (u:Un) (f:Fl) (l:List Nd):Prop:=∀ (deep:Int) (w:Wh) (all all':List Int),SubL all all'->vGo u f deep w all l=true->vGo u f deep w all' l=true
theorem MG.list {u:Un} {f:Fl} {l:List Nd} (h:MG u f l) {deep:Int} {w:Wh} {all all':List Int} (hs:SubL all all') (hv:z3c u f deep w all l=true):z3c u f deep w all' l=true:=by
 simp only [z3c,A0] at hv ⊢
 exact ⟨hv.1,h deep w all all' hs hv.2⟩
theorem y08 (u:Un) (f:Fl) (x:Nd) (ih:∀ q∈x.kids,MG u f q) (deep:Int) (w:Wh) (s s':List Int) (hs:SubL s s') (h:z6m u f deep w s x=true):z6m u f deep w s' x=true:=by
 have hb:=z2g u f deep w s h
 by_cases h10:x.kind=10
 ·obtain ⟨a,b,hk⟩:=z3o hb h10
  rw [z5p u f deep w _ hb h10 hk] at h ⊢
  simp only [A0] at h ⊢
  exact ⟨⟨⟨⟨z8r hs h.1.1.1.1,(ih a (by rw [hk];simp)).list hs h.1.1.1.2⟩,(ih b (by rw [hk];simp)).list hs h.1.1.2⟩,h.1.2⟩,h.2⟩
 ·by_cases h11:x.kind=11
  ·obtain ⟨a,hk⟩:=z1y hb h11
   rw [z3b u f deep w _ hb h11 hk] at h ⊢
   simp only [A0] at h ⊢
   exact ⟨⟨⟨⟨z8r hs h.1.1.1.1,h.1.1.1.2⟩,(ih a (by rw [hk];simp)).list (hs.app (.refl _)) h.1.1.2⟩,h.1.2⟩,h.2⟩
  ·have e10:(x.kind==10)=false:=by simpa using h10
   have e11:(x.kind==11)=false:=by simpa using h11
   rw [z2p u f deep w _ hb e10 e11] at h ⊢
   exact ys9 hs h
theorem yx9 (u:Un) (f:Fl):∀ (l:List Nd),(∀ x∈l,∀ q∈x.kids,MG u f q)->MG u f l
 | [],_=>λ_ _ _ _ _ _=>by simp [vGo]
 | x::r,ih=>λdeep w all all' hs h=>by
  simp only [vGo,A0] at h ⊢
  exact ⟨⟨⟨h.1.1.1,y08 u f x (ih x (.head _)) _ _ _ _ hs h.1.1.2⟩,h.1.2⟩,yx9 u f r (λy hy=>ih y (.tail _ hy)) _ _ _ _ (hs.app (.refl _)) h.2⟩
theorem mg_all (u:Un) (f:Fl):∀ (N:Nat) (l:List Nd),SizeOf.sizeOf l<N->MG u f l
 | 0,_,h=>absurd h (Ae _)
 | N+1,l,hN=>yx9 u f l λx hx q hq=>mg_all u f N q (Ba (z9i hx rfl hq) (C2 hN))
theorem mg (u:Un) (f:Fl) (l:List Nd):MG u f l:=mg_all u f _ l (A5 _)
def vPre (u:Un) (f:Fl) (deep:Int) (w:Wh) (all:List Int):List Nd->Bool
 | []=>true
 | x::r=>!decide (deep > 100)&&z6m u f deep w all x && !z07 x&&vPre u f deep w (all++x.outs) r
theorem go_app (u:Un) (f:Fl) (deep:Int) (w:Wh):∀ (A T:List Nd) (all:List Int),T≠[]->vPre u f deep w all A=true->vGo u f deep w (all++A.flatMap Nd.outs) T=true->vGo u f deep w all (A++T)=true
 | [],T,all,_,_,h=>by simpa using h
 | x::r,T,all,hT,h1,h2=>by
  simp only [vPre,A0] at h1
  simp only [B8,vGo,A0]
  refine ⟨⟨h1.1.1,?_⟩,go_app u f deep w r T (all++x.outs) hT h1.2 (by rw [Dj,<- C8] at h2;exact h2)⟩
  have hc:z07 x=false:=by simpa using h1.1.2
  have he:(r++T).isEmpty=false:=by
   cases r with
   | nil=>cases T with
    | nil=>exact absurd rfl hT
    | cons _ _=>rfl
   | cons _ _=>rfl
  rw [hc,he];rfl
theorem y1y {l:List Int} (h:l.length=1) (v:Int) (hv:l.contains v=true):v=l.headD 0:=by
 match l,h with
 | [a],_=>simpa using hv
theorem y9y (u:Un) (f:Fl) (dI dO:Int) (wI wO:Wh) (hdO:¬ dO > 100):∀ (l:List Nd) (V S vs:List Int),vGo u f dI wI V l=true->(∀ v,V.contains v=true->S.contains v=true∨vs.contains v=true) ->
 vPre u f dO wO S (z0r vs l).1=true/\(∀ V',SubL V V'->SubL ((z0r vs l).1.flatMap Nd.outs) V'->vGo u f dI wI V' (z0r vs l).2=true)/\(l≠[]->(z0r vs l).2≠[])
 | [],V,S,vs,_,_=>⟨rfl,λ_ _ _=>rfl,λh=>absurd rfl h⟩
 | x::r,V,S,vs,h,hV=>by
  have h0:=h
  simp only [vGo,A0] at h
  obtain ⟨⟨⟨hd,hx⟩,hc⟩,hr⟩:=h
  have hb:=z2g u f dI wI V hx
  unfold z0r
  by_cases hm:z1u x=true
  ·rw [if_pos hm]
   obtain ⟨e10,e11,hcl,_⟩:=z9x hm
   have hne:r≠[]:=by
    intro e;subst e
    rw [hcl] at hc;simp at hc
   have hx2:=hx
   rw [z2p u f dI wI V hb e10 e11] at hx2
   by_cases ha:x.args.any (λv=>vs.contains v)=true
   ·rw [if_pos ha]
    obtain ⟨_,hol⟩:=zh8 (s':=V) (w':=wI) hm (λ_ _ h=>h) hx2
    obtain ⟨i1,i2,i3⟩:=y9y u f dI dO wI wO hdO r (V++x.outs) S (vs++[x.outs.headD 0]) hr (λv hv=>by
     rw [Bp,Bk] at hv
     rw [Bp,Bk]
     rcases hv with hv | hv
     ·exact (hV v hv).imp_right .inl
     ·have:=y1y hol v hv
      exact .inr (.inr (by rw [this];simp)))
    refine ⟨i1,λV' h1 h2=>?_,λ_=>by simp⟩
    have hR:=i3 hne
    have hRe:(z0r (vs++[x.outs.headD 0]) r).2.isEmpty=false:=by
     cases hq:(z0r (vs++[x.outs.headD 0]) r).2 with
     | nil=>exact absurd hq hR
     | cons _ _=>rfl
    simp only [vGo,A0]
    refine ⟨⟨⟨hd,y08 u f x (λq _=>mg u f q) _ _ _ _ h1 hx⟩,by rw [hcl,hRe];rfl⟩,i2 (V'++x.outs) (h1.app (.refl _)) (λv hv=>?_)⟩
    rw [Bp,h2 v hv];rfl
   ·rw [if_neg ha]
    have hargs:∀ v∈x.args,V.contains v=true->S.contains v=true:=λv hv hVv=>by
     rcases hV v hVv with h | h
     ·exact h
     ·exact absurd (List.any_eq_true.2 ⟨v,hv,h⟩) ha
    obtain ⟨hmv,_⟩:=zh8 (s':=S) (w':=wO) hm hargs hx2
    obtain ⟨i1,i2,i3⟩:=y9y u f dI dO wI wO hdO r (V++x.outs) (S++x.outs) vs hr (λv hv=>by
     rw [Bp,Bk] at hv
     rw [Bp,Bk]
     rcases hv with hv | hv
     ·exact (hV v hv).imp_left .inl
     ·exact .inl (.inr hv))
    refine ⟨?_,λV' h1 h2=>?_,λ_=>i3 hne⟩
    ·simp only [vPre,A0]
     refine ⟨⟨⟨by simpa using hdO,?_⟩,by rw [hcl];rfl⟩,i1⟩
     rw [z2p u f dO wO S hb e10 e11]
     exact hmv
    ·refine i2 V' (λv hv=>?_) (λv hv=>h2 v (by rw [Dj,Bp,hv,Bb]))
     rw [Bp,Bk] at hv
     rcases hv with hv | hv
     ·exact h1 v hv
     ·exact h2 v (by rw [Dj,Bp,hv];rfl)
  ·rw [if_neg hm]
   refine ⟨rfl,λV' h1 _=>mg u f (x::r) dI wI V V' h1 h0,λ_=>by simp⟩
def HP (u:Un) (f:Fl) (l:List Nd):Prop:=∀ (deep:Int) (w:Wh) (all all':List Int),SubL all all'->vGo u f deep w all l=true->vGo u f deep w all' (z0w l)=true
theorem HP.list {u:Un} {f:Fl} {l:List Nd} (h:HP u f l) {deep:Int} {w:Wh} {all all':List Int} (hs:SubL all all') (hv:z3c u f deep w all l=true):z3c u f deep w all' (z0w l)=true:=by
 simp only [z3c,A0] at hv ⊢
 refine ⟨?_,h deep w all all' hs hv.2⟩
 have hne:l≠[]:=by intro e;subst e;simp at hv
 cases hq:z0w l with
 | nil=>exact absurd hq (y4a hne)
 | cons _ _=>rfl
theorem zy0 {kind op n:Int} {name:ByteArray} {args outs params:List Int} {ks ks':List (List Nd)} (h:ks'.length=ks.length):z1j (.mk kind op n name args outs params ks')=z1j (.mk kind op n name args outs params ks):=by
 unfold z1j r8op r8num yi5 r8kn
 simp only [Nd.kind,Nd.op,Nd.n,Nd.name,Nd.kids,Nd.params]
 rw [h]
 rfl
theorem node_h (u:Un) (f:Fl) (x:Nd) (ih:∀ q∈x.kids,HP u f q) (deep:Int) (w:Wh) (all all':List Int) (hd:¬ deep > 100) (hs:SubL all all') (h:z6m u f deep w all x=true) :
 ∃ A y,z4m x=A++[y]/\vPre u f deep w all' A=true/\z6m u f deep w (all'++A.flatMap Nd.outs) y=true/\z07 y=z07 x/\y.outs=x.outs:=by
 have hb:=z2g u f deep w all h
 by_cases h10:x.kind=10
 ·obtain ⟨a,b,hk⟩:=z3o hb h10
  rw [z5p u f deep w all hb h10 hk] at h
  simp only [A0] at h
  have ha:=(ih a (by rw [hk];simp)).list hs h.1.1.1.2
  have hbb:=(ih b (by rw [hk];simp)).list hs h.1.1.2
  have hla:=yz1 a
  have hlb:=yz1 b
  cases x with
  | mk kind op n name args outs params ks =>
   simp only [Nd.kind,Nd.kids] at h10 hk
   subst h10 hk
   refine ⟨[],.mk 10 op n name args outs params [z0w a,z0w b],rfl,rfl,?_,?_,rfl⟩
   ·rw [List.flatMap_nil,Cl]
    have hb2:z1j (.mk 10 op n name args outs params [z0w a,z0w b])=true:=(zy0 (ks:=[a,b]) (ks':=[z0w a,z0w b]) rfl).trans hb
    rw [z5p u f deep w all' hb2 rfl rfl]
    simp only [A0]
    refine ⟨⟨⟨⟨z8r hs h.1.1.1.1,ha⟩,hbb⟩,?_⟩,h.2⟩
    have ho:=h.1.2
    unfold y4u z07 at ho ⊢
    simpa [Nd.kind,Nd.kids,Nd.outs,kid0,kid1,hla,hlb] using ho
   ·simp [z07,Nd.kind,Nd.kids,kid0,kid1,hla,hlb]
 ·by_cases h11:x.kind=11
  ·obtain ⟨a,hk⟩:=z1y hb h11
   rw [z3b u f deep w all hb h11 hk] at h
   simp only [A0] at h
   have hIH:=(ih a (by rw [hk];simp)).list (SubL.refl (all++x.params)) h.1.1.2
   simp only [z3c,A0] at hIH
   have hne:z0w a≠[]:=by intro e;rw [e] at hIH;simp at hIH
   obtain ⟨p1,p2,p3⟩:=y9y u f (deep+1) deep (w2 f x) w hd (z0w a) (all++x.params) all' x.params hIH.2 (λv hv=>by
    rw [Bp,Bk] at hv
    exact hv.imp_left (hs v))
   obtain ⟨l1,l2⟩:=z8w (z0w a) x.params
   have l3:=zg1 a
   cases x with
   | mk kind op n name args outs params ks =>
    simp only [Nd.kind,Nd.kids] at h11 hk
    subst h11 hk
    simp only [Nd.params] at p1 p2 p3 l2 h
    refine ⟨(z0r params (z0w a)).1,.mk 11 op n name args outs params [(z0r params (z0w a)).2],rfl,p1,?_,?_,rfl⟩
    ·have hb2:z1j (.mk 11 op n name args outs params [(z0r params (z0w a)).2])=true:=(zy0 (ks:=[a]) (ks':=[(z0r params (z0w a)).2]) rfl).trans hb
     rw [z3b u f deep w _ hb2 rfl rfl]
     simp only [A0,z3c,Nd.params,Nd.args,Nd.outs] at h ⊢
     refine ⟨⟨⟨⟨z8r hs.left h.1.1.1.1,h.1.1.1.2⟩,?_,?_⟩,?_⟩,h.2⟩
     ·cases hq:(z0r params (z0w a)).2 with
      | nil=>exact absurd hq (p3 hne)
      | cons _ _=>rfl
     ·exact p2 _ (hs.left.app (.refl _)) (λv hv=>by rw [Bp,Bp,hv,Bb,B9])
     ·have ho:=h.1.2
      unfold y4u z07 at ho ⊢
      simpa [Nd.kind,Nd.kids,Nd.outs,kid0,l2,l3] using ho
    ·simp [z07,Nd.kind,Nd.kids,kid0,l2,l3]
  ·have e10:(x.kind==10)=false:=by simpa using h10
   have e11:(x.kind==11)=false:=by simpa using h11
   have hk0:=z8b hb e10 e11
   have hx:z4m x=[x]:=by
    cases x with
    | mk kind op n name args outs params ks =>
     simp only [Nd.kind,Nd.kids] at e11 hk0
     subst hk0
     simp [z4m,hOut,z3z,e11]
   refine ⟨[],x,hx,rfl,?_,rfl,rfl⟩
   rw [List.flatMap_nil,Cl]
   exact y08 u f x (λq _=>mg u f q) _ _ _ _ hs h
theorem go_h (u:Un) (f:Fl):∀ (l:List Nd),(∀ x∈l,∀ q∈x.kids,HP u f q)->HP u f l
 | [],_=>λ_ _ _ _ _ _=>by simp [z0w,vGo]
 | x::r,ih=>λdeep w all all' hs h=>by
  simp only [vGo,A0] at h
  obtain ⟨⟨⟨hd,hx⟩,hc⟩,hr⟩:=h
  obtain ⟨A,y,e,hA,hy,hcy,hoy⟩:=node_h u f x (ih x (.head _)) deep w all all' (by simpa using hd) hs hx
  rw [show z0w (x::r)=z4m x++z0w r from rfl,e,C8]
  refine go_app u f deep w A _ all' sI0 hA ?_
  simp only [List.singleton_append,vGo,A0]
  refine ⟨⟨⟨hd,hy⟩,?_⟩,go_h u f r (λz hz=>ih z (.tail _ hz)) deep w (all++x.outs) _ (by rw [hoy];exact hs.left.app (.refl _)) hr⟩
  rw [hcy]
  have he:(z0w r).isEmpty=r.isEmpty:=by
   cases r with
   | nil=>rfl
   | cons z r' =>
    cases hq:z0w (z::r') with
    | nil=>exact absurd hq (y4a sI0)
    | cons _ _=>rfl
  rw [he];exact hc
theorem hp_all (u:Un) (f:Fl):∀ (N:Nat) (l:List Nd),SizeOf.sizeOf l<N->HP u f l
 | 0,_,h=>absurd h (Ae _)
 | N+1,l,hN=>go_h u f l λx hx q hq=>hp_all u f N q (Ba (z9i hx rfl hq) (C2 hN))
theorem ye4 (u:Un) (f:Fl) {deep:Int} {w:Wh} {all:List Int} {l:List Nd} (h:z3c u f deep w all l=true):z3c u f deep w all (z0w l)=true :=
 (hp_all u f _ l (A5 _)).list (SubL.refl _) h
theorem zp2 (name:ByteArray):∀ (l:List Fl) (i:Int),z05 name (l.map z5d) i=z05 name l i
 | [],_=>rfl
 | f::r,i=>by
  have ih:=zp2 name r (i+1)
  unfold z05
  rw [B6]
  simp only [ih]
  rfl
theorem sForm_h (u:Un) (f:Fl) (x:Nd) (s:List Int) (w:Wh):z8p (z3n u) (z5d f) x s w=z8p u f x s w:=by
 unfold z8p
 simp only [z3n,z5d,zp2,B7]
 cases u.flows[(z05 x.name u.flows 0).toNat]? with
 | none=>rfl
 | some g=>rfl
mutual
theorem vNode_h (u:Un) (f:Fl):∀ (x:Nd) (deep:Int) (w:Wh) (s:List Int),z6m (z3n u) (z5d f) deep w s x=z6m u f deep w s x
 | .mk kind op n name args outs params ks,deep,w,s=>by
  unfold z6m
  rw [sForm_h]
  match ks with
  | []=>rfl
  | [a] =>
   have h1:=ye3 u f a (deep+1) (w2 f (.mk kind op n name args outs params [a])) (s++params)
   simp only [show w2 (z5d f) (.mk kind op n name args outs params [a])=w2 f (.mk kind op n name args outs params [a]) from rfl,h1]
   rfl
  | a::b::r =>
   have h1:=ye3 u f a (deep+1) (w2 f (.mk kind op n name args outs params (a::b::r))) (s++params)
   have h2:=ye3 u f a (deep+1) (w1 w f (.mk kind op n name args outs params (a::b::r))) s
   have h3:=ye3 u f b (deep+1) (w1 w f (.mk kind op n name args outs params (a::b::r))) s
   simp only [show w2 (z5d f) (.mk kind op n name args outs params (a::b::r))=w2 f (.mk kind op n name args outs params (a::b::r)) from rfl,show w1 w (z5d f) (.mk kind op n name args outs params (a::b::r))=w1 w f (.mk kind op n name args outs params (a::b::r)) from rfl,h1,h2,h3]
   rfl
theorem ye3 (u:Un) (f:Fl):∀ (l:List Nd) (deep:Int) (w:Wh) (s:List Int),vGo (z3n u) (z5d f) deep w s l=vGo u f deep w s l
 | [],_,_,_=>by simp [vGo]
 | x::r,deep,w,s=>by
  unfold vGo
  rw [vNode_h u f x,ye3 u f r]
end
theorem flow_h {u:Un} {f:Fl} (h:z5q u f=true):z5q (z3n u) (z5d f)=true:=by
 unfold z5q at h ⊢
 simp only [A0] at h ⊢
 obtain ⟨h1,h2⟩:=h
 refine ⟨h1,?_⟩
 have hp:f.params.toNat<=f.types.length:=by
  have a1:=h1.1.1.1.1
  have a2:=h1.1.1.2
  simp only [Bg,C0] at a1 a2
  omega
 have hn:(z5a f.params.toNat f.types.length).length=f.types.length:=z3i hp
 rw [z70 u f f.body 1 z2z _ _ hn] at h2
 show (z2j (z3n u) (z5d f) 1 z2z (iota f.params.toNat) (z5a f.params.toNat f.types.length) (z0w f.body)).1=true
 rw [z70 (z3n u) (z5d f) (z0w f.body) 1 z2z _ _ hn]
 have hv:=ye4 u f h2.1
 simp only [z3c,A0] at hv ⊢
 exact ⟨⟨hv.1,by rw [ye3];exact hv.2⟩,h2.2.perm (zo1 f.body).symm⟩
theorem gA_h (u:Un):∀ (l:List Ar) (i:Int),r8gA (z3n u) l i=r8gA u l i
 | [],_=>rfl
 | a::r,i=>by
  have h1:gArr (z3n u) a i=gArr u a i:=by simp only [gArr,z3n,zp2]
  simp only [r8gA,gA_h u r,h1]
theorem gF_h (u:Un):∀ (l:List Fl) (i:Int),r8gF (z3n u) (l.map z5d) i=r8gF u l i
 | [],_=>rfl
 | a::r,i=>by
  have h1:gFlw (z3n u) (z5d a) i=gFlw u a i:=by
   simp only [gFlw,z3n,zp2]
   rfl
  simp only [B6,r8gF,gF_h u r,h1]
theorem y2p (l:List Fl) (k:Nat):((l.map z5d).getD k y6d).ty=(l.getD k y6d).ty/\((l.map z5d).getD k y6d).params=(l.getD k y6d).params:=by
 simp only [Ay,B7]
 cases l[k]? with
 | none=>exact ⟨rfl,rfl⟩
 | some g=>exact ⟨rfl,rfl⟩
theorem yx8 (u:Un):z1a (z3n u)=z1a u:=by
 unfold z1a
 rw [show (z3n u).arrays=u.arrays from rfl,show (z3n u).flows=u.flows.map z5d from rfl,gA_h,gF_h]
 unfold z9m
 rw [show (z3n u).flows=u.flows.map z5d from rfl,zp2,(y2p _ _).1,(y2p _ _).2]
theorem y6e (u:Un):∀ (l:List Fl) (i:Int),(z5j u l i).1=0↔∀ f∈l,z5q u f=true
 | [],_=>by simp [z5j]
 | f::r,i=>by
  unfold z5j
  cases h:z5q u f with
  | false=>simp [h]
  | true=>simp [h,y6e u r (i+1)]
theorem y2l (u:Un):∀ (l:List Fl) (i:Int),(∀ f∈l,z5q u f=true)->z5j u l i=(0,0)
 | [],_,_=>rfl
 | f::r,i,h=>by
  unfold z5j
  rw [if_pos (h f (.head _))]
  exact y2l u r (i+1) λg hg=>h g (.tail _ hg)
theorem z73 (u:Un):(z1g u).1=0↔z1a u=true/\∀ f∈u.flows,z5q u f=true:=by
 unfold z1g
 cases h:z1a u with
 | false=>simp
 | true=>simp [y6e]
theorem zf5 {u:Un} (h:(z1g u).1=0):z1g (z3n u)=(0,0):=by
 obtain ⟨h1,h2⟩:=(z73 u).1 h
 unfold z1g
 rw [yx8,h1,if_pos rfl]
 refine y2l (z3n u) _ 0 λg hg=>?_
 obtain ⟨f,hf,rfl⟩:=Cc.1 hg
 exact flow_h (h2 f hf)
mutual
theorem j02 (u:Un) (f:Fl):∀ (x:Nd) (deep:Int) (w:Wh) (s:List Int),z6m u f deep w s x=true->hOkN x=true
 | .mk kind op n name args outs params ks,deep,w,s,h=>by
  have hb:=z2g u f deep w s h
  simp only [hOkN,A0]
  refine ⟨⟨?_,?_⟩,?_⟩
  ·cases hm:z1u (.mk kind op n name args outs params ks) with
   | false=>rfl
   | true =>
    obtain ⟨e10,e11,_,_⟩:=z9x hm
    rw [z2p u f deep w s hb e10 e11] at h
    obtain ⟨_,hl⟩:=zh8 (s':=s) (w':=w) hm (λ_ _ h=>h) h
    simp only [Nd.outs] at hl
    cases outs with
    | nil=>simp at hl
    | cons _ _=>rfl
  ·cases hk:(kind==11) with
   | false=>simp [bne,hk]
   | true =>
    obtain ⟨a,ha⟩:=z1y hb (show kind=11 by simpa using hk)
    simp only [Nd.kids] at ha
    simp [ha]
  ·by_cases h10:kind=10
   ·obtain ⟨a,b,hk⟩:=z3o hb h10
    rw [z5p u f deep w s hb h10 hk] at h
    simp only [A0,z3c] at h
    simp only [Nd.kids] at hk
    match ks,hk with
    | [a',b'],hk =>
     cases hk
     simp only [hOkK,A0,Cp]
     exact ⟨za9 u f a _ _ _ h.1.1.1.2.2,za9 u f b _ _ _ h.1.1.2.2⟩
   ·by_cases h11:kind=11
    ·obtain ⟨a,hk⟩:=z1y hb h11
     rw [z3b u f deep w s hb h11 hk] at h
     simp only [A0,z3c] at h
     simp only [Nd.kids] at hk
     match ks,hk with
     | [a'],hk =>
      cases hk
      simp only [hOkK,Cp]
      exact za9 u f a _ _ _ h.1.1.2.2
    ·have hk0:=z8b hb (show (kind==10)=false by simpa using h10) (show (kind==11)=false by simpa using h11)
     simp only [Nd.kids] at hk0
     rw [hk0];rfl
theorem za9 (u:Un) (f:Fl):∀ (l:List Nd) (deep:Int) (w:Wh) (s:List Int),vGo u f deep w s l=true->hOkL l=true
 | [],_,_,_,_=>rfl
 | x::r,deep,w,s,h=>by
  simp only [vGo,A0] at h
  simp only [hOkL,A0]
  exact ⟨j02 u f x _ _ _ h.1.1.2,za9 u f r _ _ _ h.2⟩
end
theorem zz6 {u:Un} (h:(z4k u).1=0):∀ f∈u.flows,hOkL f.body=true:=by
 rw [zd6] at h
 intro f hf
 have hF:=((z73 u).1 h).2 f hf
 unfold z5q at hF
 simp only [A0] at hF
 obtain ⟨h1,h2⟩:=hF
 have hp:f.params.toNat<=f.types.length:=by
  have a1:=h1.1.1.1.1
  have a2:=h1.1.1.2
  simp only [Bg,C0] at a1 a2
  omega
 have hn:(z5a f.params.toNat f.types.length).length=f.types.length:=z3i hp
 rw [z70 u f f.body 1 z2z _ _ hn] at h2
 have hv:=h2.1
 simp only [z3c,A0] at hv
 exact za9 u f f.body _ _ _ hv.2
theorem y60:∀ (a b:List Nd),wtL (a++b)=wtL a+wtL b
 | [],b=>by simp [wtL]
 | x::r,b=>by simp only [B8,wtL,y60 r b];omega
theorem yf2:∀ (l:List Nd) (vs:List Int),wtL (z0r vs l).1+wtL (z0r vs l).2=wtL l
 | [],_=>rfl
 | x::r,vs=>by
  unfold z0r
  split
  ·split
   ·have:=yf2 r (vs++[x.outs.headD 0]);simp only [wtL];omega
   ·have:=yf2 r vs;simp only [wtL];omega
  ·simp [wtL]
mutual
theorem wt_node:∀ x:Nd,(z4m x).length+wtL (z4m x)=1+wtN x
 | .mk kind op n name args outs params ks=>by
  have hk:=j3n ks
  unfold z4m hOut
  split
  ·cases hq:z3z ks with
   | nil=>rw [hq] at hk;simp only [wtL,wtN,Ah,Ax] at hk ⊢;omega
   | cons b r =>
    rw [hq] at hk
    have h1:=yf2 b params
    have h2:=z9w b params
    simp only [y60,wtL,wtN,wtK,Az,Ah,Ax] at hk ⊢
    omega
  ·simp only [wtL,wtN,Ah,Ax];omega
theorem yf1:∀ l:List Nd,(z0w l).length+wtL (z0w l)=l.length+wtL l
 | []=>rfl
 | x::r=>by
  have h1:=wt_node x
  have h2:=yf1 r
  simp only [z0w,y60,wtL,Az,Ah]
  omega
theorem j3n:∀ ks:List (List Nd),wtK (z3z ks)=wtK ks
 | []=>rfl
 | l::r=>by
  have h1:=yf1 l
  have h2:=j3n r
  simp only [z3z,wtK]
  omega
end
theorem wtF_h:∀ l:List Fl,wtF (l.map z5d)=wtF l
 | []=>rfl
 | f::r=>by
  have h1:=yf1 f.body
  have h2:=wtF_h r
  simp only [B6,wtF,z18,z5d] at h2 ⊢
  omega
theorem y5y (u:Un):z0g (z3n u)=z0g u:=by
 unfold z0g
 rw [show (z3n u).flows=u.flows.map z5d from rfl,wtF_h,A4]
 rfl
def mkK (x:Nd) (ks:List (List Nd)):Nd:=.mk x.kind x.op x.n x.name x.args x.outs x.params ks
def hcs:List Nd->Nat
 | []=>0
 | x::r=>hc x+hcs r
inductive HR:List Nd->Nat->Nat->List Nd->List Nd->Prop
 | nil {H}:HR H 0 0 [] []
 | keep {H k c x l l'}:z1u x=true->l≠[]->HR H k c l l'->HR H k c (x::l) (x::l')
 | skip {H k c x l l'}:z1u x=true->x∈H->l≠[]->HR H k c l l'->HR H (k+1) (c+hc x) (x::l) l'
 | add {H k c x l l'}:z1u x=true->l≠[]->HR (x::H) (k+1) (c+hc x) l l'->HR H k c l (x::l')
 | eff {H x l l'}:z1u x=false->x.kind≠10->x.kind≠11->HR H 0 0 l l'->HR H 0 0 (x::l) (x::l')
 | ite {H x q0 q1 q0' q1' l l'}:x.kind=10->x.kids=[q0,q1]->HR H 0 0 q0 q0'->HR H 0 0 q1 q1'->HR H 0 0 l l'->HR H 0 0 (x::l) (mkK x [q0',q1']::l')
 | loop {H k c x q q' l l'}:x.kind=11->x.kids=[q]->HR H k c q q'->HR H 0 0 l l'->HR H k c (x::l) (mkK x [q']::l')
theorem HR.mono {H:List Nd} {k c:Nat} {l l':List Nd} (h:HR H k c l l'):∀ {H2:List Nd},(∀ x∈H,x∈H2)->HR H2 k c l l':=by
 induction h with
 | nil=>exact λ_=>.nil
 | keep h1 h2 _ ih=>exact λhs=>.keep h1 h2 (ih hs)
 | skip h1 h2 h3 _ ih=>exact λhs=>.skip h1 (hs _ h2) h3 (ih hs)
 | add h1 h2 _ ih=>exact λhs=>.add h1 h2 (ih λx hx=>(Ag.1 hx).elim (λe=>e ▸ .head _) λhx=>.tail _ (hs x hx))
 | eff h1 h2 h3 _ ih=>exact λhs=>.eff h1 h2 h3 (ih hs)
 | ite h1 h2 _ _ _ i1 i2 i3=>exact λhs=>.ite h1 h2 (i1 hs) (i2 hs) (i3 hs)
 | loop h1 h2 _ _ i1 i2=>exact λhs=>.loop h1 h2 (i1 hs) (i2 hs)
theorem yy2 {x:Nd} (h:x.kind=10∨x.kind=11):z1u x=false:=by
 cases hx:z1u x with
 | false=>rfl
 | true=>have:=z5t hx;omega
theorem y0k {x:Nd} {l:List Nd} (vs:List Int) (h:z1u x=false):z0r vs (x::l)=([],x::l):=by
 unfold z0r;rw [h];simp
theorem part_HR {H:List Nd} {k c:Nat} {l l':List Nd} (h:HR H k c l l'):∀ vs:List Int,HR ((z0r vs l').1++H) (k+(z0r vs l').1.length) (c+hcs (z0r vs l').1) l (z0r vs l').2:=by
 induction h with
 | nil=>exact λ_=>.nil
 | @keep H k c x l l' h1 h2 h3 ih =>
  intro vs
  unfold z0r
  rw [if_pos h1]
  split
  ·exact .keep h1 h2 (ih _)
  ·have:=HR.skip (H:=x::((z0r vs l').1++H)) h1 (.head _) h2 ((ih vs).mono λy hy=>.tail _ hy)
   have e1:k+(x::(z0r vs l').1).length=k+(z0r vs l').1.length+1:=by simp;omega
   have e2:c+hcs (x::(z0r vs l').1)=c+hcs (z0r vs l').1+hc x:=by simp [hcs];omega
   simp only [e1,e2]
   exact this
 | @skip H k c x l l' h1 h2 h3 h4 ih =>
  intro vs
  have:=HR.skip (H:=(z0r vs l').1++H) h1 (B4 _ h2) h3 (ih vs)
  have e1:k+1+(z0r vs l').1.length=k+(z0r vs l').1.length+1:=by omega
  have e2:c+hc x+hcs (z0r vs l').1=c+hcs (z0r vs l').1+hc x:=by omega
  rw [e1,e2]
  exact this
 | @add H k c x l l' h1 h2 h3 ih =>
  intro vs
  unfold z0r
  rw [if_pos h1]
  split
  ·generalize vs++[x.outs.headD 0]=vs2
   have:=ih vs2
   have e1:k+1+(z0r vs2 l').1.length=k+(z0r vs2 l').1.length+1:=by omega
   have e2:c+hc x+hcs (z0r vs2 l').1=c+hcs (z0r vs2 l').1+hc x:=by omega
   rw [e1,e2] at this
   exact .add h1 h2 (this.mono λy hy=>by
    rcases Au.1 hy with hy | hy
    ·exact .tail _ (Aq _ hy)
    ·exact (Ag.1 hy).elim (λe=>e ▸ .head _) λhy=>.tail _ (B4 _ hy))
  ·have:=ih vs
   have e1:k+(x::(z0r vs l').1).length=k+1+(z0r vs l').1.length:=by simp;omega
   have e2:c+hcs (x::(z0r vs l').1)=c+hc x+hcs (z0r vs l').1:=by simp [hcs];omega
   simp only [e1,e2]
   exact this.mono λy hy=>by
    rcases Au.1 hy with hy | hy
    ·exact .tail _ (Aq _ hy)
    ·exact (Ag.1 hy).elim (λe=>e ▸ .head _) λhy=>.tail _ (B4 _ hy)
 | eff h1 h2 h3 h4=>intro vs;rw [y0k vs h1];exact .eff h1 h2 h3 h4
 | ite h1 h2 h3 h4 h5=>intro vs;rw [y0k vs (yy2 (x:=mkK _ _) (.inl h1))];exact .ite h1 h2 h3 h4 h5
 | loop h1 h2 h3 h4=>intro vs;rw [y0k vs (yy2 (x:=mkK _ _) (.inr h1))];exact .loop h1 h2 h3 h4
theorem y9w:∀ (l:List Nd) (vs:List Int),∀ x∈(z0r vs l).1,z1u x=true
 | [],_,x,h=>by simp [z0r] at h
 | y::r,vs,x,h=>by
  unfold z0r at h
  split at h
  ·rename_i hy
   split at h
   ·exact y9w r _ x h
   ·rcases Ag.1 h with rfl | h
    ·exact hy
    ·exact y9w r _ x h
  ·simp at h
theorem HR.adds:∀ {A H:List Nd} {k c:Nat} {l l':List Nd},(∀ x∈A,z1u x=true)->l≠[]->HR (A++H) (k+A.length) (c+hcs A) l l'->HR H k c l (A++l')
 | [],_,_,_,_,_,_,_,h=>h
 | x::A,H,k,c,l,l',hA,hl,h=>by
  refine .add (hA x (.head _)) hl (HR.adds (A:=A) (λy hy=>hA y (.tail _ hy)) hl ?_)
  have e1:k+1+A.length=k+(x::A).length:=by simp;omega
  have e2:c+hc x+hcs A=c+hcs (x::A):=by simp [hcs];omega
  rw [e1,e2]
  exact h.mono λy hy=>by
   rcases Ag.1 hy with rfl | hy
   ·exact B4 _ (.head _)
   ·rcases Au.1 hy with hy | hy
    ·exact Aq _ hy
    ·exact B4 _ (.tail _ hy)
theorem y6j {x:Nd} (h0:x.kids=[]) (h11:x.kind≠11):z4m x=[x]:=by
 have e:(x.kind==11)=false:=by simpa using h11
 rw [zw0,h0]
 unfold hOut
 rw [e]
 cases x
 simp only [Nd.kids] at h0
 subst h0
 simp [z3z,Nd.kind,Nd.op,Nd.n,Nd.name,Nd.args,Nd.outs,Nd.params]
theorem hNode_if {x:Nd} {a b:List Nd} (hk:x.kind=10) (h:x.kids=[a,b]):z4m x=[mkK x [z0w a,z0w b]]:=by
 rw [zw0,h]
 unfold hOut
 rw [hk]
 simp [z3z,mkK,hk]
theorem yn5 {x:Nd} {q:List Nd} (hk:x.kind=11) (h:x.kids=[q]):z4m x=(z0r x.params (z0w q)).1++[mkK x [(z0r x.params (z0w q)).2]]:=by
 rw [zw0,h]
 unfold hOut
 rw [hk]
 simp [z3z,mkK,hk]
theorem y03 (u:Un) (f:Fl):∀ (N:Nat) (l:List Nd),SizeOf.sizeOf l<N->∀ (deep:Int) (w:Wh) (S:List Int),vGo u f deep w S l=true->HR [] 0 0 l (z0w l)
 | 0,_,h,_,_,_,_=>absurd h (Ae _)
 | N+1,[],_,_,_,_,_=>by simp only [z0w];exact .nil
 | N+1,x::l,hN,deep,w,S,hv=>by
  unfold vGo at hv
  simp only [A0,As] at hv
  obtain ⟨⟨⟨_,v2⟩,v3⟩,v4⟩:=hv
  have hsl:SizeOf.sizeOf l<N:=by have:SizeOf.sizeOf (x::l)=1+SizeOf.sizeOf x+SizeOf.sizeOf l:=rfl;omega
  have ihl:=y03 u f N l hsl deep w _ v4
  have hb:=z2g u f deep w S v2
  have hkid:∀ q∈x.kids,SizeOf.sizeOf q<N:=λq hq=>Ba (z9i (l:=x::l) (.head _) rfl hq) (C2 hN)
  have e:z0w (x::l)=z4m x++z0w l:=by simp only [z0w]
  rw [e]
  by_cases h10:x.kind=10
  ·obtain ⟨q0,q1,hk⟩:=z3o hb h10
   rw [z5p u f deep w S hb h10 hk] at v2
   simp only [A0,z3c] at v2
   rw [hNode_if h10 hk]
   exact .ite h10 hk (y03 u f N q0 (hkid q0 (by rw [hk];simp)) _ _ _ v2.1.1.1.2.2) (y03 u f N q1 (hkid q1 (by rw [hk];simp)) _ _ _ v2.1.1.2.2) ihl
  by_cases h11:x.kind=11
  ·obtain ⟨q,hk⟩:=z1y hb h11
   rw [z3b u f deep w S hb h11 hk] at v2
   simp only [A0,z3c] at v2
   rw [yn5 h11 hk,C8]
   have ihq:=part_HR (y03 u f N q (hkid q (by rw [hk];simp)) _ _ _ v2.1.1.2.2) x.params
   exact HR.adds (y9w _ _) (Dy _ _) (.loop h11 hk ihq (ihl.mono λy hy=>by simp at hy))
  ·have e10:(x.kind==10)=false:=by simpa using h10
   have e11:(x.kind==11)=false:=by simpa using h11
   rw [y6j (z8b hb e10 e11) h11]
   cases hm:z1u x with
   | true =>
    have hc:=(z9x hm).2.2.1
    rw [hc] at v3
    exact .keep hm (by intro e;rw [e] at v3;cases v3) ihl
   | false=>exact .eff hm h10 h11 ihl
end Go.Proofs.YtcnjamphfjnflaaGreatDoor
