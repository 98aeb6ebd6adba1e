/- PART 2 of 9 of a proof: see the last part. -/
import Derived.Test.YtcnjamphfjnflaaGreatDoorHp1
set_option maxRecDepth 20000
set_option maxHeartbeats 8000000
set_option linter.unusedSimpArgs false
set_option linter.unusedVariables false
set_option linter.unusedSectionVars false
namespace Go.Proofs.YtcnjamphfjnflaaGreatDoor
open Go
section
variable {P:Program} {c:Cx} {R1:Nat->Prop} {o:Oper} {fr:Fr} {hp:Hp} {σ:Heap'} {Q:Exit->Fr->Heap'->Prop}
theorem RepP.keepIt{own:Nat->Prop}{w w':World}{b0:Nat}{p:PV}{v:Value}(h:RepP own w p v)(hs:w.heap.size<=w'.heap.size)(h0:∀off sp,w.cell? ⟨b0,off,sp⟩=none)
 (hk:∀b,b≠b0->w'.heap[b]?=w.heap[b]?):RepP own w' p v:=by
 have key:∀(b off:Nat)(x:Value),w.cell? ⟨b,off,none⟩=some x->w'.cell? ⟨b,off,none⟩=some x:=by
  intro b off x hx
  by_cases e:b=b0
  ·subst e;rw[h0]at hx;cases hx
  ·rw[<- hx];exact Dh (a:=⟨b,off,none⟩) (hk b e)
 induction h with
 |val v=>exact .val v
 |seq els a cap b off u ha hb hl hm hc _ ih=>exact .seq els a cap b off u ha (λhne=>⟨(hb hne).1,Bc (hb hne).2 hs⟩) hl hm (λi el hi j c hj=>key _ _ _ (hc i el hi j c hj)) ih
 |agg cs vs u hl hv _ ih=>exact .agg cs vs u hl hv ih
 |ept cs off b o u hb hc _ ih=>exact .ept cs off b o u ⟨hb.1,Bc hb.2 hs⟩ (λj c hj=>key _ _ _ (hc j c hj)) ih
theorem RepI.mapP{F:Nat->Prop}{ρ:Loc}{w w':World}{x:IV}{v:Value}(hk:∀p v,RepP (owned F ρ) w p v->RepP (owned F ρ) w' p v)(h:RepI F ρ σ w x v):RepI F ρ σ w' x v:=by
 induction h with
 |pv p v h=>exact .pv p v (hk _ _ h)
 |ptr k off v h=>exact .ptr k off v h
 |sl k len v h=>exact .sl k len v h
 |rpt k len off v h=>exact .rpt k len off v h
 |sp k n len v h=>exact .sp k n len v h
 |bs k n v h=>exact .bs k n v h
 |mp k v h=>exact .mp k v h
 |tnil k T v h=>exact .tnil k T v h
 |agg cs vs u hl hv _ ih=>exact .agg cs vs u hl hv ih
 |tup cs vs u hl hv _ ih=>exact .tup cs vs u hl hv ih
 |fn f xs ys vs ws u t hl hv _ hl' hv' _ ih ih'=>exact .fn f xs ys vs ws u t hl hv ih hl' hv' ih'
theorem RepO.mapP{F:Nat->Prop}{ρ:Loc}{w w':World}{b cc:Nat}{o:HO}(hb:w'.heap[b]?=w.heap[b]?)(hk:∀p v,RepP (owned F ρ) w p v->RepP (owned F ρ) w' p v)(h:RepO F ρ σ w b cc o):RepO F ρ σ w' b cc o:=by
 cases h with
 |box cs e a u h hl hv hr=>exact .box cs e a u (hb.trans h) hl hv λj x hj=>(hr j x hj).mapP hk
 |row s els a u h hs hl hm hw hv hr=>exact .row s els a u (hb.trans h) hs hl hm hw hv λi el hi j x hj=>hk _ _ (hr i el hi j x hj)
 |map es a t u h hl hv hr=>exact .map es a t u (hb.trans h) hl hv λi k p hi=>hk _ _ (hr i k p hi)
theorem zs5{w:World}{b0:Nat}{s:ByteArray}{k:Nat}(h:w.heap[b0]?=some (.stringIter s k)):∀off sp,w.cell? ⟨b0,off,sp⟩=none:=by
 intro off sp;simp[World.cell?,h]
theorem All.iterSet{ρ:Loc}{w:World}{a:Act}{b0 k k':Nat}{s:ByteArray}(h:All c ρ σ w fr a)(hit:w.heap[b0]?=some (.stringIter s k))(hge:c.w.heap.size<=b0)(hun:∀j cc,ρ j≠some (b0,cc)) :
 All c ρ σ { w with heap:=w.heap.setIfInBounds b0 (.stringIter s k') } fr a:=by
 have hlt:b0<w.heap.size:=(Cf.1 hit).1;have hoth:∀b,b≠b0->(w.heap.setIfInBounds b0 (Obj.stringIter s k'))[b]?=w.heap[b]?:=λb hb=>by simp[C4 hb]
 have hP:∀p v,RepP (owned c.F ρ) w p v->RepP (owned c.F ρ) { w with heap:=w.heap.setIfInBounds b0 (.stringIter s k') } p v:=λp v hp=>hp.keepIt sI0 (zs5 hit) hoth;refine⟨⟨h.rel.inj,h.rel.apart,λb hb=>by simpa using h.rel.old b hb,λj b cc hj=>?_,h.rel.real⟩,λt x hx=>?_,?_,h.df,h.sz,h.kk⟩
 ·obtain⟨o,h1,h2⟩:=h.rel.obj j b cc hj;exact⟨o,h1,h2.mapP (hoth b λe=>hun j cc (e▸hj)) hP⟩
 ·obtain⟨v,hv,hr⟩:=h.fr t x hx;exact⟨v,hv,hr.mapP hP⟩
 ·have t:=h.tr;exact { t with
   size:=by simpa using t.size
   blk:=λb hb hall=>(hoth b oM0).trans (t.blk b hb hall) }
theorem All.rebase{ρ:Loc}{w:World}{a:Act}(h:All c ρ σ w fr a):All ⟨c.F,c.R,ρ,σ,w,c.n⟩ ρ σ w fr a:=⟨h.rel,h.fr,.refl _ _ _ _ _,h.df,h.sz,h.kept⟩
theorem All.unbase{ρ ρ':Loc}{σ':Heap'}{w w':World}{fr':Fr}{a a':Act}(h:All c ρ σ w fr a)(h':All ⟨c.F,c.R,ρ,σ,w,c.n⟩ ρ' σ' w' fr' a')(hc:∀k,σ k=none->c.σ k=none):All c ρ' σ' w' fr' a' :=
 ⟨h'.rel,h'.fr,h.tr.trans h'.tr (λ_ h=>h) (λk h1 _=>hc k h1),h'.df,h'.sz,h.kk⟩
abbrev itv(b0:Nat):IV:=.pv (.val (.pointer (some ⟨b0,0,none⟩)))
theorem yp7(s:ByteArray)(i:Nat):1<=(Utf8.decode s i).2:=by
 unfold Utf8.decode;simp only
 repeat' split
 all_goals simp
def itPos(w:World)(b0:Nat):Nat:=match w.heap[b0]? with
 |some (.stringIter _ k)=>k
 |_=>0
theorem Sub.cons{fr':Fr}{d:Nat}{x:IV}(h:Sub σ fr fr'):Sub σ ((d,x)::fr) ((d,x)::fr'):=by
 intro t y hy;simp only[Fr.get]at hy⊢
 cases hb:Nat.beq d t with
 |true=>rw[hb]at hy;cases hy;exact⟨_,rfl,λ_ _ _ _ h=>h⟩
 |false=>rw[hb]at hy;exact h t y hy
theorem Tr.strRange{id1 i2 bid:Nat}{ops1 ops2:Array Oper}{rest:Code}{m g nx ex:Oper}{d0 d1 e1 e2:Nat}{x0:Operand}{ty:TypeId}{s:ByteArray}
 (h1:ops1.toList=[m,g]) (hmo:m.op=.move x0) (hmd:m.dst=some d0) (hmg:m.guard=none) (hgo:g.op=.range ty (.tmp d0)) (hgd:g.dst=some d1) (hgg:g.guard=none)
 (hx0:fr.ev x0=some (iStr s)) (hty:P.underlying ty=some .string)
 (h2:ops2.toList=[nx,ex]) (hno:nx.op=.next (.tmp d1) true) (hnd:nx.dst=some e1) (hng:nx.guard=none) (heo:ex.op=.extract (.tmp e1) 0) (hed:ex.dst=some e2) (heg:ex.guard=none)
 (hb0:Nat.blt d0 c.n=true) (hb1:Nat.blt d1 c.n=true) (hb2:Nat.blt e1 c.n=true) (hb3:Nat.blt e2 c.n=true)
 (hcσ:∀k,σ k=none->c.σ k=none)
 (I:Nat->Fr->Prop) (h0:∃fr0,Sub σ ((d0,iStr s)::fr) fr0/\I 0 fr0)
 (hdone:∀b0 k fr',s.size<=k->I k fr'->Q .normal ((e2,iBool false)::(e1,.tup [iBool false])::(d1,itv b0)::fr') σ)
 (round:∀(ρ2:Loc)(w2:World)(b0 k:Nat)(fr':Fr),k<s.size->I k fr' ->
  Tr P ⟨c.F,c.R,ρ2,σ,w2,c.n⟩ rest ((e2,iBool true)::(e1,.tup [iBool true,iInt k,.pv (.val (.int .i32 (Utf8.decode s k).1))])::(d1,itv b0)::fr') σ (λe fr1 σ1=>match e with
   |.normal=>σ1=σ /\ ∃fr'',Sub σ fr1 ((d1,itv b0)::fr'')/\I (k+(Utf8.decode s k).2) fr''
   |.exit _=>False
   |e=>Q e fr1 σ1)) :
 Tr P c (.seq (.region id1 ops1 false) (.block bid (.loop (.seq (.region i2 ops2 false) (.seq (.cond (.tmp e2) .skip (.exit bid)) rest))))) fr σ Q:=by
 obtain⟨fr0,hs0,hI0⟩:=h0;intro ρ w a ha;refine wp_seq (G5 ?_);rw[h1];refine Dz hmg λK hK=>?_;obtain⟨v1,hr1,hv1⟩:=(z13 (R1:=λ_=>True) hmo hx0) ρ w a ha;unfold Oper.wp;rw[hr1 w (.refl _ _ _ _),D2];refine hK _ _ ?_;clear hK K;have ha2:All c ρ σ w ((d0,iStr s)::fr) (a.put m.dst v1):=by
  have:=ha.put (d:=m.dst) hv1 (by rw[hmd];intro t ht;cases ht;simpa using hb0)
  rwa [hmd]at this⊢
 generalize a.put m.dst v1=a2 at ha2⊢;refine Dz hgg λK2 hK2=>?_;have hevs:a2.eval (.tmp d0)=.string s:=z0q ha2 (show Fr.ev ((d0,iStr s)::fr) (.tmp d0)=_ by simp[Fr.ev,Fr.get]);have hrun:(execOp a2.eval g).run P w=.ok (.value (.pointer (some ⟨w.heap.size,0,none⟩))) (w.iter s 0):=by
  simp[execOp,hgo,hevs,Ai,run_range_string w ty s hty]
 unfold Oper.wp;rw[hrun,D2];refine hK2 _ _ ?_;obtain⟨ha3,_⟩:=ha2.push (.stringIter s 0);have hfresh:=ha2.fresh;have ha4:All c ρ σ (w.iter s 0) ((d1,itv w.heap.size)::(d0,iStr s)::fr) (a2.put g.dst (.pointer (some ⟨w.heap.size,0,none⟩))):=by
  have:=ha3.put (d:=g.dst) (z3f (.pointer (some ⟨w.heap.size,0,none⟩))) (by rw[hgd];intro t ht;cases ht;simpa using hb1)
  rwa [hgd]at this⊢
 have hge:c.w.heap.size<=w.heap.size:=ha2.tr.size;generalize hb:w.heap.size=b0 at *
 generalize a2.put g.dst (.pointer (some ⟨b0,0,none⟩))=a4 at ha4⊢;show(Code.block _ _).wp P _ a4 (w.iter s 0);refine wp_block ?_;refine wp_loop (λa' w'=>∃k ρ' fr',All c ρ' σ w' ((d1,itv b0)::fr') a'/\I k fr'/\w'.heap[b0]?=some (.stringIter s k)/\∀j cc,ρ' j≠some (b0,cc)) (λ_ w'=>s.size-itPos w' b0) ⟨0,ρ,fr0,ha4.sub (hs0.cons),hI0,by rw[<- hb];exact World.iter_heap w s 0,λj cc hj=>by first|exact hfresh (.inr ⟨j,cc,hj⟩)|exact hfresh (by rw[hb];exact .inr ⟨j,cc,hj⟩)⟩ ?_;rintro a5 w5 ⟨k,ρ5,fr',ha5,hI,hit,hun⟩;refine wp_seq (G5 ?_);rw[h2];have hevp:a5.eval (.tmp d1)=.pointer (some ⟨b0,0,none⟩):=z0q ha5 (show Fr.ev ((d1,itv b0)::fr') (.tmp d1)=_ by simp[Fr.ev,Fr.get]);have hpos:itPos w5 b0=k:=by simp[itPos,hit]
 have hlt0:b0<w5.heap.size:=(Cf.1 hit).1
 by_cases hk:k<s.size
 ·have hrun5:(execOp a5.eval nx).run P w5=.ok (.value (.tuple #[.bool true,.int .i64 k,.int .i32 (Utf8.decode s k).1])) { w5 with heap:=w5.heap.setIfInBounds b0 (.stringIter s (k+(Utf8.decode s k).2)) }:=by
   simp[execOp,hno,hevp,Instr.next,getObj,setObj,Ai,Sem.run,hit,hk,goInt,Result.andThen]
  refine Dz hng λK3 hK3=>?_;unfold Oper.wp;rw[hrun5,D2];refine hK3 _ _ ?_;have ha6:=ha5.iterSet (k':=k+(Utf8.decode s k).2) hit (by rw[<- hb]at hge⊢;exact hge) hun;have htup:RepI c.F ρ5 σ { w5 with heap:=w5.heap.setIfInBounds b0 (.stringIter s (k+(Utf8.decode s k).2)) } (.tup [iBool true,iInt k,.pv (.val (.int .i32 (Utf8.decode s k).1))]) (.tuple #[.bool true,.int .i64 k,.int .i32 (Utf8.decode s k).1]):=y27 (z3f _) (z3f _) (z3f _);have ha7:All c ρ5 σ { w5 with heap:=w5.heap.setIfInBounds b0 (.stringIter s (k+(Utf8.decode s k).2)) } ((e1,.tup [iBool true,iInt k,.pv (.val (.int .i32 (Utf8.decode s k).1))])::(d1,itv b0)::fr') (a5.put nx.dst (.tuple #[.bool true,.int .i64 k,.int .i32 (Utf8.decode s k).1])):=by
   have:=ha6.put (d:=nx.dst) htup (by rw[hnd];intro t ht;cases ht;simpa using hb2)
   rwa [hnd]at this⊢
  generalize a5.put nx.dst (.tuple #[.bool true,.int .i64 k,.int .i32 (Utf8.decode s k).1])=a7 at ha7⊢;generalize hw7:({ w5 with heap:=w5.heap.setIfInBounds b0 (.stringIter s (k+(Utf8.decode s k).2)) }:World)=w7 at ha7⊢;have hit7:w7.heap[b0]?=some (.stringIter s (k+(Utf8.decode s k).2)):=by rw[<- hw7];simp[hlt0]
  refine Dz heg λK4 hK4=>?_;obtain⟨v8,hr8,hv8⟩:=(z67 (R1:=λ_=>True) (vs:=[iBool true,iInt k,.pv (.val (.int .i32 (Utf8.decode s k).1))]) (z:=iBool true) heo (show Fr.ev ((e1,_)::_) (.tmp e1)=_ by simp[Fr.ev,Fr.get]) rfl) ρ5 w7 a7 ha7;unfold Oper.wp;rw[hr8 w7 (.refl _ _ _ _),D2];refine hK4 _ _ ?_;have ha8:All c ρ5 σ w7 ((e2,iBool true)::(e1,.tup [iBool true,iInt k,.pv (.val (.int .i32 (Utf8.decode s k).1))])::(d1,itv b0)::fr') (a7.put ex.dst v8):=by
   have:=ha7.put (d:=ex.dst) hv8 (by rw[hed];intro t ht;cases ht;simpa using hb3)
   rwa [hed]at this⊢
  generalize a7.put ex.dst v8=a8 at ha8⊢;show(Code.seq _ _).wp P _ a8 w7;refine wp_seq ?_;refine wp_cond (t:=true) (z0q ha8 (show Fr.ev ((e2,iBool true)::_) (.tmp e2)=_ by simp[Fr.ev,Fr.get])) ?_;rw[if_pos rfl];refine wp_skip ?_;show rest.wp P _ a8 w7;refine Gc (round ρ5 w7 b0 k fr' hk hI ρ5 w7 a8 ha8.rebase) ?_;rintro e a9 w9 ⟨ρ9,σ9,fr9,ha9,hq⟩;have hlt7:b0<w7.heap.size:=(Cf.1 hit7).1
  cases e with
  |normal =>
   obtain⟨rfl,fr2,hsub,hI2⟩:=hq;have hit9:w9.heap[b0]?=some (.stringIter s (k+(Utf8.decode s k).2)):=(ha9.tr.blk b0 hlt7 λj cc hj=>absurd hj (hun j cc)).trans hit7;refine⟨⟨_,ρ9,fr2,(ha8.unbase ha9 hcσ).sub hsub,hI2,hit9,λj cc hj=>(ha9.tr.own j b0 cc hj hlt7).elim (hun j cc) λ⟨k0,c0,g,_⟩=>hun k0 c0 g⟩,?_⟩;have:=yp7 s k;rw[hpos];simp only[itPos,hit9]
   omega
  |exit id=>exact hq.elim
  |_=>exact⟨ρ9,σ9,fr9,ha8.unbase ha9 hcσ,hq⟩
 ·have hrun5:(execOp a5.eval nx).run P w5=.ok (.value (.tuple #[.bool false])) w5:=by
   simp[execOp,hno,hevp,Instr.next,getObj,Ai,Sem.run,hit,hk,Result.andThen]
  refine Dz hng λK3 hK3=>?_;unfold Oper.wp;rw[hrun5,D2];refine hK3 _ _ ?_;have htup:RepI c.F ρ5 σ w5 (.tup [iBool false]) (.tuple #[.bool false]):=.tup _ _ (λ_=>.bool false) rfl (λj x hj=>by
   match j,hj with
   |0,_=>rfl
   |j+1,hj=>simp at hj) λj x hj=>by
   match j,hj with
   |0,hj=>cases hj;exact z3f _
   |j+1,hj=>simp at hj
  have ha7:All c ρ5 σ w5 ((e1,.tup [iBool false])::(d1,itv b0)::fr') (a5.put nx.dst (.tuple #[.bool false])):=by
   have:=ha5.put (d:=nx.dst) htup (by rw[hnd];intro t ht;cases ht;simpa using hb2)
   rwa [hnd]at this⊢
  generalize a5.put nx.dst (.tuple #[.bool false])=a7 at ha7⊢;refine Dz heg λK4 hK4=>?_;obtain⟨v8,hr8,hv8⟩:=(z67 (R1:=λ_=>True) (vs:=[iBool false]) (z:=iBool false) heo (show Fr.ev ((e1,_)::_) (.tmp e1)=_ by simp[Fr.ev,Fr.get]) rfl) ρ5 w5 a7 ha7;unfold Oper.wp;rw[hr8 w5 (.refl _ _ _ _),D2];refine hK4 _ _ ?_;have ha8:All c ρ5 σ w5 ((e2,iBool false)::(e1,.tup [iBool false])::(d1,itv b0)::fr') (a7.put ex.dst v8):=by
   have:=ha7.put (d:=ex.dst) hv8 (by rw[hed];intro t ht;cases ht;simpa using hb3)
   rwa [hed]at this⊢
  generalize a7.put ex.dst v8=a8 at ha8⊢;show(Code.seq _ _).wp P _ a8 w5;refine wp_seq ?_;refine wp_cond (t:=false) (z0q ha8 (show Fr.ev ((e2,iBool false)::_) (.tmp e2)=_ by simp[Fr.ev,Fr.get])) ?_;rw[if_neg sI0];refine wp_exit ?_;show(if bid=bid then _ else _);rw[if_pos rfl];exact⟨ρ5,σ,_,ha8,hdone b0 k fr' oM0 hI⟩
end
section
variable {P:Program} {c:Cx} {R1:Nat->Prop} {o:Oper} {fr:Fr} {hp:Hp} {σ:Heap'} {Q:Exit->Fr->Heap'->Prop}
theorem y0o{t tn:TypeId}{x y:Operand}{k n by_:Nat}{s:RT}{z:Value}{kn:IntKind}(ho:o.op=.call { callee:=.builtin .append,args:=#[x,y],argTypes:=#[t,tn] })(hx:fr.ev x=some (.pv (.val (.slice none 0 0))))(hy:fr.ev y=some (iInt n))
 (ht:P.underlying t=some (.slice s.e)) (htn:P.underlying tn=some (.int kn)) (hz:((P.info? s.e).bind (·.zero))=some z) (hi:(P.info? s.e).map (λi=>(i.size,i.bytes))=some (s.n,by_)) (hzs:z.cells.size=s.n) (hs:0<s.n) (h0:0<n) (hm:n<=maxLen) (hb:n*by_<=140737488355328)
 (hσ:look hp k=none) (hc:c.σ k=none) (hfr:nmFr k fr=false) (hhp:nmHp k hp=false) :
 Ok P c o fr (look hp) (.sl k n) (look ((k,some (.row s (List.replicate n (z.cells.toList.map .val))))::hp)):=by
 intro ρ w a K Q h hK
 cases hq:P.info? s.e with
 |none=>simp[hq]at hi
 |some i =>
  have hsz:i.size=s.n:=by simp[hq]at hi;exact hi.1
  have hby:i.bytes=by_:=by simp[hq]at hi;exact hi.2
  have hiz:i.zero=some z:=by simpa[hq]using hz
  simp only[maxLen]at hm;have hr:=Lib.run_append_nil_zeros (P:=P) w t tn o.type s.e i z .i64 kn ht htn hq hiz n h0 oM0 oM0 (by rw[hby];omega);have hge:=G8 w n 0 s.e;have hcm:=Ep w n 0 s.e (by simp only[maxLen];omega);refine Lib.wp_append_run w x y t tn ho _ _ (z0q h hx) (z0q h hy) _ _ hr ?_;refine hK (z14 ρ k (some (w.heap.size,grownCap w n 0 s.e))) _ _ (h.drew.alloc hσ hc hfr hhp (grownCap w n 0 s.e) _ _ λ_ _=>?_) (.sl _ _ _ λs' els' h'=>?_)
  ·have hrow:∀q,q<n*s.n->(Builtin.zeroCells z.cells n++Builtin.zeroCells z.cells (grownCap w n 0 s.e-n))[q]?=some (z.cells[q%s.n]!):=λq hq=>by
    rw[Dr (by rw[F0,hzs];exact hq)];simp[Builtin.zeroCells,hzs,hq]
   refine .row s _ _ (λ_ j=>z.cells[j]!) (z2w _ _) ?_ (by simpa using hge) hcm (λel hel=>?_) (λi el hi j x hj=>?_) λi el hi j x hj=>?_
   ·simp only[Array.size_append,F0,hzs,<- D5]
    congr 1;omega
   ·rw[Cl hel];simp[hzs]
   ·have hel:=Cl (Ae hi);have hin:i<n:=by have:=(A6.1 hi).1;simpa using this
    subst hel;have hjs:j<s.n:=by have:=(A6.1 hj).1;simp[hzs]at this;exact this
    have hlt:i*s.n+j<n*s.n:=by
     have:(i+1)*s.n<=n*s.n:=Bw _ oM0;rw[D5]at this;omega
    rw[hrow _ hlt,F3,Nat.add_mul_mod_self_right,E7 hjs]
   ·have hel:=Cl (Ae hi);subst hel;simp only[Ba,A7,Be]at hj;obtain⟨v,hv,rfl⟩:=hj;have:z.cells[j]! = v:=by simp[getElem!_def,hv]
    rw[this];exact .val v
  ·rw[z17]at h';cases h'
   exact⟨by simp,λ_=>.inl ⟨w.heap.size,_,z0a,rfl⟩⟩
theorem All.toEmpty{ρ:Loc}{w:World}{a:Act}{k:Nat}{s:RT}{els:List (List PV)}{fr':Fr}(h:All c ρ (look hp) w fr a)(hk:look hp k=some (.row s els))(hc:c.σ k=none)(hs:Sub (look hp) fr fr')(hfr:nmFr k fr'=false)(hhp:nmHp k hp=false) :
 All c ρ (look ((k,some (.row s []))::hp)) w fr' a:=by
 have h:=h.sub hs;have hlk:∀j,j≠k->look ((k,some (.row s []))::hp) j=look hp j:=λj hj=>z1d (C4 hj);have hlk':look ((k,some (.row s []))::hp) k=some (.row s []):=z17;have hconv:∀x v,nm k x=false->RepI c.F ρ (look hp) w x v->RepI c.F ρ (look ((k,some (.row s []))::hp)) w x v:=λx v hx hr =>
  hr.conv (λ_ hb=>hb) λhn=>by
   have:=zl7 (hn.imp λj hj=>Bp λe=>hj λo ho=>⟨by rw[hlk j e]at ho;exact ho,rfl⟩);rw[this]at hx;cases hx
 refine⟨⟨h.rel.inj,h.rel.apart,h.rel.old,λj b cc hj=>?_,λj o h1 h2=>?_⟩,λt x hx=>?_,?_,h.df,h.sz,h.kk⟩
 ·obtain⟨o1,h1,h2⟩:=h.rel.obj j b cc hj
  by_cases e:j=k
  ·subst e;rw[hk]at h1;cases h1
   refine⟨_,hlk',?_⟩
   cases h2 with
   |row _ _ r u h hs hl hm hw hv hr=>exact .row s [] r u h hs (Ac _) hm (λ_ h=>by simp at h) (λi el hi=>by simp at hi) λi el hi=>by simp at hi
  ·refine⟨o1,(hlk j e).trans h1,?_⟩
   cases h2 with
   |box cs e' r u h hl hv hr=>exact .box cs e' r u h hl hv λi x hi=>hconv _ _ (z5b (z7k hhp h1) (Ae hi)) (hr i x hi)
   |row s' els' r u h hs hl hm hw hv hr=>exact .row s' els' r u h hs hl hm hw hv hr
   |map es r t u h hl hv hr=>exact .map es r t u h hl hv hr
 ·by_cases e:j=k
  ·subst e;rw[hlk']at h1;cases h1;exact⟨s,rfl⟩
  ·rw[hlk j e]at h1;exact h.rel.real j o h1 h2
 ·obtain⟨v,hv,hr⟩:=h.fr t x hx;exact⟨v,hv,hconv _ _ (zd8 hfr hx) hr⟩
 ·have t:=h.tr;refine⟨t.os,t.tape,t.output,t.size,t.blk,t.own,λj cs cs' e1 e2=>?_,λj cs cs' e1 e2=>?_,λj s1 s2 els els' e1 e2 hl=>?_,λj s1 s2 els els' e1 e2=>?_,λj cs' e2=>?_,λj cs' e2=>?_,λj s1 els' e2=>?_⟩
  all_goals by_cases e:j=k
  ·subst e;rw[hc]at e1;cases e1
  ·rw[hlk j e]at e2;exact t.box j _ _ e1 e2
  ·subst e;rw[hc]at e1;cases e1
  ·rw[hlk j e]at e2;exact t.map j _ _ e1 e2
  ·subst e;rw[hc]at e1;cases e1
  ·rw[hlk j e]at e2;exact t.row j _ _ _ _ e1 e2 hl
  ·subst e;rw[hc]at e1;cases e1
  ·rw[hlk j e]at e2;exact t.grow j _ _ _ _ e1 e2
  ·subst e;exact .inl hc
  ·rw[hlk j e]at e2;exact t.kindB j _ e2
  ·subst e;exact .inl hc
  ·rw[hlk j e]at e2;exact t.kindM j _ e2
  ·subst e;exact .inl hc
  ·rw[hlk j e]at e2;exact t.kindR j _ _ e2
theorem WL.sliceZero{ops:Array Oper}{l:List Oper}{d k n:Nat}{t:TypeId}{x y:Operand}{s:RT}{els:List (List PV)}{fr':Fr}(hg:o.guard=none)(hd:o.dst=some d)(hn:Nat.blt d c.n=true)(ho:o.op=.slice t x none (some y) none)(hx:fr.ev x=some (.sl k n))(hy:fr.ev y=some (iInt 0))
 (hk:look hp k=some (.row s els)) (hln:els.length=n) (hpos:0<n) (hc:c.σ k=none) (hu:P.underlying t=some (.slice s.e)) (hsz:(P.info? s.e).map (·.size)=some s.n) (hs:Sub (look hp) fr fr') (hfr:nmFr k fr'=false) (hhp:nmHp k hp=false)
 (h:WL P c ops Q l ((d,.sl k 0)::fr') (look ((k,some (.row s []))::hp))):WL P c ops Q (o::l) fr (look hp):=by
 intro ρ w a ha;refine Dz hg λK hK=>?_;rcases ha.row hx hk hln with⟨b,cc,r,u,hv,hρ,h3,h4,hcc,hcm,hwe,hcells,hu'⟩|⟨_,_,hnil⟩
 ·have hrun:(execOp a.eval o).run P w=.ok (.value (.slice (some ⟨b,0,none⟩) 0 cc)) w:=by
   have hso:=z12 hsz w;simp[execOp,ho,hv,z0q ha hy,Instr.sliceAt,Instr.slice,Ai,B6 hu,Instr.sliceBounds,Instr.sliceBound,asIntOf,hso];intro _;rfl
  unfold Oper.wp;rw[hrun,D2];refine hK _ _ (h ρ w _ ?_);have h5:=ha.toEmpty hk hc hs hfr hhp;have:=h5.put (d:=o.dst) (x:=.sl k 0) (v:=.slice (some ⟨b,0,none⟩) 0 cc) (.sl _ _ _ λs1 els1 h1=>by rw[z17]at h1;cases h1;exact⟨Ac _,λ_=>.inl ⟨b,cc,hρ,rfl⟩⟩) (by rw[hd];intro t ht;cases ht;simpa using hn)
  rwa [hd]at this⊢
 ·subst hnil;simp at hln;omega
theorem zq5{t e:TypeId}{x:Operand}(ho:o.op=.call { callee:=.builtin .cap,args:=#[x],argTypes:=#[t] })(hx:fr.ev x=some (.pv (.val (.slice none 0 0))))(hu:P.underlying t=some (.slice e)):OkV P c R1 o fr σ (iInt 0):=by
 intro ρ w a h;refine⟨.int .i64 0,λw2 _=>?_,z3f _⟩;simp[execOp,ho,z0q h hx,resolve,Ai,invoke,builtin,Builtin.cap_,B6 hu,goInt]
theorem y7p{t e:TypeId}{x y:Operand}{n:Nat}(ho:o.op=.slice t x none (some y) none)(hx:fr.ev x=some (.pv (.val (.slice none 0 0))))(hy:fr.ev y=some (iInt 0))(hu:P.underlying t=some (.slice e))(hs:(P.info? e).map (·.size)=some n):OkV P c R1 o fr σ (.pv (.val (.slice none 0 0))):=by
 intro ρ w a h;refine⟨.slice none 0 0,λw2 _=>?_,z3f _⟩;have hso:=z12 hs w2;simp[execOp,ho,z0q h hx,z0q h hy,Instr.sliceAt,Instr.slice,Ai,B6 hu,Instr.sliceBounds,Instr.sliceBound,asIntOf,hso]
theorem Sub.cons2{fr':Fr}{d:Nat}{x y:IV}(hx:∀F ρ w v,RepI F ρ σ w x v->RepI F ρ σ w y v)(h:Sub σ fr fr'):Sub σ ((d,x)::fr) ((d,y)::fr'):=by
 intro t z hz;simp only[Fr.get]at hz⊢
 cases hb:Nat.beq d t with
 |true=>rw[hb]at hz;cases hz;exact⟨_,rfl,hx⟩
 |false=>rw[hb]at hz;exact h t z hz
theorem Sub.rfl':Sub σ fr fr:=λ_ y hy=>⟨y,hy,λ_ _ _ _ h=>h⟩
theorem All.freezeCell{ρ:Loc}{w:World}{a:Act}{k k2 j n:Nat}{s:RT}{els:List (List PV)}{cs:List IV}(h:All c ρ (look hp) w fr a)(hk:look hp k=some (.row s els))(hn:els.length=n)(hk2:look hp k2=some (.box cs))(hj:cs[j]?=some (.sl k n))(hne:k≠k2) :
 All c (z14 ρ k none) (look ((k2,some (.box (cs.set j (.pv (.seq els)))))::(k,none)::hp)) w fr a:=by
 have h':=h.drop (k:=k);have hown:∀b,owned c.F (z14 ρ k none) b->owned c.F ρ b:=λb hb=>by
  rcases hb with hb|⟨i,cc,hi⟩
  ·exact .inl hb
  ·by_cases e:i=k
   ·subst e;rw[z0a]at hi;cases hi
   ·rw[z2t (C4 e)]at hi;exact .inr ⟨i,cc,hi⟩
 have hlk:∀i,i≠k2->look ((k2,some (.box (cs.set j (.pv (.seq els)))))::(k,none)::hp) i=look ((k,none)::hp) i:=λi hi=>z1d (C4 hi);have hlk2:look ((k2,some (.box (cs.set j (.pv (.seq els)))))::(k,none)::hp) k2=some (.box (cs.set j (.pv (.seq els)))):=z17;have hk2':look ((k,none)::hp) k2=some (.box cs):=ya7 hne hk2;have hnew:∀v,RepI c.F ρ (look hp) w (.sl k n) v->RepP (owned c.F (z14 ρ k none)) w (.seq els) v:=by
  intro v hv
  cases hv with
  |sl _ _ _ hv =>
   obtain⟨_,h2⟩:=hv s els hk;rcases h2 hn with⟨b,cc,hρ,rfl⟩|⟨_,hz,rfl⟩
   ·obtain⟨o1,h3,h4⟩:=h.rel.obj k b cc hρ;rw[hk]at h3;cases h3
    cases h4 with
    |row _ _ r u h3 hs hl hm hwe hcells hu =>
     rw[<- hn];refine .seq els _ cc b 0 u (λ_=>rfl) (λ_=>⟨λho=>?_,h.rel.lt hρ⟩) oM0 hm (λi el hi q x hq=>?_) λi el hi q x hq=>(hu i el hi q x hq).own hown
     ·rcases ho with ho|⟨i,cc',hi⟩
      ·exact h.rel.apart _ _ _ hρ ho
      ·by_cases e:i=k
       ·subst e;rw[z0a]at hi;cases hi
       ·rw[z2t (C4 e)]at hi;exact e (h.rel.inj _ _ _ _ _ hi hρ)
     ·rw[z4t h3,C0,hwe el (Ae hi)];exact hcells i el hi q x hq
   ·have hnil:els=[]:=Aw oM0;subst hnil;exact .seq [] none 0 0 0 (λ_ _=>undef) sI0 sI0 sI0 (by simp[maxLen]) sI0 sI0
 have hconv:∀x v,RepI c.F (z14 ρ k none) (look ((k,none)::hp)) w x v->RepI c.F (z14 ρ k none) (look ((k2,some (.box (cs.set j (.pv (.seq els)))))::(k,none)::hp)) w x v:=by
  intro x v hx
  induction hx with
  |pv p v hp=>exact .pv p v hp
  |ptr i off v hi =>
   refine .ptr i off v λcs' h2=>?_
   by_cases e:i=k2
   ·subst e;exact hi _ hk2'
   ·rw[hlk i e]at h2;exact hi _ h2
  |sl i len v hi =>
   refine .sl i len v λs' els' h2=>?_
   by_cases e:i=k2
   ·subst e;rw[hlk2]at h2;cases h2
   ·rw[hlk i e]at h2;exact hi _ _ h2
  |sp i n len v hi =>
   refine .sp i n len v λs' els' h2=>?_
   by_cases e:i=k2
   ·subst e;rw[hlk2]at h2;cases h2
   ·rw[hlk i e]at h2;exact hi _ _ h2
  |rpt i len off v hi =>
   refine .rpt i len off v λs' els' h2=>?_
   by_cases e:i=k2
   ·subst e;rw[hlk2]at h2;cases h2
   ·rw[hlk i e]at h2;exact hi _ _ h2
  |bs i n v hi =>
   refine .bs i n v λcs' h2=>?_
   by_cases e:i=k2
   ·subst e;exact hi _ hk2'
   ·rw[hlk i e]at h2;exact hi _ h2
  |mp i v hi =>
   refine .mp i v λes h2=>?_
   by_cases e:i=k2
   ·subst e;rw[hlk2]at h2;cases h2
   ·rw[hlk i e]at h2;exact hi _ h2
  |tnil i T v hi =>
   refine .tnil i T v λcs' h2=>?_
   by_cases e:i=k2
   ·subst e;exact hi _ hk2'
   ·rw[hlk i e]at h2;exact hi _ h2
  |agg cs vs u hl hv _ ih=>exact .agg cs vs u hl hv ih
  |tup cs vs u hl hv _ ih=>exact .tup cs vs u hl hv ih
  |fn f xs ys vs ws u t hl hv _ hl' hv' _ ih ih'=>exact .fn f xs ys vs ws u t hl hv ih hl' hv' ih'
 refine⟨⟨h'.rel.inj,h'.rel.apart,h'.rel.old,λi b cc hi=>?_,λi o h1 h2=>?_⟩,λt x hx=>?_,?_,h'.df,h'.sz,h.kk⟩
 ·obtain⟨o1,h1,h2⟩:=h'.rel.obj i b cc hi
  by_cases e:i=k2
  ·subst e;rw[hk2']at h1;cases h1
   refine⟨_,hlk2,?_⟩;have hρi:ρ i=some (b,cc):=by rwa [z2t hne]at hi
   obtain⟨o3,h3,h4⟩:=h.rel.obj i b cc hρi;rw[hk2]at h3;cases h3
   cases h2 with
   |box _ e' r u h5 hl hv hr =>
    cases h4 with
    |box _ e2 r2 u2 h6 hl2 hv2 hr2 =>
     rw[h5]at h6;cases h6
     refine .box _ e' r u h5 (by simpa using hl) (λq x hq=>?_) λq x hq=>?_
     ·by_cases eq:q=j
      ·subst eq;exact hv q _ hj
      ·rw[Bl (C4 eq)]at hq;exact hv q x hq
     ·by_cases eq:q=j
      ·subst eq;have hlt:q<cs.length:=(A6.1 hj).1;rw[Bm hlt]at hq;cases hq
       have e3:u q=u2 q:=by
        have a1:=hv q _ hj;have a2:=hv2 q _ hj;rw[a1]at a2;exact C7 a2
       rw[e3];exact .pv _ _ (hnew _ (hr2 q _ hj))
      ·rw[Bl (C4 eq)]at hq;exact hconv _ _ (hr q x hq)
  ·refine⟨o1,(hlk i e).trans h1,?_⟩
   cases h2 with
   |box cs' e' r u h hl hv hr=>exact .box cs' e' r u h hl hv λq x hq=>hconv _ _ (hr q x hq)
   |row s' els' r u h hs hl hm hw hv hr=>exact .row s' els' r u h hs hl hm hw hv hr
   |map es r t u h hl hv hr=>exact .map es r t u h hl hv hr
 ·by_cases e:i=k2
  ·subst e;rw[z2t hne]at h2;obtain⟨s',h3⟩:=h.rel.real i _ hk2 h2
   cases h3
  ·rw[hlk i e]at h1;exact h'.rel.real i o h1 h2
 ·obtain⟨v,hv,hr⟩:=h'.fr t x hx;exact⟨v,hv,hconv _ _ hr⟩
 ·have t:=h'.tr;refine⟨t.os,t.tape,t.output,t.size,t.blk,t.own,λi a1 a2 e1 e2=>?_,λi a1 a2 e1 e2=>?_,λi s1 s2 a1 a2 e1 e2 hl=>?_,λi s1 s2 a1 a2 e1 e2=>?_,λi a2 e2=>?_,λi a2 e2=>?_,λi s1 a2 e2=>?_⟩
  all_goals by_cases e:i=k2
  ·subst e;exact t.box i _ _ e1 hk2'
  ·rw[hlk i e]at e2;exact t.box i _ _ e1 e2
  ·subst e;rw[hlk2]at e2;cases e2
  ·rw[hlk i e]at e2;exact t.map i _ _ e1 e2
  ·subst e;rw[hlk2]at e2;cases e2
  ·rw[hlk i e]at e2;exact t.row i _ _ _ _ e1 e2 hl
  ·subst e;rw[hlk2]at e2;cases e2
  ·rw[hlk i e]at e2;exact t.grow i _ _ _ _ e1 e2
  ·subst e;exact t.kindB i _ hk2'
  ·rw[hlk i e]at e2;exact t.kindB i _ e2
  ·subst e;rw[hlk2]at e2;cases e2
  ·rw[hlk i e]at e2;exact t.kindM i _ e2
  ·subst e;rw[hlk2]at e2;cases e2
  ·rw[hlk i e]at e2;exact t.kindR i _ _ e2
theorem Tr.freezeCell{x:Code}{k k2 j n:Nat}{s:RT}{els:List (List PV)}{cs:List IV}(hk:look hp k=some (.row s els))(hn:els.length=n)(hk2:look hp k2=some (.box cs))(hj:cs[j]?=some (.sl k n))(hne:k≠k2)
 (h:Tr P c x fr (look ((k2,some (.box (cs.set j (.pv (.seq els)))))::(k,none)::hp)) Q):Tr P c x fr (look hp) Q:=λ_ w a ha=>h _ w a (ha.freezeCell hk hn hk2 hj hne)
theorem SC.sameR{f:FuncId}{args:List IV}{pre post:List (Nat×HO)}{R R':Nat->Prop}{r:IV}(h:SC P f args pre R r post)(hR:∀k,look (up pre) k≠none->R' k->R k):SC P f args pre R' r post:=by
 intro F ρ w vs hkept hrel hargs;refine(h F ρ w vs hkept hrel hargs).mono ?_;rintro e w' ⟨ρ',v,he,hv,hrel',t⟩;refine⟨ρ',v,he,hv,hrel',{ t with blk:=λb hb hall=>t.blk b hb λk cc hk=>hR k ?_ (hall k cc hk),own:=λk b cc hk hb=>(t.own k b cc hk hb).elim .inl λ⟨k0,c0,g,gn⟩=>.inr ⟨k0,c0,g,λr=>gn (hR k0 (by obtain⟨o,ho,_⟩:=hrel.obj _ _ _ g;rw[ho];simp) r)⟩ }⟩;obtain⟨o,ho,_⟩:=hrel.obj k b cc hk;rw[ho];simp
theorem Tr.growCell{x:Code}{k k2 j:Nat}{cs:List IV}(s:RT)(hk2:look hp k2=some (.box cs))(hj:cs[j]?=some (.pv (.val (.slice none 0 0))))(hσ:look hp k=none)(hc:c.σ k=none)(hfr:nmFr k fr=false)(hhp:nmHp k hp=false)
 (h:Tr P c x fr (look ((k2,some (.box (cs.set j (.sl k 0))))::(k,some (.row s []))::hp)) Q):Tr P c x fr (look hp) Q:=by
 intro ρ w a ha;obtain⟨hk,h'⟩:=ha.ghost hσ hc hfr hhp s;refine h ρ w a ?_;have hne:k≠k2:=λe=>by subst e;rw[hσ]at hk2;cases hk2
 have hk2':look ((k,some (.row s []))::hp) k2=some (.box cs):=ya7 hne hk2;have hlk:∀i,i≠k2->look ((k2,some (.box (cs.set j (.sl k 0))))::(k,some (.row s []))::hp) i=look ((k,some (.row s []))::hp) i:=λi hi=>z1d (C4 hi);have hlk2:look ((k2,some (.box (cs.set j (.sl k 0))))::(k,some (.row s []))::hp) k2=some (.box (cs.set j (.sl k 0))):=z17;have hconv:∀x v,RepI c.F ρ (look ((k,some (.row s []))::hp)) w x v->RepI c.F ρ (look ((k2,some (.box (cs.set j (.sl k 0))))::(k,some (.row s []))::hp)) w x v:=by
  intro x v hx
  induction hx with
  |pv p v hp=>exact .pv p v hp
  |ptr i off v hi =>
   refine .ptr i off v λcs' h2=>?_
   by_cases e:i=k2
   ·subst e;exact hi _ hk2'
   ·rw[hlk i e]at h2;exact hi _ h2
  |sl i len v hi =>
   refine .sl i len v λs' els' h2=>?_
   by_cases e:i=k2
   ·subst e;rw[hlk2]at h2;cases h2
   ·rw[hlk i e]at h2;exact hi _ _ h2
  |sp i n len v hi =>
   refine .sp i n len v λs' els' h2=>?_
   by_cases e:i=k2
   ·subst e;rw[hlk2]at h2;cases h2
   ·rw[hlk i e]at h2;exact hi _ _ h2
  |rpt i len off v hi =>
   refine .rpt i len off v λs' els' h2=>?_
   by_cases e:i=k2
   ·subst e;rw[hlk2]at h2;cases h2
   ·rw[hlk i e]at h2;exact hi _ _ h2
  |bs i n v hi =>
   refine .bs i n v λcs' h2=>?_
   by_cases e:i=k2
   ·subst e;exact hi _ hk2'
   ·rw[hlk i e]at h2;exact hi _ h2
  |mp i v hi =>
   refine .mp i v λes h2=>?_
   by_cases e:i=k2
   ·subst e;rw[hlk2]at h2;cases h2
   ·rw[hlk i e]at h2;exact hi _ h2
  |tnil i T v hi =>
   refine .tnil i T v λcs' h2=>?_
   by_cases e:i=k2
   ·subst e;exact hi _ hk2'
   ·rw[hlk i e]at h2;exact hi _ h2
  |agg cs vs u hl hv _ ih=>exact .agg cs vs u hl hv ih
  |tup cs vs u hl hv _ ih=>exact .tup cs vs u hl hv ih
  |fn f xs ys vs ws u t hl hv _ hl' hv' _ ih ih'=>exact .fn f xs ys vs ws u t hl hv ih hl' hv' ih'
 refine⟨⟨h'.rel.inj,h'.rel.apart,h'.rel.old,λi b cc hi=>?_,λi o h1 h2=>?_⟩,λt x hx=>?_,?_,h'.df,h'.sz,h'.kk⟩
 ·obtain⟨o1,h1,h2⟩:=h'.rel.obj i b cc hi
  by_cases e:i=k2
  ·subst e;rw[hk2']at h1;cases h1
   refine⟨_,hlk2,?_⟩
   cases h2 with
   |box _ e' r u h5 hl hv hr =>
    refine .box _ e' r u h5 (by simpa using hl) (λq x hq=>?_) λq x hq=>?_
    ·by_cases eq:q=j
     ·subst eq;exact hv q _ hj
     ·rw[Bl (C4 eq)]at hq;exact hv q x hq
    ·by_cases eq:q=j
     ·subst eq;have hlt:q<cs.length:=(A6.1 hj).1;rw[Bm hlt]at hq;cases hq
      have hnil:=(hr q _ hj).val;rw[hnil];refine .sl _ _ _ λs1 els1 h1=>?_;rw[hlk _ hne,z17]at h1
      cases h1
      exact⟨Ac _,λ_=>.inr ⟨hk,rfl,rfl⟩⟩
     ·rw[Bl (C4 eq)]at hq;exact hconv _ _ (hr q x hq)
  ·refine⟨o1,(hlk i e).trans h1,?_⟩
   cases h2 with
   |box cs' e' r u h hl hv hr=>exact .box cs' e' r u h hl hv λq x hq=>hconv _ _ (hr q x hq)
   |row s' els' r u h hs hl hm hw hv hr=>exact .row s' els' r u h hs hl hm hw hv hr
   |map es r t u h hl hv hr=>exact .map es r t u h hl hv hr
 ·by_cases e:i=k2
  ·subst e;obtain⟨s',h3⟩:=h'.rel.real i _ hk2' h2
   cases h3
  ·rw[hlk i e]at h1;exact h'.rel.real i o h1 h2
 ·obtain⟨v,hv,hr⟩:=h'.fr t x hx;exact⟨v,hv,hconv _ _ hr⟩
 ·have t:=h'.tr;refine⟨t.os,t.tape,t.output,t.size,t.blk,t.own,λi a1 a2 e1 e2=>?_,λi a1 a2 e1 e2=>?_,λi s1 s2 a1 a2 e1 e2 hl=>?_,λi s1 s2 a1 a2 e1 e2=>?_,λi a2 e2=>?_,λi a2 e2=>?_,λi s1 a2 e2=>?_⟩
  all_goals by_cases e:i=k2
  ·subst e;exact t.box i _ _ e1 hk2'
  ·rw[hlk i e]at e2;exact t.box i _ _ e1 e2
  ·subst e;rw[hlk2]at e2;cases e2
  ·rw[hlk i e]at e2;exact t.map i _ _ e1 e2
  ·subst e;rw[hlk2]at e2;cases e2
  ·rw[hlk i e]at e2;exact t.row i _ _ _ _ e1 e2 hl
  ·subst e;rw[hlk2]at e2;cases e2
  ·rw[hlk i e]at e2;exact t.grow i _ _ _ _ e1 e2
  ·subst e;exact t.kindB i _ hk2'
  ·rw[hlk i e]at e2;exact t.kindB i _ e2
  ·subst e;rw[hlk2]at e2;cases e2
  ·rw[hlk i e]at e2;exact t.kindM i _ e2
  ·subst e;rw[hlk2]at e2;cases e2
  ·rw[hlk i e]at e2;exact t.kindR i _ _ e2
theorem tup2_sub{F:Nat->Prop}{ρ:Loc}{w:World}{x x' y:IV}{v:Value}(hx:∀v,RepI F ρ σ w x v->RepI F ρ σ w x' v)(h:RepI F ρ σ w (.tup [x,y]) v):RepI F ρ σ w (.tup [x',y]) v:=by
 cases h with
 |tup _ vs u hl hv hr =>
  refine .tup _ vs u hl (λj z hj=>?_) λj z hj=>?_
  ·match j,hj with
   |0,_=>exact hv 0 x rfl
   |1,hj=>exact hv 1 y rfl
   |j+2,hj=>simp at hj
  ·match j,hj with
   |0,hj=>cases hj;exact hx _ (hr 0 x rfl)
   |1,hj=>cases hj;exact hr 1 y rfl
   |j+2,hj=>simp at hj
end
theorem tS46:(Tryz.prog.info? 46).map (·.size)=some 8:=by kernel_rfl
theorem tS165:(Tryz.prog.info? 165).map (·.size)=some 0:=by kernel_rfl
theorem tC46:(Tryz.prog.info? 46).map (λi=>(i.size,i.bytes))=some (8,136):=by kernel_rfl
theorem tZ46:((Tryz.prog.info? 46).bind (·.zero))=some (.agg #[.int .i64 (0),.int .i64 (0),.int .i64 (0),.string ⟨#[]⟩,.slice none 0 0,.slice none 0 0,.slice none 0 0,.slice none 0 0]):=by kernel_rfl
theorem tZ165:((Tryz.prog.info? 165).bind (·.zero))=some (.agg #[]):=by kernel_rfl
theorem ent119:z6e Tryz.prog 119:=⟨Tryz.f119,Tryz.func119,by kernel_rfl,by kernel_rfl⟩
theorem ent120:z6e Tryz.prog 120:=⟨Tryz.f120,Tryz.func120,by kernel_rfl,by kernel_rfl⟩
theorem ent121:z6e Tryz.prog 121:=⟨Tryz.f121,Tryz.func121,by kernel_rfl,by kernel_rfl⟩
theorem ent168:z6e Tryz.prog 168:=⟨Tryz.f168,Tryz.func168,by kernel_rfl,by kernel_rfl⟩
def rowI(l:List Int):HO:=.row ⟨3,1⟩ (l.map eInt)
def endv(e:Rend):PV:=.agg [vInt e.1,ints e.2]
theorem j37{v v':List Int}{x y:Int}(h:setV v x y=some v'):0<=x/\x.toNat<(v.map eInt).length/\v'=v.set x.toNat y:=by
 unfold setV at h;split at h
 ·rename_i hx;exact⟨hx.1,by simpa using hx.2,by cases h;rfl⟩
 ·cases h
theorem zl4{v v':List Int}{x:Int}{r n:List Int}(h:mSet v (x::r) n=some v'):∃y n' v1,n=y::n'/\setV v x y=some v1/\mSet v1 r n'=some v':=by
 cases n with
 |nil=>cases h
 |cons y n' =>
  simp only[mSet,Ao]at h;obtain⟨v1,h1,h2⟩:=h;exact⟨y,n',v1,rfl,h1,h2⟩
def r8op(x:Nd):Bool:=x.kind==3||x.kind==4
def r8num(x:Nd):Bool:=x.kind==1||x.kind==2
def yl2(x:Nd):Bool:=x.kind==5||x.kind==6||x.kind==7
def r8kn(x:Nd):Int:=if x.kind==11 then 1 else if x.kind==10 then 2 else 0
def z1n(x:Nd):Bool:=(r8op x||x.op==0)&&(r8num x||x.n==0)&&(yl2 x||x.name.toList==[])&&(x.kids.length:Int)==r8kn x&&(x.kind==11||(x.params.length:Int)==0)
def zf0(b:Bool):List PV:=[vBool b]
def zc4(tys seen:List Int)(v w:Int):Bool:=!(decide (v<0)||decide (v≥tys.length) || !seen.contains v||(w != 0&&(tys.getD v.toNat 0 != w)))
def z19(tys seen:List Int):List Int->List Int->Bool
 |v::r,w::ws=>zc4 tys seen v w&&z19 tys seen r ws
 |_,_=>true
def z07(tys seen l want:List Int):Bool:=(l.length:Int)==want.length&&z19 tys seen l want
def z99(tys:List Int)(set:List Bool)(v w:Int):Bool:=decide (v<0)||decide (v≥tys.length)||set.getD v.toNat false||(w != 0&&(tys.getD v.toNat 0 != w))
def z2h(tys:List Int):List Bool->List Int->List Int->Bool×List Bool
 |set,v::r,w::ws=>if z99 tys set v w then(false,set)else z2h tys (set.set v.toNat true) r ws
 |set,_,_=>(true,set)
def z1s(tys:List Int)(set:List Bool)(l want:List Int):Bool×List Bool :=
 if (l.length:Int)==want.length then z2h tys set l want else(false,set)
theorem zc3(tys:List Int):∀(l want:List Int)(set:List Bool),(z2h tys set l want).2.length=set.length
 |[],_,_=>by simp[z2h]
 |_::_,[],_=>by simp[z2h]
 |v::r,w::ws,set=>by
  simp only[z2h];split
  ·rfl
  ·rw[zc3 tys r ws];simp
theorem z74(tys:List Int)(set:List Bool)(l want:List Int):(z1s tys set l want).2.length=set.length:=by
 unfold z1s;split
 ·exact zc3 ..
 ·rfl
def zq9(tys:List Int)(v:Int):Bool:=decide (0<=v)&&decide (v<tys.length)
def r8of(tys l:List Int):List Int:=if l.all (zq9 tys)then l.map λv=>tys.getD v.toNat 0 else[]
structure Wh where
 If:Bool
 Loop:Bool
 Yield:List Int
 Next:List Int
 Left:List Int
abbrev whv(w:Wh):PV:=.agg [vBool w.If,vBool w.Loop,ints w.Yield,ints w.Next,ints w.Left]
def y4l(u:Un)(f:Fl)(n:Nat):List IV:=[.pv (arrs u.arrays),.pv (flws u.flows),iStr f.name,iInt f.ty,iInt f.params,.pv (ints f.types),.pv (z1p f.body),.sl 4 n]
def ckHp(u:Un)(f:Fl)(bt:TypeId)(set:List Bool):List (Nat×HO):=[(3,.box (y4l u f (set.map zf0).length)),(4,.row ⟨bt,1⟩ (set.map zf0))]
def z2y(op:Int):Bool:=decide (op≥20)&&decide (op<=28)
def z42(op:Int):Bool:=decide (op≥1)&&decide (op<=17)
def z0p(op:Int):Int×Int :=
 if op==18||op==19||op==22 then(2,2)else if op==16||op==17 then(0,2)
 else if decide (op≥12)&&decide (op<=15)then(1,2)else(1,1)
def andS(b:Bool)(set:List Bool)(r:Bool×List Bool):Bool×List Bool:=if b then r else(false,set)
def zc2(u:Un)(f:Fl)(set:List Bool)(x:Nd)(seen:List Int):Bool×List Bool :=
 if decide (z05 x.name u.flows 0≥0)=true then
  match u.flows[(z05 x.name u.flows 0).toNat]? with
  |some g=>andS (z07 f.types seen x.args (g.types.take g.params.toNat)) set (z1s f.types set x.outs [g.ty])
  |none=>(false,set)
 else(false,set)
def z1h(u:Un)(f:Fl)(set:List Bool)(x:Nd)(seen:List Int)(w:Wh):Bool×List Bool :=
 if x.kind==1 then andS (z07 f.types seen x.args []) set (z1s f.types set x.outs [1])
 else if x.kind==2 then andS ((x.n==0||x.n==1)&&z07 f.types seen x.args []) set (z1s f.types set x.outs [2])
 else if x.kind==3 then andS (z2y x.op&&z07 f.types seen x.args [(z0p x.op).1]) set (z1s f.types set x.outs [(z0p x.op).2])
 else if x.kind==4 then andS (z42 x.op&&z07 f.types seen x.args [(z0p x.op).1,(z0p x.op).1]&&f.types.getD (x.args.getD 0 0).toNat 0==f.types.getD (x.args.getD 1 0).toNat 0) set (z1s f.types set x.outs [(z0p x.op).2])
 else if x.kind==5 then andS (decide (z0h x.name u.arrays 0≥0)&&z07 f.types seen x.args [1]) set (z1s f.types set x.outs [1])
 else if x.kind==6 then(decide (z0h x.name u.arrays 0≥0)&&z07 f.types seen x.args [1,1]&&(x.outs.length:Int)==0,set)
 else if x.kind==7 then zc2 u f set x seen
 else if x.kind==8 then andS ((x.args.length:Int)==0) set (z1s f.types set x.outs [1])
 else if x.kind==9 then(z07 f.types seen x.args [1]&&(x.outs.length:Int)==0,set)
 else if x.kind==12 then(w.If&&z07 f.types seen x.args w.Yield&&(x.outs.length:Int)==0,set)
 else if x.kind==13 then(w.Loop&&z07 f.types seen x.args w.Next&&(x.outs.length:Int)==0,set)
 else if x.kind==14 then(w.Loop&&z07 f.types seen x.args w.Left&&(x.outs.length:Int)==0,set)
 else if x.kind==15 then(z07 f.types seen x.args [f.ty]&&(x.outs.length:Int)==0,set)
 else(false,set)
theorem zu8(name:ByteArray):∀(l:List Fl)(i:Int),z05 name l i ≠ -1->i≥0->i<=z05 name l i/\∃g,l[(z05 name l i-i).toNat]?=some g/\eqS g.name name=true
 |[],i,h,_=>absurd rfl h
 |g::r,i,h,h0=>by
  simp only[z05]at h⊢;split
  ·rename_i hq;exact⟨D7 _,g,by simp,hq⟩
  ·rename_i hq;rw[if_neg hq]at h;obtain⟨h1,g',h2,h3⟩:=zu8 name r (i+1) h oM0;refine⟨by omega,g',?_,h3⟩;rw[show(z05 name r (i+1)-i).toNat=(z05 name r (i+1)-(i+1)).toNat+1 by omega];simpa using h2
theorem ze0{name:ByteArray}{l:List Fl}(h:z05 name l 0≥0):∃g,l[(z05 name l 0).toNat]?=some g/\eqS g.name name=true:=by
 obtain⟨_,g,h2,h3⟩:=zu8 name l 0 oM0 oM0;exact⟨g,by simpa using h2,h3⟩
theorem zi5{tys seen:List Int}{v w:Int}(h:zc4 tys seen v w=true):0<=v/\v.toNat<tys.length:=by
 simp[zc4]at h;omega
theorem yc7{tys seen l:List Int}{t1 t2:Int}(h:z07 tys seen l [t1,t2]=true):∃a b,l=[a,b]/\0<=a/\a.toNat<tys.length/\0<=b/\b.toNat<tys.length:=by
 match l with
 |[]=>simp[z07]at h
 |[a]=>simp[z07]at h
 |[a,b] =>
  simp[z07,z19]at h;have h1:=zi5 h.1;have h2:=zi5 h.2
  exact⟨a,b,rfl,h1.1,h1.2,h2.1,h2.2⟩
 |a::b::c::r=>simp[z07]at h;omega
def andT(r:Bool×List Bool)(k:List Bool->Bool×List Bool):Bool×List Bool:=if r.1 then k r.2 else(false,r.2)
def ne(l:List Nd)(r:Bool×List Bool):Bool×List Bool:=if l.isEmpty then(false,r.2)else r
mutual
def ndW:Nd->Nat
 |.mk _ _ _ _ args outs params kids=>1+args.length+outs.length+params.length+kdW kids
def lsW:List Nd->Nat
 |[]=>0
 |x::r=>ndW x+lsW r
def kdW:List (List Nd)->Nat
 |[]=>0
 |l::r=>1+lsW l+kdW r
end
def zf8(f:Fl)(x:Nd)(set:List Bool):Bool×List Bool :=
 andS ((x.outs.length:Int)==0 || !z08 x) set (z1s f.types set x.outs (List.replicate x.outs.length 0))
mutual
def z4y(u:Un)(f:Fl)(deep:Int)(w:Wh)(seen:List Int)(set:List Bool):Nd->Bool×List Bool
 |.mk kind op n name args outs params kids =>
  if !z1n (.mk kind op n name args outs params kids)then(false,set)
  else if kind==10 then
   if z07 f.types seen args [2]then
    match kids with
    |a::b::_ =>
     andT (ne a (r8go u f (deep+1) ⟨true,w.Loop,r8of f.types outs,w.Next,w.Left⟩ seen set a)) λs1 =>
     andT (ne b (r8go u f (deep+1) ⟨true,w.Loop,r8of f.types outs,w.Next,w.Left⟩ seen s1 b)) λs2 =>
     zf8 f (.mk kind op n name args outs params kids) s2
    |_=>(false,set)
   else(false,set)
  else if kind==11 then
   if z07 f.types seen args (r8of f.types params)then
    andT (z1s f.types set params (List.replicate params.length 0)) λs1 =>
    match kids with
    |a::_ =>
     andT (ne a (r8go u f (deep+1) ⟨false,true,[],r8of f.types params,r8of f.types outs⟩ (seen++params) s1 a)) λs2 =>
     zf8 f (.mk kind op n name args outs params kids) s2
    |_=>(false,s1)
   else(false,set)
  else z1h u f set (.mk kind op n name args outs params kids) seen w
def r8go(u:Un)(f:Fl)(deep:Int)(w:Wh)(all:List Int)(set:List Bool):List Nd->Bool×List Bool
 |[]=>(true,set)
 |x::r =>
  if deep > 100 then(false,set)
  else andT (z4y u f deep w all set x) λs1 =>
   if z08 x != r.isEmpty then(false,s1)
   else r8go u f deep w (all++x.outs) s1 r
end
def z2o(u:Un)(f:Fl)(deep:Int)(w:Wh)(all:List Int)(set:List Bool)(l:List Nd):Bool×List Bool:=ne l (r8go u f deep w all set l)
theorem zy7{b:Bool}{set:List Bool}{r:Bool×List Bool}{n:Nat}(h1:set.length=n)(h2:r.2.length=n):(andS b set r).2.length=n:=by unfold andS;split<;>assumption
theorem z7b{r:Bool×List Bool}{k:List Bool->Bool×List Bool}{n:Nat}(h1:r.2.length=n)(h2:∀s,s.length=n->(k s).2.length=n):(andT r k).2.length=n:=by
 unfold andT;split
 ·exact h2 _ h1
 ·exact h1
theorem zl6{l:List Nd}{r:Bool×List Bool}{n:Nat}(h:r.2.length=n):(ne l r).2.length=n:=by unfold ne;split<;>exact h
theorem yq9{p:Prop}[Decidable p]{a b:Bool×List Bool}{n:Nat}(h1:a.2.length=n)(h2:b.2.length=n):(if p then a else b).2.length=n:=by split<;>assumption
theorem y13(u:Un)(f:Fl)(set:List Bool)(x:Nd)(seen:List Int)(w:Wh):(z1h u f set x seen w).2.length=set.length:=by
 have hS:∀b l t,(andS b set (z1s f.types set l t)).2.length=set.length:=λb l t=>zy7 rfl (z74 ..);unfold z1h zc2
 repeat' (first|exact hS _ _ _|exact rfl|refine yq9 ?_ ?_|split)
theorem zu9{f:Fl}{x:Nd}{set:List Bool}{n:Nat}(h:set.length=n):(zf8 f x set).2.length=n:=zy7 h ((z74 ..).trans h)
mutual
theorem z9b(u:Un)(f:Fl):∀(x:Nd)(deep:Int)(w:Wh)(seen:List Int)(set:List Bool),(z4y u f deep w seen set x).2.length=set.length
 |.mk kind op n name args outs params kids,deep,w,seen,set=>by
  unfold z4y;split
  ·rfl
  split
  ·split
   ·match kids with
    |[]=>rfl
    |[_]=>rfl
    |a::b::_ =>
     refine z7b (zl6 (z7p u f a ..)) λs hs=>z7b (zl6 ((z7p u f b ..).trans hs)) λs hs=>zu9 hs
   ·rfl
  split
  ·split
   ·refine z7b (z74 ..) λs hs=>?_
    match kids with
    |[]=>exact hs
    |a::_=>exact z7b (zl6 ((z7p u f a ..).trans hs)) λs hs=>zu9 hs
   ·rfl
  ·exact y13 ..
theorem z7p(u:Un)(f:Fl):∀(l:List Nd)(deep:Int)(w:Wh)(all:List Int)(set:List Bool),(r8go u f deep w all set l).2.length=set.length
 |[],_,_,_,_=>by simp[r8go]
 |x::r,deep,w,all,set=>by
  unfold r8go;split
  ·rfl
  ·refine z7b (z9b u f x ..) λs hs=>?_;split
   ·exact hs
   ·exact(z7p u f r ..).trans hs
end
theorem z9a(u:Un)(f:Fl)(deep:Int)(w:Wh)(all:List Int)(set:List Bool)(l:List Nd):(z2o u f deep w all set l).2.length=set.length:=zl6 (z7p ..)
theorem ck_lend{u:Un}{f:Fl}{bt:TypeId}{set set':List Bool}(h:set'.length=set.length):∀k ob,look (up (ckHp u f bt set')) k=some ob->y3k ob=true∨(k=3/\look (up (ckHp u f bt set)) k=some ob):=by
 intro k ob hk;have hm:=z1j hk;simp only[ckHp,Aj,Bs,Ez,Eg]at hm;rcases hm with⟨rfl,rfl⟩|⟨rfl,rfl⟩
 ·exact .inr ⟨rfl,by simp[ckHp,up,look,h]⟩
 ·refine .inl ?_;simp[y3k,zf0,j1b]
theorem zi2{x:Nd}(h:z1n x=true):(x.kids.length:Int)=r8kn x:=by
 simp only[z1n,A0,Av]at h;exact h.1.2
theorem z3v{x:Nd}(h:z1n x=true)(hk:x.kind=10):∃a b,x.kids=[a,b]:=by
 have:=zi2 h;simp[r8kn,hk]at this
 match hx:x.kids with
 |[]=>simp[hx]at this
 |[a]=>simp[hx]at this
 |[a,b]=>exact⟨a,b,rfl⟩
 |a::b::c::r=>simp[hx]at this;omega
theorem z25{x:Nd}(h:z1n x=true)(hk:x.kind=11):∃a,x.kids=[a]:=by
 have:=zi2 h;simp[r8kn,hk]at this
 match hx:x.kids with
 |[]=>simp[hx]at this
 |[a]=>exact⟨a,rfl⟩
 |a::b::r=>simp[hx]at this;omega
theorem zi3(u:Un)(f:Fl)(deep:Int)(w:Wh)(seen:List Int)(set:List Bool){x:Nd}(h:z1n x=false):z4y u f deep w seen set x=(false,set):=by
 cases x;unfold z4y;simp[h]
theorem y12(u:Un)(f:Fl)(deep:Int)(w:Wh)(seen:List Int)(set:List Bool){x:Nd}{a b:List Nd}(h:z1n x=true)(hk:x.kind=10)(hx:x.kids=[a,b]) :
 z4y u f deep w seen set x=if z07 f.types seen x.args [2]then
  andT (z2o u f (deep+1) ⟨true,w.Loop,r8of f.types x.outs,w.Next,w.Left⟩ seen set a) λs1 =>
  andT (z2o u f (deep+1) ⟨true,w.Loop,r8of f.types x.outs,w.Next,w.Left⟩ seen s1 b) λs2=>zf8 f x s2
  else(false,set):=by
 cases x;simp only[Nd.kind,Nd.kids,Nd.args,Nd.outs]at *;subst hk hx;unfold z4y;simp[h,z2o];rfl
theorem zi4(u:Un)(f:Fl)(deep:Int)(w:Wh)(seen:List Int)(set:List Bool){x:Nd}{a:List Nd}(h:z1n x=true)(hk:x.kind=11)(hx:x.kids=[a]) :
 z4y u f deep w seen set x=if z07 f.types seen x.args (r8of f.types x.params)then
  andT (z1s f.types set x.params (List.replicate x.params.length 0)) λs1 =>
  andT (z2o u f (deep+1) ⟨false,true,[],r8of f.types x.params,r8of f.types x.outs⟩ (seen++x.params) s1 a) λs2=>zf8 f x s2
  else(false,set):=by
 cases x;simp only[Nd.kind,Nd.kids,Nd.args,Nd.outs,Nd.params]at *;subst hk hx;unfold z4y;simp[h,z2o];rfl
theorem z9c(u:Un)(f:Fl)(deep:Int)(w:Wh)(seen:List Int)(set:List Bool){x:Nd}(h:z1n x=true)(h1:(x.kind==10)=false)(h2:(x.kind==11)=false) :
 z4y u f deep w seen set x=z1h u f set x seen w:=by
 cases x;simp only[Nd.kind]at *;unfold z4y;simp[h,h1,h2]
theorem z86(x:Nd):ndW x=1+x.args.length+x.outs.length+x.params.length+kdW x.kids:=by cases x;simp[ndW,Nd.args,Nd.outs,Nd.params,Nd.kids]
section
def z5w(s:Rs):Rs:={ s with cost:=w64 (s.cost+1) }
theorem zy2{v v':List Int}{x y:Int}(h:setV v x y=some v'):v'.length=v.length:=by
 rw[(j37 h).2.2,Dn]
theorem z3r:∀{l n v v':List Int},mSet v l n=some v'->v'.length=v.length
 |[],_,_,_,h=>by cases h;rfl
 |_::_,_,_,_,h=>by
  obtain⟨y,n',v1,rfl,h1,h2⟩:=zl4 h;rw[z3r h2,zy2 h1]
theorem y7e{rec:List Nd->List Int->Rs->Option Rres}{recLoop:Nd->List Int->List Int->Rs->Option Rres}{recSum:Nd->List Int->Rs->Option (Int×Rs)}{x:Nd}{a v:List Int}{s:Rs}{r:Rres}
 (hr:∀q v s r,rec q v s=some r->r.2.1.length=v.length) (hl:∀x v a s r,recLoop x v a s=some r->r.2.1.length=v.length) (h:z5n rec recLoop recSum x a v s=some r):r.2.1.length=v.length:=by
 unfold z5n at h;split at h
 ·simp only[Ao,A7]at h;obtain⟨o,_,v',h1,rfl⟩:=h;exact zy2 h1
 split at h
 ·cases h;rfl
 split at h
 ·simp only[Ao]at h;obtain⟨a0,_,q,_,r1,h1,h2⟩:=h;have h3:=hr _ _ _ _ h1;split at h2
  ·simp only[A7]at h2;obtain⟨v',h4,rfl⟩:=h2;exact(z3r h4).trans h3
  ·cases h2;exact h3
 split at h
 ·exact hl _ _ _ _ _ h
 ·simp only[Ao]at h;obtain⟨r1,h1,h2⟩:=h;split at h2
  ·simp only[Ao,A7]at h2;obtain⟨o,_,v',h4,rfl⟩:=h2;exact zy2 h4
  ·cases h2;rfl
theorem zh8(u:Un):∀d,(∀l v s r,z1u u d l v s=some r->r.2.1.length=v.length)/\∀x v a s r,z3j u d x v a s=some r->r.2.1.length=v.length
 |0=>⟨λ_ _ _ _ h=>by simp[z1u]at h,λ_ _ _ _ _ h=>by simp[z3j]at h⟩
 |d+1=>by
  obtain⟨i1,i2⟩:=zh8 u d;refine⟨λl v s r h=>?_,λx v a s r h=>?_⟩
  ·cases l with
   |nil=>simp only[z1u]at h;cases h;rfl
   |cons x l =>
    rw[z1u]at h;split at h
    ·cases h;rfl
    ·simp only[Ao]at h;obtain⟨a,_,r1,h1,h2⟩:=h;have h3:=y7e i1 i2 h1;split at h2
     ·cases h2;exact h3
     ·exact(i1 _ _ _ _ h2).trans h3
  ·rw[z3j]at h;simp only[Ao]at h;obtain⟨v1,hv1,q,_,r1,h1,h2⟩:=h;have h3:=(i1 _ _ _ _ h1).trans (z3r hv1);split at h2
   ·cases h2;exact h3
   split at h2
   ·simp only[A7]at h2;obtain⟨v',h4,rfl⟩:=h2;exact(z3r h4).trans h3
   ·exact(i2 _ _ _ _ _ h2).trans h3
theorem z6h{u:Un}{d:Nat}{l:List Nd}{v:List Int}{s:Rs}{r:Rres}(h:z1u u d l v s=some r):r.2.1.length=v.length:=(zh8 u d).1 _ _ _ _ h
theorem z4m{u:Un}{d:Nat}{x:Nd}{v a:List Int}{s:Rs}{r:Rres}(h:z3j u d x v a s=some r):∃d1 v2 q r1,d=d1+1/\mSet v x.params a=some v2/\x.kids[0]?=some q/\z1u u d1 q v2 s=some r1 /\
 (if z10 r1.2.2||r1.1.1==15 then some r1 else if r1.1.1==14 then(mSet r1.2.1 x.outs r1.1.2).map λv=>((0,[]),v,r1.2.2)else z3j u d1 x r1.2.1 r1.1.2 r1.2.2)=some r:=by
 cases d with
 |zero=>simp[z3j]at h
 |succ d =>
  rw[z3j]at h;simp only[Ao]at h;obtain⟨v2,h1,q,h2,r1,h3,h4⟩:=h;exact⟨d,v2,q,r1,rfl,h1,h2,h3,h4⟩
theorem z78{u:Un}{d:Nat}{x:Nd}{l:List Nd}{v:List Int}{s s2:Rs}{r:Rres}(hs2:(z98 s).2=s2)(h:z1u u d (x::l) v s=some r):∃d1,d=d1+1/\(((z98 s).1=false/\r=((0,[]),v,s2)) ∨
 ((z98 s).1=true/\∃a r1,mOf v x.args=some a/\z5n (z1u u d1) (z3j u d1) (mSum u d1) x a v s2=some r1/\(if z10 r1.2.2||r1.1.1 != 0 then some r1 else z1u u d1 l r1.2.1 r1.2.2)=some r)):=by
 cases d with
 |zero=>simp[z1u]at h
 |succ d =>
  refine⟨d,rfl,?_⟩;subst hs2;rw[z1u]at h;split at h
  ·rename_i s' e;cases h;exact .inl ⟨by rw[e],by rw[e]⟩
  ·rename_i s' e;simp only[Ao]at h;obtain⟨a,h1,r1,h2,h3⟩:=h;exact .inr ⟨by rw[e],a,r1,h1,by rw[e];exact h2,h3⟩
section
variable {rec:List Nd->List Int->Rs->Option Rres} {recLoop:Nd->List Int->List Int->Rs->Option Rres} {recSum:Nd->List Int->Rs->Option (Int×Rs)} {x:Nd} {a v:List Int} {s:Rs} {r:Rres}
theorem z6i(h:z5n rec recLoop recSum x a v s=some r)(hk:(x.kind==1||x.kind==2)=true):∃o v2,x.outs[0]?=some o/\setV v o x.n=some v2/\r=((0,[]),v2,s):=by
 unfold z5n at h;rw[if_pos hk]at h;simp only[Ao,A7]at h;obtain⟨o,h1,v2,h2,rfl⟩:=h;exact⟨o,v2,h1,h2,rfl⟩
theorem z3e(h:z5n rec recLoop recSum x a v s=some r)(hk:(x.kind==12||x.kind==13||x.kind==14||x.kind==15)=true):r=((x.kind,a),v,s):=by
 unfold z5n at h;rw[if_neg (by simp only[Bo,Av]at hk⊢;omega),if_pos hk]at h
 cases h;rfl
theorem zd5(h:z5n rec recLoop recSum x a v s=some r)(hk:(x.kind==10)=true):∃a0 q r1,a[0]?=some a0/\x.kids[if a0 != 0 then 0 else 1]?=some q/\rec q v s=some r1 /\
 (if !z10 r1.2.2&&r1.1.1==12 then(mSet r1.2.1 x.outs r1.1.2).map λv'=>((0,[]),v',r1.2.2)else some r1)=some r:=by
 unfold z5n at h;rw[if_neg (by simp only[Bo,Av]at hk⊢;omega),if_neg (by simp only[Bo,Av]at hk⊢;omega),if_pos hk]at h;simp only[Ao]at h;obtain⟨a0,h1,q,h2,r1,h3,h4⟩:=h;exact⟨a0,q,r1,h1,h2,h3,h4⟩
theorem z62(h:z5n rec recLoop recSum x a v s=some r)(hk:(x.kind==11)=true):recLoop x v a s=some r:=by
 unfold z5n at h;rw[if_neg (by simp only[Bo,Av]at hk⊢;omega),if_neg (by simp only[Bo,Av]at hk⊢;omega),if_neg (by simp only[Av]at hk⊢;omega),if_pos hk]at h;exact h
theorem z7f(h:z5n rec recLoop recSum x a v s=some r)(h1:(x.kind==1||x.kind==2)=false)(h2:(x.kind==12||x.kind==13||x.kind==14||x.kind==15)=false)(h3:(x.kind==10)=false)(h4:(x.kind==11)=false):∃r1,recSum x a s=some r1 /\
 (if !z10 r1.2&&decide (0<x.outs.length)then(x.outs[0]?).bind λo=>(setV v o r1.1).map λv'=>((0,[]),v',r1.2)else some ((0,[]),v,r1.2))=some r:=by
 unfold z5n at h;rw[h1,h2,h3,h4]at h;simp only[Ap,C3,Ao]at h;exact h
end
theorem z61{u:Un}{d:Nat}{k:Int}{a:List Int}{s:Rs}{r:Int×Rs}(h:z40 u d k a s=some r):∃d1 f r1,d=d1+1/\0<=k/\u.flows[k.toNat]?=some f/\a.length<=f.types.length/\f.types.length<=1073741824 /\
 z1u u d1 f.body (a++List.replicate (f.types.length-a.length) 0) s=some r1/\r=(if z10 r1.2.2 then 0 else r1.1.2.headD 0,r1.2.2):=by
 cases d with
 |zero=>simp[z40]at h
 |succ d =>
  rw[z40]at h;split at h
  ·rename_i hk;simp only[Ao]at h;obtain⟨f,hf,h⟩:=h;split at h
   ·rename_i hl;simp only[Ao]at h;obtain⟨r1,h1,h2⟩:=h;refine⟨d,f,r1,rfl,hk,hf,hl.1,hl.2,h1,?_⟩;split at h2<;>cases h2<;>simp_all
   ·cases h
  ·cases h
variable {u:Un} {d:Nat} {x:Nd} {a:List Int} {s:Rs} {r:Int×Rs}
theorem z85(h:mSum u d x a s=some r):∃d',d=d'+1:=by
 cases d with
 |zero=>simp[mSum]at h
 |succ d=>exact⟨d,rfl⟩
theorem zd6(h:mSum u (d+1) x a s=some r)(hk:(x.kind==3)=true):∃a0,a[0]?=some a0/\r=(mOne x.op a0,z5w s):=by
 simp only[mSum,hk,Ca,A7]at h;obtain⟨a0,h1,rfl⟩:=h;exact⟨a0,h1,rfl⟩
theorem zd7(h:mSum u (d+1) x a s=some r)(hk:(x.kind==4)=true):∃a0 a1,a[0]?=some a0/\a[1]?=some a1/\r=((mTwo x.op a0 a1).1,if (mTwo x.op a0 a1).2 then z5w s else { z5w s with st:=2 }):=by
 have h3:(x.kind==3)=false:=by have:=eq_of_beq hk;rw[this];rfl
 simp only[mSum,h3,hk,Ca,Ap,C3,A7,Ao]at h;obtain⟨a0,h1,a1,h2,rfl⟩:=h;exact⟨a0,a1,h1,h2,rfl⟩
theorem zb3(h:mSum u (d+1) x a s=some r)(hk:(x.kind==7)=true):z40 u d (z05 x.name u.flows 0) a (z5w s)=some r:=by
 have e:=eq_of_beq hk;simp only[mSum,e]at h;exact h
theorem z8q(h:mSum u (d+1) x a s=some r)(hk:(x.kind==9)=true):∃a0,a[0]?=some a0/\s.out.length<1073741824/\r=(0,{ z5w s with out:=s.out++[a0] }):=by
 have e:=eq_of_beq hk;simp only[mSum,e]at h;simp only[show((9:Int)==3)=false from rfl,show((9:Int)==4)=false from rfl,show((9:Int)==5)=false from rfl,show((9:Int)==6)=false from rfl,show((9:Int)==7)=false from rfl,show((9:Int)==9)=true from rfl,Ca,Ap,C3,Ao]at h;obtain⟨a0,h1,h2⟩:=h;split at h2
 ·rename_i h3;cases h2;exact⟨a0,h1,h3,rfl⟩
 ·cases h2
theorem zb5(h:mSum u (d+1) x a s=some r)(hk:(x.kind==8)=true):(s.ins=[]/\r=(0,{ z5w s with st:=4 }))∨∃y q,s.ins=y::q/\r=(y,{ z5w s with ins:=q }):=by
 have e:=eq_of_beq hk;simp only[mSum,e]at h;simp only[show((8:Int)==3)=false from rfl,show((8:Int)==4)=false from rfl,show((8:Int)==5)=false from rfl,show((8:Int)==6)=false from rfl,show((8:Int)==7)=false from rfl,show((8:Int)==9)=false from rfl,show((8:Int)==8)=true from rfl,Ca,Ap,C3]at h;split at h
 ·rename_i h1;cases h;exact .inl ⟨h1,rfl⟩
 ·rename_i y q h1;cases h;exact .inr ⟨y,q,h1,rfl⟩
theorem zb4(h:mSum u (d+1) x a s=some r)(h3:(x.kind==3)=false)(h4:(x.kind==4)=false)(h5:(x.kind==5)=false)(h6:(x.kind==6)=false)(h7:(x.kind==7)=false)(h9:(x.kind==9)=false)(h8:(x.kind==8)=false):r=(0,z5w s):=by
 simp only[mSum,h3,h4,h5,h6,h7,h8,h9,Ap,C3]at h
 cases h;rfl
end
def arI:List (List Int)->IV
 |[]=>.pv (.val (.slice none 0 0))
 |[_]=>.bs 1003 1
 |_::_::_=>.bs 1013 2
def arH:List (List Int)->List (Nat×HO)
 |[]=>[]
 |[r]=>[(1003,.box [.sl 1004 (r.map eInt).length]),(1004,rowI r)]
 |r::r2::_=>[(1013,.box [.sl 1004 (r.map eInt).length,.sl 1014 (r2.map eInt).length]),(1004,rowI r),(1014,rowI r2)]
def rBox(u:Un)(s:Rs):HO:=.box [.pv (arrs u.arrays),.pv (flws u.flows),.pv (ints s.ins),arI s.ar,iInt s.st,iInt s.code,.sl 1002 (s.out.map eInt).length,iInt s.cost,iInt s.fuel,iBool s.spent]
def rH(u:Un)(s:Rs):List (Nat×HO):=(1001,rBox u s)::(1002,rowI s.out)::arH s.ar
def rHV(u:Un)(s:Rs)(v:List Int):List (Nat×HO):=(1001,rBox u s)::(1002,rowI s.out)::(510,rowI v)::arH s.ar
theorem z3x:PSub (.agg [vInt 0,.val (.slice none 0 0)]) (endv (0,[])):=PSub.agg (ps:=[vInt 0,.val (.slice none 0 0)]) (qs:=[vInt 0,.seq []]) (And.intro (PSub.refl _) (And.intro PSub.nil trivial))
theorem z8n{v v':List Int}{o x:Int}(h:setV v o x=some v'):0<=o/\o.toNat<v.length/\v'=v.set o.toNat x:=by
 unfold setV at h;split at h
 ·rename_i h1;cases h;exact⟨h1.1,h1.2,rfl⟩
 ·cases h
theorem y3d{u:Un}{d:Nat}{v:List Int}{s:Rs}{r:Rres}(h:z1u u d [] v s=some r):r=((0,[]),v,s):=by
 cases d with
 |zero=>simp[z1u]at h
 |succ d=>simp only[z1u]at h;cases h;rfl
theorem y3c{s s':Rs}{k n:Int}(h:zb1 s k n=some (true,s')):s'=s/\0<=n/\0<=k/\∃row,s.ar[k.toNat]?=some row/\n<row.length:=by
 unfold zb1 at h;split at h
 ·cases h
 ·split at h
  ·obtain⟨row,h1,h2⟩:=Ao.1 h;split at h2
   ·cases h2
   ·cases h2
    exact⟨rfl,by omega,by omega,row,h1,by omega⟩
  ·cases h
theorem zl3{s:Rs}{k n:Int}{q:Bool×Rs}(h:zb1 s k n=some q):q.2.ar.length=s.ar.length:=by
 unfold zb1 at h;split at h
 ·cases h;rfl
 ·split at h
  ·obtain⟨row,h1,h2⟩:=Ao.1 h;split at h2<;>cases h2<;>rfl
  ·cases h
theorem two_ar{s:Rs}{k:Int}{row:List Int}(h1:s.ar.length<=2)(hk:0<=k)(h:s.ar[k.toNat]?=some row):(k=((0:Nat):Int)/\s.ar=[row])∨(k=((0:Nat):Int)/\∃r2,s.ar=[row,r2])∨(k=((1:Nat):Int)/\∃r1,s.ar=[r1,row]):=by
 have h2:=(A6.1 h).1
 match hs:s.ar,h,h1,h2 with
 |[],h,_,_=>cases h
 |[r],h,_,h2 =>
  have h3:k.toNat=0:=by simp at h2;omega
  rw[h3]at h;cases h
  exact .inl ⟨by omega,rfl⟩
 |[r,r2],h,_,h2 =>
  simp at h2;rcases(show k.toNat=0∨k.toNat=1 by omega)with h3|h3
  ·rw[h3]at h;cases h
   exact .inr (.inl ⟨by omega,r2,rfl⟩)
  ·rw[h3]at h;cases h
   exact .inr (.inr ⟨by omega,r,rfl⟩)
 |_::_::_::_,_,h1,_=>simp at h1
theorem z8p{u:Un}{d:Nat}{x:Nd}{a:List Int}{s:Rs}{r:Int×Rs}(h:mSum u (d+1) x a s=some r)(hk:x.kind=5):∃a0 b s',a[0]?=some a0/\zb1 (z5w s) (z0h x.name u.arrays 0) a0=some (b,s') /\
 ((b=false/\r=(0,s'))∨(b=true/\∃row y,(z5w s).ar[(z0h x.name u.arrays 0).toNat]?=some row/\row[a0.toNat]?=some y/\r=(y,z5w s))):=by
 simp only[mSum,hk,show((5:Int)==3)=false from rfl,show((5:Int)==4)=false from rfl,show((5:Int)==5)=true from rfl,Ca,Ap,C3,Ao]at h;obtain⟨a0,h1,⟨b,s'⟩,h2,h5⟩:=h;refine⟨a0,b,s',h1,h2,?_⟩
 cases b with
 |false=>exact .inl ⟨rfl,by simpa using h5.symm⟩
 |true =>
  simp only[Ca,Ao,A7]at h5;obtain⟨row,h6,y,h7,h8⟩:=h5;exact .inr ⟨rfl,row,y,h6,h7,h8.symm⟩
theorem z7h{u:Un}{d:Nat}{x:Nd}{a:List Int}{s:Rs}{r:Int×Rs}(h:mSum u (d+1) x a s=some r)(hk:x.kind=6):∃a0 b s',a[0]?=some a0/\zb1 (z5w s) (z0h x.name u.arrays 0) a0=some (b,s') /\
 ((b=false/\r=(0,s'))∨(b=true/\∃row y,(z5w s).ar[(z0h x.name u.arrays 0).toNat]?=some row/\a[1]?=some y/\r=(0,{ z5w s with ar:=(z5w s).ar.set (z0h x.name u.arrays 0).toNat (row.set a0.toNat y) }))):=by
 simp only[mSum,hk,show((6:Int)==3)=false from rfl,show((6:Int)==4)=false from rfl,show((6:Int)==5)=false from rfl,show((6:Int)==6)=true from rfl,Ca,Ap,C3,Ao]at h;obtain⟨a0,h1,⟨b,s'⟩,h2,h5⟩:=h;refine⟨a0,b,s',h1,h2,?_⟩
 cases b with
 |false=>exact .inl ⟨rfl,by simpa using h5.symm⟩
 |true =>
  simp only[Ca,Ao,A7]at h5;obtain⟨y,h6,row,h7,h8⟩:=h5;exact .inr ⟨rfl,row,y,h7,h6,h8.symm⟩
theorem ba_sz(s:ByteArray):s.data.toList.length=s.size:=rfl
theorem yx7(s:ByteArray):∀(n i:Nat)(acc:List UInt8),s.size-i=n->ByteArray.toList.loop s i acc=acc.reverse++s.data.toList.drop i
 |0,i,acc,h=>by
  rw[ByteArray.toList.loop];have:¬i<s.size:=by omega
  rw[if_neg this,Ad (by rw[ba_sz];omega)]
  simp
 |n+1,i,acc,h=>by
  rw[ByteArray.toList.loop];have hi:i<s.size:=by omega
  rw[if_pos hi,yx7 s n (i+1) _ oM0];have hi2:i<s.data.toList.length:=by rw[ba_sz];exact hi
  rw[D1 hi2];have hget:s.get! i=s.data.toList[i]:=by
   show s.data[i]! = _;rw[getElem!_pos s.data i hi];rfl
  simp[hget]
theorem z2e(s:ByteArray):s.toList=s.data.toList:=by
 rw[ByteArray.toList,yx7 s _ 0 [] rfl];simp
theorem zz1(s:ByteArray):s.toList.length=s.size:=by rw[z2e];rfl
theorem y2t{s:ByteArray}{i:Nat}(h:i<s.toList.length):s[i]?=some (s.toList[i]):=by
 have h2:i<s.size:=by rwa [zz1]at h
 rw[getElem?_pos s i h2]
 congr 1
 simp only[z2e];rfl
def z4l(n:Int):Bool:=(decide (n≥97)&&decide (n<=122))||(decide (n≥65)&&decide (n<=90))||n==95
def z3z(n:Int):Bool:=decide (n≥48)&&decide (n<=57)
def isLD(b:UInt8):Bool:=z4l b.toNat||z3z b.toNat
def z1i(s:ByteArray):Bool:=s.toList==ByteArray.toList ⟨#[105,110,116]⟩||s.toList==ByteArray.toList ⟨#[98,111,111,108]⟩||s.toList==ByteArray.toList ⟨#[105,102]⟩||s.toList==ByteArray.toList ⟨#[101,108,115,101]⟩||s.toList==ByteArray.toList ⟨#[119,104,105,108,101]⟩||s.toList==ByteArray.toList ⟨#[98,114,101,97,107]⟩||s.toList==ByteArray.toList ⟨#[99,111,110,116,105,110,117,101]⟩||s.toList==ByteArray.toList ⟨#[114,101,116,117,114,110]⟩||s.toList==ByteArray.toList ⟨#[112,114,105,110,116]⟩||s.toList==ByteArray.toList ⟨#[114,101,97,100]⟩||s.toList==ByteArray.toList ⟨#[116,114,117,101]⟩||s.toList==ByteArray.toList ⟨#[102,97,108,115,101]⟩||s.toList==ByteArray.toList ⟨#[105,56]⟩||s.toList==ByteArray.toList ⟨#[105,49,54]⟩||s.toList==ByteArray.toList ⟨#[105,51,50]⟩||s.toList==ByteArray.toList ⟨#[117,56]⟩||s.toList==ByteArray.toList ⟨#[117,49,54]⟩||s.toList==ByteArray.toList ⟨#[117,51,50]⟩
def z0k(s:ByteArray):Bool:=!(s.toList==[])&&decide ((s.size:Int)<=20)&&z4l (s.toList.headD 0).toNat && !z1i s&&s.toList.all isLD
mutual
def wtN:Nd->Nat
 |.mk _ _ _ name args outs params kids=>args.length+outs.length+params.length+name.size+wtK kids
def wtL:List Nd->Nat
 |[]=>0
 |x::r=>wtN x+wtL r
def wtK:List (List Nd)->Nat
 |[]=>0
 |l::r=>1+(l.length+wtL l)+wtK r
end
def z1b(l:List Nd):Nat:=l.length+wtL l
def wtA:List Ar->Nat
 |[]=>0
 |a::r=>a.name.size+wtA r
def wtF:List Fl->Nat
 |[]=>0
 |f::r=>f.name.size+f.types.length+z1b f.body+wtF r
def z0i(u:Un):Nat:=u.arrays.length+u.flows.length+wtA u.arrays+wtF u.flows
def z0t:ByteArray:=⟨#[109,97,105,110]⟩
def gArr(u:Un)(a:Ar)(i:Int):Bool:=z0k a.name && !decide (a.size<1) && !decide (a.size > 1000)&&(z0h a.name u.arrays 0==i) && !decide (z05 a.name u.flows 0≥0)
def r8gA(u:Un):List Ar->Int->Bool
 |[],_=>true
 |a::r,i=>gArr u a i&&r8gA u r (i+1)
def gFlw(u:Un)(f:Fl)(i:Int):Bool:=z0k f.name&&(z05 f.name u.flows 0==i)&&(f.ty==1||f.ty==2) && !decide (f.params<0) && !decide (f.params > f.types.length)
def r8gF(u:Un):List Fl->Int->Bool
 |[],_=>true
 |f::r,i=>gFlw u f i&&r8gF u r (i+1)
def y6w:Fl:=⟨⟨#[]⟩,0,0,[],[]⟩
def z9w(u:Un):Bool:=decide (z05 z0t u.flows 0≥0)&&(u.flows.getD (z05 z0t u.flows 0).toNat y6w).ty==1&&(u.flows.getD (z05 z0t u.flows 0).toNat y6w).params==0
def z1f(u:Un):Bool:=r8gA u u.arrays 0&&r8gF u u.flows 0&&z9w u
theorem zq8(name:ByteArray):∀(l:List Fl)(i:Int),0<=i->z05 name l i≥0->∃k:Nat,z05 name l i=i+k/\k<l.length
 |[],i,_,h=>by simp[z05]at h
 |f::r,i,hi,h=>by
  unfold z05 at h⊢;split
  ·exact⟨0,by simp,by simp⟩
  ·rename_i hne;rw[if_neg hne]at h;obtain⟨k,h1,h2⟩:=zq8 name r (i+1) oM0 h;exact⟨k+1,by omega,by simpa using h2⟩
theorem yl1{u:Un}:∀{l:List Fl}{i:Int},r8gF u l i=true->∀g∈l,0<=g.params/\g.params<=g.types.length
 |[],_,_,g,hg=>by simp at hg
 |f::r,i,h,g,hg=>by
  simp only[r8gF,A0]at h;rcases Aj.1 hg with rfl|hg
  ·have:=h.1;simp only[gFlw,A0,Bg,C8]at this;omega
  ·exact yl1 h.2 g hg
theorem z55{u:Un}(h:z1f u=true):∀g∈u.flows,0<=g.params/\g.params<=g.types.length:=by
 simp only[z1f,A0]at h;exact yl1 h.1.2
def z39:Wh:=⟨false,false,[],[],[]⟩
def iota(n:Nat):List Int:=(List.range n).map λ(i:Nat)=>(i:Int)
def z5g(k n:Nat):List Bool:=List.replicate k true++List.replicate (n-k) false
def z5x(u:Un)(f:Fl):Bool:=!decide (f.params<0) && !decide (f.params > 8) && !decide (f.params > f.types.length) && !decide ((f.types.length:Int) > 20000)&&f.types.all (λt=>t==1||t==2) &&
 (z2o u f 1 z39 (iota f.params.toNat) (z5g f.params.toNat f.types.length) f.body).1
theorem j0g(n:Nat):iota n++[(n:Int)]=iota (n+1):=by simp[iota,List.range_succ]
theorem y0c(n:Nat):(iota n).length=n:=by simp[iota]
theorem z3p{k n:Nat}(h:k<=n):(z5g k n).length=n:=by simp[z5g];omega
theorem yq0{k n:Nat}(h:k<n):(z5g k n).set k true=z5g (k+1) n:=by
 unfold z5g;rw[Db _ _ sI0,Eb,Nat.sub_self];have:n-k=(n-(k+1))+1:=by omega
 rw[this,Fb,Fh,List.replicate_succ',C9];rfl
def z5p(u:Un):List Fl->Int->Int×Int
 |[],_=>(0,0)
 |f::r,i=>if z5x u f then z5p u r (i+1)else(80,i)
def z1e(u:Un):Int×Int:=if z1f u then z5p u u.flows 0 else(1,0)
mutual
theorem ndW_le:∀x:Nd,ndW x<=1+wtN x
 |.mk k o n s a t p ks=>by
  have:=kdW_le ks;simp only[ndW,wtN];omega
theorem y7c:∀l:List Nd,lsW l<=l.length+wtL l
 |[]=>by simp[lsW]
 |x::r=>by
  have h1:=ndW_le x;have h2:=y7c r;simp only[lsW,wtL,A1];omega
theorem kdW_le:∀l:List (List Nd),kdW l<=wtK l
 |[]=>by simp[kdW]
 |x::r=>by
  have h1:=y7c x;have h2:=kdW_le r;simp only[kdW,wtK];omega
end
theorem yh3:∀{l:List Fl}{f:Fl},f∈l->z1b f.body<=wtF l
 |g::r,f,h=>by
  rcases Aj.1 h with rfl|h
  ·simp only[wtF];omega
  ·have:=yh3 h;simp only[wtF];omega
def idxP{α:Type}(p:α -> Bool):List α -> Int->Int
 |[],_=>-1
 |x::r,i=>if p x then i else idxP p r (i+1)
theorem z5k{α:Type}(p:α -> Bool):∀(l:List α)(i:Int),0<=i->decide (idxP p l i≥0)=l.any p
 |[],_,_=>rfl
 |x::r,i,hi=>by
  unfold idxP
  cases hx:p x with
  |true=>simp[hx,hi]
  |false=>simp[hx,z5k p r (i+1) oM0]
def eqGo{S:Type}(p:S->Int->Int->Bool×S):S->List Int->List Int->Bool×S
 |s,x::a,y::b=>if (p s x y).1 then eqGo p (p s x y).2 a b else(false,(p s x y).2)
 |s,_,_=>(true,s)
def eqf{S:Type}(p:S->Int->Int->Bool×S)(s:S)(a b:List Int):Bool×S:=if (a.length:Int)=b.length then eqGo p s a b else(false,s)
theorem zu7:∀l:List Nd,z0b l=l.any z2u
 |[]=>rfl
 |x::r=>by simp[z0b,zu7 r]
theorem zm0:∀l:List (List Nd),z38 l=l.any z0b
 |[]=>rfl
 |x::r=>by simp[z38,zm0 r]
def z8b(l:List Nd):Bool:=match l.getLast? with
 |some x=>x.kind==12
 |none=>false
theorem y20(l:List Nd):(z2n l != 12) = !z8b l:=by
 unfold z2n z8b
 cases l.getLast? with
 |none=>rfl
 |some x =>
  simp only[z0v]
  by_cases h:x.kind=12
  ·simp[h]
  ·have hb:(x.kind==12)=false:=by simpa using h
   by_cases h2:(decide (x.kind≥12)&&decide (x.kind<=15))=true
   ·simp only[h2,Ca,bne,hb]
   ·simp[h2,h]
theorem y38(name:ByteArray):∀(l:List Fl)(i:Int),idxP (λf:Fl=>f.name.toList==name.toList) l i=z05 name l i
 |[],_=>rfl
 |f::r,i=>by
  unfold idxP z05 eqS;rw[y38 name r]
theorem y11(name:ByteArray):∀(l:List Ar)(i:Int),0<=i->decide (z0h name l i≥0)=l.any (λa:Ar=>a.name.toList==name.toList)
 |[],_,_=>rfl
 |f::r,i,hi=>by
  have ih:=y11 name r (i+1) oM0;rw[G9,<- ih];rw[show z0h name (f::r) i=if (f.name.toList==name.toList)=true then i else z0h name r (i+1)from rfl]
  by_cases h:(f.name.toList==name.toList)=true
  ·rw[if_pos h,h];simp[hi]
  ·rw[if_neg h,(by simpa using h:(f.name.toList==name.toList)=false)];simp
def isTy(t:Int):Bool:=t==1||t==2
def z3a(op:Int):Int×Int :=
 if op==22 then(2,2)else if op==16||op==17 then(0,2)else if decide (op≥12)&&decide (op<=15)then(1,2)else(1,1)
def wSigns:List ByteArray:=[⟨#[]⟩,⟨#[43]⟩,⟨#[45]⟩,⟨#[42]⟩,⟨#[47]⟩,⟨#[37]⟩,⟨#[38]⟩,⟨#[124]⟩,⟨#[94]⟩,⟨#[60,60]⟩,⟨#[62,62]⟩,⟨#[62,62,62]⟩,⟨#[60]⟩,⟨#[60,61]⟩,⟨#[62]⟩,⟨#[62,61]⟩,⟨#[61,61]⟩,⟨#[33,61]⟩,⟨#[38,38]⟩,⟨#[124,124]⟩,⟨#[45]⟩,⟨#[126]⟩,⟨#[33]⟩,⟨#[105,56]⟩,⟨#[105,49,54]⟩,⟨#[105,51,50]⟩,⟨#[117,56]⟩,⟨#[117,49,54]⟩,⟨#[117,51,50]⟩]
def zo4(op:Int):ByteArray:=if op<0||op≥29 then⟨#[]⟩else wSigns.getD op.toNat ⟨#[]⟩
def levelTab:List Int:=[0,9,9,10,10,10,5,3,4,8,8,8,7,7,7,7,6,6,2,1,0,0,0,0,0,0,0,0,0]
def z4k(op:Int):Int:=if op<0||op≥29 then 0 else levelTab.getD op.toNat 0
theorem yx9{op:Int}(h0:0<=op)(h1:op<29):op=0∨op=1∨op=2∨op=3∨op=4∨op=5∨op=6∨op=7∨op=8∨op=9∨op=10∨op=11∨op=12∨op=13∨op=14∨op=15∨op=16∨op=17∨op=18∨op=19∨op=20∨op=21∨op=22∨op=23∨op=24∨op=25∨op=26∨op=27∨op=28:=by omega
def ckS(u:Un)(f:Fl)(it:TypeId)(st:List Int):List (Nat×HO):=[(3,.box (y4l u f (st.map eInt).length)),(4,.row ⟨it,1⟩ (st.map eInt))]
def z9n(tys:List Int)(v t:Int):Bool:=decide (0<=v)&&decide (v<tys.length)&&(t==0||tys.getD v.toNat 0==t)
def zs3(tys:List Int)(st:List Int)(v t:Int):Bool×List Int:=(z9n tys v t&&st.getD v.toNat 0==1,st)
def z5u(tys:List Int)(st:List Int)(v t:Int):Bool×List Int:=if z9n tys v t&&st.getD v.toNat 0==0 then(true,st.set v.toNat 1)else(false,st)
def z0w(tys st l want:List Int):Bool:=(eqf (zs3 tys) st l want).1
def z1o(tys st l want:List Int):Bool×List Int:=eqf (z5u tys) st l want
def z3l(st l:List Int):List Int:=l.foldl (λs v=>s.set v.toNat 2) st
theorem z9m(tys st:List Int)(v t:Int):(z5u tys st v t).2.length=st.length:=by
 unfold z5u;split<;>simp
theorem zg6(tys:List Int):∀(a b st:List Int),(eqGo (z5u tys) st a b).2.length=st.length
 |[],_,st=>by simp[eqGo]
 |_::_,[],st=>by simp[eqGo]
 |x::a,y::b,st=>by
  simp only[eqGo];split
  ·rw[zg6 tys a b,z9m]
  ·exact z9m ..
theorem z2c(tys st a b:List Int):(z1o tys st a b).2.length=st.length:=by
 unfold z1o eqf;split
 ·exact zg6 ..
 ·rfl
theorem z4s:∀(l st:List Int),(z3l st l).length=st.length
 |[],st=>rfl
 |v::r,st=>by
  have:=z4s r (st.set v.toNat 2);simpa[z3l]using this
theorem y4a(tys:List Int):∀(a b st:List Int),a.length=b.length->(eqGo (z5u tys) st a b).1=true->∀v∈a,0<=v/\v<tys.length
 |[],_,st,_,_,v,hv=>by simp at hv
 |_::_,[],_,hl,_,_,_=>by simp at hl
 |x::a,y::b,st,hl,h,v,hv=>by
  simp only[eqGo]at h;split at h
  ·rename_i h1;rcases Aj.1 hv with rfl|hv
   ·unfold z5u at h1;split at h1
    ·rename_i h2;simp only[z9n,A0,Bj]at h2;exact⟨h2.1.1.1,h2.1.1.2⟩
    ·cases h1
   ·exact y4a tys a b _ (by simpa using hl) h v hv
  ·cases h
theorem y1x{tys st a b:List Int}(h:(z1o tys st a b).1=true):∀v∈a,0<=v/\v<tys.length:=by
 unfold z1o eqf at h;split at h
 ·exact y4a tys a b st oM0 h
 ·cases h
def ckSp(u:Un)(f:Fl)(it:TypeId)(q:Nat)(st:List Int):List (Nat×HO):=(q,.box [.ptr 3 0])::ckS u f it st
def andP{S:Type}(b:Bool)(s:S)(r:Bool×S):Bool×S:=if b then r else(false,s)
def andQ{S:Type}(r:Bool×S)(k:S->Bool×S):Bool×S:=if r.1 then k r.2 else(false,r.2)
theorem yv9{tys st a b:List Int}(h:z0w tys st a b=true):a.length=b.length:=by
 unfold z0w eqf at h;split at h
 ·omega
 ·cases h
theorem yw0{tys st l:List Int}{t:Int}(h:z0w tys st l [t,t]=true):∃a b,l=[a,b]/\a=(a.toNat:Int)/\a.toNat<tys.length/\b=(b.toNat:Int)/\b.toNat<tys.length:=by
 have hl:=yv9 h
 match l,hl with
 |[a,b],_ =>
  unfold z0w eqf at h;simp only[A1,A5,Ca,eqGo]at h;split at h
  ·rename_i h1;split at h
   ·rename_i h2;simp only[zs3,z9n,A0,Bj]at h1 h2;exact⟨a,b,rfl,by omega,by omega,by omega,by omega⟩
   ·cases h
  ·cases h
def y8u(f:Fl)(st:List Int)(x:Nd):Bool×List Int :=
 if x.kind==3 then andP (z2y x.op&&z0w f.types st x.args [(z3a x.op).1]) st (z1o f.types st x.outs [(z3a x.op).2])
 else andP (decide (z4k x.op > 0)&&decide (x.op<=17)&&z0w f.types st x.args [(z3a x.op).1,(z3a x.op).1]&&f.types.getD (x.args.getD 0 0).toNat 0==f.types.getD (x.args.getD 1 0).toNat 0) st (z1o f.types st x.outs [(z3a x.op).2])
def y8r(f:Fl)(st:List Int)(x:Nd)(w:Wh):Bool :=
 if x.kind==12 then(x.outs.length:Int)==0&&w.If&&z0w f.types st x.args w.Yield
 else if x.kind==13 then(x.outs.length:Int)==0&&w.Loop&&z0w f.types st x.args w.Next
 else if x.kind==14 then(x.outs.length:Int)==0&&w.Loop&&z0w f.types st x.args w.Left
 else(x.outs.length:Int)==0&&z0w f.types st x.args [f.ty]
def zv7(u:Un)(f:Fl)(st:List Int)(x:Nd):Bool×List Int :=
 if z05 x.name u.flows 0<0 then(false,st)else
  match u.flows[(z05 x.name u.flows 0).toNat]? with
  |some g=>andP (z0w f.types st x.args (g.types.take g.params.toNat)) st (z1o f.types st x.outs [g.ty])
  |none=>(false,st)
def z2j(u:Un)(f:Fl)(st:List Int)(x:Nd):Bool×List Int :=
 if x.kind==1 then andP (z0w f.types st x.args []) st (z1o f.types st x.outs [1])
 else if x.kind==2 then andP ((x.n==0||x.n==1)&&z0w f.types st x.args []) st (z1o f.types st x.outs [2])
 else if x.kind==3||x.kind==4 then y8u f st x
 else if x.kind==5 then andP (decide (z0h x.name u.arrays 0≥0)&&z0w f.types st x.args [1]) st (z1o f.types st x.outs [1])
 else if x.kind==6 then andP (decide (z0h x.name u.arrays 0≥0)&&z0w f.types st x.args [1,1]) st (z1o f.types st x.outs [])
 else if x.kind==8 then andP (z0w f.types st x.args []) st (z1o f.types st x.outs [1])
 else if x.kind==9 then andP (z0w f.types st x.args [1]) st (z1o f.types st x.outs [])
 else if x.kind==7 then zv7 u f st x
 else(false,st)
theorem z92{b:Bool}{st:List Int}{r:Bool×List Int}(h:r.2.length=st.length):(andP b st r).2.length=st.length:=by
 unfold andP;split
 ·exact h
 ·rfl
theorem y8v(f:Fl)(st:List Int)(x:Nd):(y8u f st x).2.length=st.length:=by
 unfold y8u;split<;>exact z92 (z2c ..)
theorem y69(u:Un)(f:Fl)(st:List Int)(x:Nd):(zv7 u f st x).2.length=st.length:=by
 unfold zv7;split
 ·rfl
 ·split
  ·exact z92 (z2c ..)
  ·rfl
theorem y1y(u:Un)(f:Fl)(st:List Int)(x:Nd):(z2j u f st x).2.length=st.length:=by
 unfold z2j
 repeat' split
 all_goals first
  |exact z92 (z2c ..)
  |exact y8v ..
  |exact y69 ..
  |rfl
def z4h(f:Fl)(x:Nd)(st:List Int):Bool×List Int:=andP ((x.outs.length:Int)==0 || !z08 x) st (z1o f.types st x.outs (List.replicate x.outs.length 0))
def z4g(st:List Int)(l:List Nd):List Int:=l.foldl (λs x=>z3l s x.outs) st
def y8s(l:List Nd)(s:List Int):Bool×List Int:=(decide ((l.length:Int) > 0),z4g s l)
mutual
def z5y(u:Un)(f:Fl)(deep:Int)(w:Wh)(st:List Int):Nd->Bool×List Int
 |.mk kind op n name args outs params kids =>
  if !z1n (.mk kind op n name args outs params kids)then(false,st)
  else if kind==10 then
   match kids with
   |a::b::_ =>
    if z0w f.types st args [2]then
     andQ (andQ (shGo u f (deep+1) ⟨true,w.Loop,r8of f.types outs,w.Next,w.Left⟩ st a) (y8s a)) λs1 =>
     andQ (andQ (shGo u f (deep+1) ⟨true,w.Loop,r8of f.types outs,w.Next,w.Left⟩ s1 b) (y8s b)) λs2 =>
     z4h f (.mk kind op n name args outs params kids) s2
    else(false,st)
   |_=>(false,st)
  else if kind==11 then
   if z0w f.types st args (r8of f.types params)then
    andQ (z1o f.types st params (List.replicate params.length 0)) λs1 =>
    match kids with
    |a::_ =>
     andQ (andQ (shGo u f (deep+1) ⟨false,true,[],r8of f.types params,r8of f.types outs⟩ s1 a) (y8s a)) λs2 =>
     z4h f (.mk kind op n name args outs params kids) (z3l s2 params)
    |_=>(false,s1)
   else(false,st)
  else if z0v kind then(y8r f st (.mk kind op n name args outs params kids) w,st)
  else z2j u f st (.mk kind op n name args outs params kids)
def shGo(u:Un)(f:Fl)(deep:Int)(w:Wh)(st:List Int):List Nd->Bool×List Int
 |[]=>(true,st)
 |x::r =>
  if deep > 100 then(false,st)
  else andQ (z5y u f deep w st x) λs1 =>
   if z08 x != r.isEmpty then(false,s1)
   else shGo u f deep w s1 r
end
def z22(u:Un)(f:Fl)(deep:Int)(w:Wh)(st:List Int)(l:List Nd):Bool×List Int:=andQ (shGo u f deep w st l) (y8s l)
theorem z3o{r:Bool×List Int}{k:List Int->Bool×List Int}{n:Nat}(h1:r.2.length=n)(h2:∀s,s.length=n->(k s).2.length=n):(andQ r k).2.length=n:=by
 unfold andQ;split
 ·exact h2 _ h1
 ·exact h1
theorem z6v:∀(l:List Nd)(st:List Int),(z4g st l).length=st.length
 |[],_=>rfl
 |x::r,st=>by
  have:=z6v r (z3l st x.outs);rw[z4s]at this;simpa[z4g]using this
theorem zn5{f:Fl}{x:Nd}{st:List Int}{n:Nat}(h:st.length=n):(z4h f x st).2.length=n:=(z92 (z2c ..)).trans h
theorem z8a{l:List Nd}{s:List Int}{n:Nat}(h:s.length=n):(y8s l s).2.length=n:=(z6v l s).trans h
mutual
theorem zn4(u:Un)(f:Fl):∀(x:Nd)(deep:Int)(w:Wh)(st:List Int),(z5y u f deep w st x).2.length=st.length
 |.mk kind op n name args outs params kids,deep,w,st=>by
  unfold z5y;split
  ·rfl
  split
  ·match kids with
   |[]=>rfl
   |[_]=>rfl
   |a::b::_ =>
    simp only;split
    ·exact z3o (z3o (z7v u f a ..) λs hs=>z8a hs) λs hs=>z3o (z3o ((z7v u f b ..).trans hs) λs hs=>z8a hs) λs hs=>zn5 hs
    ·rfl
  split
  ·split
   ·refine z3o (z2c ..) λs hs=>?_
    match kids with
    |[]=>exact hs
    |a::_=>exact z3o (z3o ((z7v u f a ..).trans hs) λs hs=>z8a hs) λs hs=>zn5 ((z4s ..).trans hs)
   ·rfl
  split
  ·rfl
  ·exact y1y ..
theorem z7v(u:Un)(f:Fl):∀(l:List Nd)(deep:Int)(w:Wh)(st:List Int),(shGo u f deep w st l).2.length=st.length
 |[],_,_,_=>by simp[shGo]
 |x::r,deep,w,st=>by
  unfold shGo;split
  ·rfl
  ·refine z3o (zn4 u f x ..) λs hs=>?_;split
   ·exact hs
   ·exact(z7v u f r ..).trans hs
end
theorem z9k(u:Un)(f:Fl)(deep:Int)(w:Wh)(st:List Int)(l:List Nd):(z22 u f deep w st l).2.length=st.length:=z3o (z7v ..) λ_ h=>z8a h
theorem zj5(u:Un)(f:Fl)(deep:Int)(w:Wh)(st:List Int){x:Nd}(h:z1n x=false):z5y u f deep w st x=(false,st):=by
 cases x;unfold z5y;simp[h]
theorem y1w(u:Un)(f:Fl)(deep:Int)(w:Wh)(st:List Int){x:Nd}{a b:List Nd}(h:z1n x=true)(hk:x.kind=10)(hx:x.kids=[a,b]) :
 z5y u f deep w st x=if z0w f.types st x.args [2]then andQ (z22 u f (deep+1) ⟨true,w.Loop,r8of f.types x.outs,w.Next,w.Left⟩ st a) (λs1=>andQ (z22 u f (deep+1) ⟨true,w.Loop,r8of f.types x.outs,w.Next,w.Left⟩ s1 b) λs2=>z4h f x s2)else(false,st):=by
 cases x
 simp only[Nd.kind,Nd.kids]at hk hx;subst hk hx;unfold z5y;simp only[h,Fp,Ap,C3,Nd.args,Nd.outs];rfl
theorem zj6(u:Un)(f:Fl)(deep:Int)(w:Wh)(st:List Int){x:Nd}{a:List Nd}(h:z1n x=true)(hk:x.kind=11)(hx:x.kids=[a]) :
 z5y u f deep w st x=if z0w f.types st x.args (r8of f.types x.params)then andQ (z1o f.types st x.params (List.replicate x.params.length 0)) (λs1=>andQ (z22 u f (deep+1) ⟨false,true,[],r8of f.types x.params,r8of f.types x.outs⟩ s1 a) λs2=>z4h f x (z3l s2 x.params))else(false,st):=by
 cases x
 simp only[Nd.kind,Nd.kids]at hk hx;subst hk hx;unfold z5y;simp only[h,Fp,Ap,C3,Nd.args,Nd.outs,Nd.params];rfl
theorem zs2(u:Un)(f:Fl)(deep:Int)(w:Wh)(st:List Int){x:Nd}(h:z1n x=true)(h1:(x.kind==10)=false)(h2:(x.kind==11)=false)(h3:z0v x.kind=true):z5y u f deep w st x=(y8r f st x w,st):=by
 cases x
 simp only[Nd.kind]at h1 h2 h3;unfold z5y;simp[h,h1,h2,h3]
theorem z9l(u:Un)(f:Fl)(deep:Int)(w:Wh)(st:List Int){x:Nd}(h:z1n x=true)(h1:(x.kind==10)=false)(h2:(x.kind==11)=false)(h3:z0v x.kind=false):z5y u f deep w st x=z2j u f st x:=by
 cases x
 simp only[Nd.kind]at h1 h2 h3;unfold z5y;simp[h,h1,h2,h3]
theorem y6m{S:Type}{b:Bool}{s:S}{r:Bool×S}(h:(andP b s r).1=true):b=true/\r.1=true:=by
 unfold andP at h;split at h
 ·rename_i hb;exact⟨hb,h⟩
 ·cases h
theorem za0{S:Type}{r:Bool×S}{k:S->Bool×S}(h:(andQ r k).1=true):r.1=true/\(k r.2).1=true:=by
 unfold andQ at h;split at h
 ·rename_i hb;exact⟨hb,h⟩
 ·cases h
theorem y1z{f:Fl}{x:Nd}{st:List Int}(h:(z4h f x st).1=true):∀v∈x.outs,0<=v/\v<f.types.length:=y1x (y6m h).2
theorem y6b{u:Un}{f:Fl}{st:List Int}{x:Nd}(h:(z2j u f st x).1=true):∀v∈x.outs,0<=v/\v<f.types.length:=by
 unfold z2j y8u zv7 at h
 repeat' split at h
 all_goals first
  |exact y1x (y6m h).2
  |cases h
theorem yv8{f:Fl}{st:List Int}{x:Nd}{w:Wh}(h:y8r f st x w=true):x.outs=[]:=by
 unfold y8r at h;have key:∀b:Bool,((x.outs.length:Int)==0&&b)=true->x.outs=[]:=λb hb=>by
  simp only[A0,Av]at hb;exact Aw oM0
 repeat' split at h
 all_goals first
  |exact key _ h
  |(rw[Ej]at h;exact key _ h)
theorem yf4{u:Un}{f:Fl}{deep:Int}{w:Wh}{st:List Int}{x:Nd}(h:(z5y u f deep w st x).1=true):∀v∈x.outs,0<=v/\v<f.types.length:=by
 cases hb:z1n x with
 |false=>rw[zj5 _ _ _ _ _ hb]at h;cases h
 |true =>
  by_cases h10:x.kind=10
  ·obtain⟨a,b,hk⟩:=z3v hb h10;rw[y1w _ _ _ _ _ hb h10 hk]at h;split at h
   ·exact y1z (za0 (za0 h).2).2
   ·cases h
  ·by_cases h11:x.kind=11
   ·obtain⟨a,hk⟩:=z25 hb h11;rw[zj6 _ _ _ _ _ hb h11 hk]at h;split at h
    ·exact y1z (za0 (za0 h).2).2
    ·cases h
   ·have e10:(x.kind==10)=false:=by simpa using h10
    have e11:(x.kind==11)=false:=by simpa using h11
    cases he:z0v x.kind with
    |true=>rw[zs2 _ _ _ _ _ hb e10 e11 he]at h;intro v hv;rw[yv8 h]at hv;simp at hv
    |false=>rw[z9l _ _ _ _ _ hb e10 e11 he]at h;exact y6b h
theorem y8t{u:Un}{f:Fl}{deep:Int}{w:Wh}:∀{l:List Nd}{st:List Int},(shGo u f deep w st l).1=true->∀x∈l,∀v∈x.outs,0<=v/\v<f.types.length
 |[],_,_,x,hx=>by simp at hx
 |y::r,st,h,x,hx=>by
  unfold shGo at h;split at h
  ·cases h
  ·obtain⟨h1,h2⟩:=za0 h;split at h2
   ·cases h2
   ·rcases Aj.1 hx with rfl|hx
    ·exact yf4 h1
    ·exact y8t h2 x hx
theorem y53:∀{l:List Nd}{x:Nd},x∈l->ndW x<=lsW l
 |y::r,x,h=>by
  rcases Aj.1 h with rfl|h
  ·simp only[lsW];omega
  ·have:=y53 h;simp only[lsW];omega
theorem z6q:∀{ks:List (List Nd)} {q:List Nd},q∈ks->lsW q<=kdW ks
 |y::r,x,h=>by
  rcases Aj.1 h with rfl|h
  ·simp only[kdW];omega
  ·have:=z6q h;simp only[kdW];omega
def zn2(k n:Nat):List Int:=List.replicate k 1++List.replicate (n-k) 0
def y1v(u:Un)(f:Fl):Bool:=!(decide (f.params > 8)||decide ((f.types.length:Int) > 20000)||f.types.any (λt=>!isTy t))&&(z22 u f 1 z39 (zn2 f.params.toNat f.types.length) f.body).1
theorem zv6{k n:Nat}(h:k<=n):(zn2 k n).length=n:=by simp[zn2];omega
theorem j34{k n:Nat}(h:k<n):(zn2 k n).set k 1=zn2 (k+1) n:=by
 unfold zn2;rw[Db _ _ sI0,Eb,Nat.sub_self];have:n-k=(n-(k+1))+1:=by omega
 rw[this,Fb,Fh,List.replicate_succ',C9];rfl
def bump(s:ByteArray)(es:List (Value×PV)):List (Value×PV) :=
 mput (.string s) (match z1k (.string s) es with|some (.val (.int .i64 n))=>.val (.int .i64 (IntKind.i64.wrap (n+1)))|_=>.val (.int .i64 1)) es
def zw6(a:Ar):Bool:=z0k a.name && !decide (a.size<1) && !decide (a.size > 1000)
def zn3(f:Fl):Bool:=z0k f.name&&isTy f.ty && !decide (f.params<0) && !decide (f.params > f.types.length)
def zz5(es:List (Value×PV))(l:List Ar):List (Value×PV):=l.foldl (λe a=>bump a.name e) es
def y2w(es:List (Value×PV))(l:List Fl):List (Value×PV):=l.foldl (λe a=>bump a.name e) es
def z8z(u:Un):Bool:=u.arrays.all zw6&&u.flows.all zn3&&((y2w (zz5 [] u.arrays) u.flows).length:Int)==u.arrays.length+u.flows.length&&z9w u
def z9o(u:Un):List Fl->Int->Int×Int
 |[],_=>(0,0)
 |f::r,i=>if y1v u f then z9o u r (i+1)else(80,i)
def z4v(u:Un):Int×Int:=if z8z u then z9o u u.flows 0 else(1,0)
theorem y6a{u:Un}(h:z8z u=true):∀g∈u.flows,0<=g.params/\g.params<=g.types.length:=by
 simp only[z8z,A0,Bi]at h;intro g hg;have:=h.1.1.2 g hg;simp only[zn3,A0,Bg,C8]at this;omega
theorem zn9{α:Type}{p:α -> Bool}:∀{l:List α}{k:Nat}{x:α},(l.take k).all p=true->l[k]?=some x->p x=false->(l.takeWhile p).length=k/\l.all p=false
 |[],k,x,_,h,_=>by simp at h
 |a::r,0,x,_,h,hx=>by
  simp only[Cu,Cp]at h;subst h
  simp[hx]
 |a::r,k+1,x,h,hg,hx=>by
  simp only[Fc,D8,A0]at h;obtain⟨h1,h2⟩:=zn9 h.2 (by simpa using hg) hx;simp[h.1,h1,h2]
def ys9(s:ByteArray):ByteArray:=if s.toList.all isLD then s else s.extract 0 (s.toList.takeWhile isLD).length
theorem runOf_at{s:ByteArray}{k:Nat}{b:UInt8}(h:(s.toList.take k).all isLD=true)(hb:s.toList[k]?=some b)(hn:isLD b=false):ys9 s=s.extract 0 k:=by
 obtain⟨h1,h2⟩:=zn9 h hb hn;simp[ys9,h1,h2]
theorem runOf_eq(s:ByteArray):((ys9 s).toList==s.toList)=s.toList.all isLD:=by
 unfold ys9
 cases h:s.toList.all isLD with
 |true=>simp
 |false =>
  simp only[Ap,C3];have hlt:(s.toList.takeWhile isLD).length<s.toList.length:=by
   rcases Du (s.toList.takeWhile isLD).length s.toList.length with h1|h1
   ·exact h1
   ·have hp:=F2 (l:=s.toList) isLD;have he:=hp.eq_of_length_le h1;have:s.toList.all isLD=true:=by rw[<- he];exact List.all_takeWhile
    rw[h]at this;cases this
  have hne:(s.extract 0 (s.toList.takeWhile isLD).length).toList≠s.toList:=by
   intro he;have:=Af List.length he;rw[zz1,Cj,zz1]at this;rw[zz1]at hlt;omega
  simpa using hne
theorem yp6{s:ByteArray}{k:Nat}(h:k<s.toList.length):((s.toList[k]).toNat<128->Utf8.decode s k=((s.toList[k]).toNat,1))/\(128<=(s.toList[k]).toNat->128<=(Utf8.decode s k).1):=by
 have hk:k<s.size:=by rwa [zz1]at h
 have e0:s.get! (k+0)=s.toList[k]:=by
  have h2:=y2t h;rw[getElem?_pos s k hk]at h2;rw[<- C7 h2];show s.get! k=_;simp[ByteArray.get!,getElem!_pos,hk];rfl
 refine⟨λhb=>?_,λhb=>?_⟩
 ·simp only[Utf8.decode,e0,hb,Ca]
 ·have hn:¬(s.toList[k]).toNat<128:=by omega
  simp only[Utf8.decode,e0];rw[if_neg (by simpa using hn)]
  repeat' split
  all_goals first
   |(simp[Utf8.runeError];done)
   |(rename_i hc;simp only[ge_iff_le,A0,Bj]at hc;simp only;omega)
def y2f(r:Int):Bool:=z4l r||z3z r
theorem y76{r:Int}(h:y2f r=true):r<128:=by
 simp only[y2f,z4l,z3z,Bo,A0,Bj,Av]at h;omega
theorem zz8{s:ByteArray}{k:Nat}(h:k<s.toList.length):(y2f (Utf8.decode s k).1=true->(Utf8.decode s k).2=1/\isLD s.toList[k]=true)/\(y2f (Utf8.decode s k).1=false->isLD s.toList[k]=false):=by
 obtain⟨h1,h2⟩:=yp6 h
 by_cases hb:(s.toList[k]).toNat<128
 ·rw[h1 hb];exact⟨λh=>⟨rfl,h⟩,λh=>h⟩
 ·have h3:=h2 oM0;refine⟨λhl=>?_,λ_=>?_⟩
  ·have:=y76 hl;omega
  ·cases hd:isLD s.toList[k]with
   |false=>rfl
   |true=>have:=y76 (r:=((s.toList[k]).toNat:Int)) hd;omega
def Cnt(es:List (Value×PV)):Prop:=(∀e∈es,z1v .string e.1=true)/\∀e∈es,∃n,e.2=vInt n
theorem z45{k:Value}{v:PV}:∀{es:List (Value×PV)} {e:Value×PV},e∈mput k v es->e=(k,v)∨e∈es
 |[],e,h=>by simp[mput]at h;exact .inl h
 |(a,p)::r,e,h=>by
  simp only[mput]at h;split at h
  ·rcases Aj.1 h with rfl|h
   ·exact .inl rfl
   ·exact .inr (.tail _ h)
  ·rcases Aj.1 h with rfl|h
   ·exact .inr (.head _)
   ·rcases z45 h with h|h
    ·exact .inl h
    ·exact .inr (.tail _ h)
theorem z7j{k:Value}{p:PV}:∀{es:List (Value×PV)},z1k k es=some p->∃a,(a,p)∈es
 |(a,q)::r,h=>by
  simp only[z1k]at h;split at h
  ·cases h;exact⟨a,.head _⟩
  ·obtain⟨b,hb⟩:=z7j h;exact⟨b,.tail _ hb⟩
theorem Cnt.find{es:List (Value×PV)}(h:Cnt es)(k:Value):∃n,(z1k k es).getD (.val (.int .i64 0))=vInt n:=by
 cases hf:z1k k es with
 |none=>exact⟨0,rfl⟩
 |some p=>obtain⟨a,ha⟩:=z7j hf;obtain⟨n,hn⟩:=h.2 _ ha;exact⟨n,hn⟩
theorem zg9{es:List (Value×PV)}{s:ByteArray}{n:Int}(h:(z1k (.string s) es).getD (.val (.int .i64 0))=vInt n):bump s es=mput (.string s) (vInt (IntKind.i64.wrap (n+1))) es:=by
 unfold bump
 cases hf:z1k (.string s) es with
 |none =>
  rw[hf]at h;simp only[Option.getD_none,vInt,PV.val.injEq,Value.int.injEq,true_and]at h;subst h
  rfl
 |some p =>
  rw[hf]at h;simp only[Ci]at h;subst h;rfl
theorem Cnt.bump{es:List (Value×PV)}(h:Cnt es)(s:ByteArray):Cnt (bump s es):=by
 obtain⟨n,hn⟩:=h.find (.string s);rw[zg9 hn];refine⟨λe he=>?_,λe he=>?_⟩
 ·rcases z45 he with rfl|he
  ·rfl
  ·exact h.1 e he
 ·rcases z45 he with rfl|he
  ·exact⟨_,rfl⟩
  ·exact h.2 e he
theorem Cnt.nil:Cnt []:=⟨λ_ h=>by simp at h,λ_ h=>by simp at h⟩
structure Rl(n:Nat)(st:List Int)(set:List Bool)(seen:List Int):Prop where
 l1:st.length=n
 l2:set.length=n
 s:∀v:Nat,v<n->set.getD v false = !(st.getD v 0==0)
 u:∀v:Nat,v<n->seen.contains (v:Int)=(st.getD v 0==1)
theorem zk5{α:Type}{l:List α}{i j:Nat}{a d:α}:(l.set i a).getD j d=if i=j/\i<l.length then a else l.getD j d:=by
 simp only[Ay,List.getElem?_set]
 by_cases h:i=j
 ·subst h
  by_cases h2:i<l.length
  ·simp[h2]
  ·simp[h2]
 ·simp[h]
theorem use_rl{tys st:List Int}{set:List Bool}{seen:List Int}(h:Rl tys.length st set seen)(v w:Int):zc4 tys seen v w=(zs3 tys st v w).1:=by
 unfold zc4 zs3 z9n
 by_cases h0:0<=v
 ·by_cases h1:v<tys.length
  ·have hv:v=(v.toNat:Int):=by omega
   have hu:=h.u v.toNat oM0;rw[<- hv]at hu;have e1:decide (v<0)=false:=by simpa using h0
   have e2:decide (v≥tys.length)=false:=by simpa using h1
   have e3:decide (0<=v)=true:=by simpa using h0
   have e4:decide (v<tys.length)=true:=by simpa using h1
   simp only[e1,e2,e3,e4,hu,Cd,B5];clear hv e1 e2 e3 e4
   cases hw:(w==0)<;>cases ht:(tys.getD v.toNat 0==w)<;>cases hs:(st.getD v.toNat 0==1)<;>simp_all[bne]
  ·have e2:decide (v≥tys.length)=true:=by simp;omega
   have e4:decide (v<tys.length)=false:=by simp;omega
   simp[e2,e4]
 ·have e1:decide (v<0)=true:=by simp;omega
  have e3:decide (0<=v)=false:=by simp;omega
  simp[e1,e3]
theorem y91{tys st:List Int}{set:List Bool}{seen:List Int}(h:Rl tys.length st set seen):∀(a b:List Int),z19 tys seen a b=(eqGo (zs3 tys) st a b).1
 |[],_=>by simp[z19,eqGo]
 |_::_,[]=>by simp[z19,eqGo]
 |x::a,y::b=>by
  simp only[z19,eqGo,use_rl h x y];have h2:(zs3 tys st x y).2=st:=rfl
  cases hx:(zs3 tys st x y).1 with
  |true=>simp[h2,y91 h a b]
  |false=>simp
theorem yg5{tys st:List Int}{set:List Bool}{seen:List Int}(h:Rl tys.length st set seen)(a b:List Int):z07 tys seen a b=z0w tys st a b:=by
 unfold z07 z0w eqf
 by_cases hl:(a.length:Int)=b.length
 ·rw[if_pos hl];have:((a.length:Int)==b.length)=true:=by simpa using hl
  rw[this,B5,y91 h]
 ·rw[if_neg hl];have:((a.length:Int)==b.length)=false:=by simpa using hl
  rw[this,Cz]
theorem set1_rl{tys st:List Int}{set:List Bool}{seen:List Int}(h:Rl tys.length st set seen)(v w:Int) :
 z99 tys set v w = !(z5u tys st v w).1/\((z5u tys st v w).1=true->Rl tys.length (z5u tys st v w).2 (set.set v.toNat true) (seen++[v])/\0<=v/\v<tys.length/\seen.contains v=false):=by
 unfold z99 z5u z9n
 by_cases h0:0<=v
 ·by_cases h1:v<tys.length
  ·have hv:v=(v.toNat:Int):=by omega
   have hn:v.toNat<tys.length:=by omega
   have hs:=h.s v.toNat hn;have hu:=h.u v.toNat hn;rw[<- hv]at hu;have e1:decide (v<0)=false:=by simpa using h0
   have e2:decide (v≥tys.length)=false:=by simpa using h1
   have e3:decide (0<=v)=true:=by simpa using h0
   have e4:decide (v<tys.length)=true:=by simpa using h1
   simp only[e1,e2,e3,e4,hs,Cd,B5];refine⟨by clear hv e1 e2 e3 e4;cases hw:(w==0)<;>cases ht:(tys.getD v.toNat 0==w)<;>cases hz:(st.getD v.toNat 0==0)<;>simp_all[bne],λhc=>?_⟩;split at hc
   ·rename_i hif;rw[if_pos hif];simp only[A0]at hif;have hz:st.getD v.toNat 0=0:=by simpa using hif.2
    refine⟨⟨by simpa using h.l1,by simpa using h.l2,λj hj=>?_,λj hj=>?_⟩,h0,h1,by rw[hu,hz];rfl⟩
    ·rw[zk5,zk5]
     by_cases e:v.toNat=j
     ·subst e;simp[h.l1,h.l2,hn]
     ·simp only[e,false_and,C3];exact h.s j hj
    ·rw[zk5];simp only[Bv,E8,List.contains_nil,Ds]
     by_cases e:v.toNat=j
     ·subst e;have:((v.toNat:Int)==v)=true:=by simpa using hv.symm
      rw[this,Bh,if_pos ⟨rfl,by rw[h.l1];exact hn⟩];rfl
     ·have:((j:Int)==v)=false:=by simp;omega
      simp only[e,false_and,C3,this,Ds];exact h.u j hj
   ·cases hc
  ·have e2:decide (v≥tys.length)=true:=by simp;omega
   have e4:decide (v<tys.length)=false:=by simp;omega
   simp[e2,e4]
 ·have e1:decide (v<0)=true:=by simp;omega
  have e3:decide (0<=v)=false:=by simp;omega
  simp[e1,e3]
theorem y8p{tys:List Int}:∀(a b st:List Int)(set:List Bool)(seen:List Int),a.length=b.length->Rl tys.length st set seen ->
 (z2h tys set a b).1=(eqGo (z5u tys) st a b).1/\((eqGo (z5u tys) st a b).1=true->Rl tys.length (eqGo (z5u tys) st a b).2 (z2h tys set a b).2 (seen++a)/\∀v∈a,0<=v/\v<tys.length/\seen.contains v=false)
 |[],_,st,set,seen,_,h=>by simp[z2h,eqGo];exact h
 |_::_,[],_,_,_,hl,_=>by simp at hl
 |x::a,y::b,st,set,seen,hl,h=>by
  obtain⟨h1,h2⟩:=set1_rl h x y;simp only[z2h,eqGo,h1]
  cases hx:(z5u tys st x y).1 with
  |false=>simp
  |true =>
   obtain⟨h3,h4,h5,h6⟩:=h2 hx;obtain⟨ih1,ih2⟩:=y8p a b _ _ _ (by simpa using hl) h3;simp only[Fp,Ap,C3,Ca];refine⟨ih1,λhc=>?_⟩;obtain⟨h7,h8⟩:=ih2 hc;refine⟨by simpa using h7,λv hv=>?_⟩;rcases Aj.1 hv with rfl|hv
   ·exact⟨h4,h5,h6⟩
   ·obtain⟨g1,g2,g3⟩:=h8 v hv;refine⟨g1,g2,?_⟩;rw[Bv,Bu]at g3;exact g3.1
theorem j38{tys st:List Int}{set:List Bool}{seen:List Int}(h:Rl tys.length st set seen)(a b:List Int) :
 (z1s tys set a b).1=(z1o tys st a b).1/\((z1o tys st a b).1=true->Rl tys.length (z1o tys st a b).2 (z1s tys set a b).2 (seen++a)/\∀v∈a,0<=v/\v<tys.length/\seen.contains v=false):=by
 unfold z1s z1o eqf
 by_cases hl:(a.length:Int)=b.length
 ·have e:((a.length:Int)==b.length)=true:=by simpa using hl
  rw[if_pos hl,if_pos e];exact y8p a b st set seen oM0 h
 ·have e:¬((a.length:Int)==b.length)=true:=by simpa using hl
  rw[if_neg hl,if_neg e];simp
theorem j0c{n:Nat}:∀(l st:List Int)(set:List Bool)(seen rest:List Int),(∀v∈l,0<=v/\v<n/\rest.contains v=false)->(∀v∈l,st.getD v.toNat 0≠0)->st.length=n->set.length=n ->
 (∀v:Nat,v<n->set.getD v false = !(st.getD v 0==0))->(∀v:Nat,v<n->l.contains (v:Int)=false->rest.contains (v:Int)=(st.getD v 0==1))->Rl n (z3l st l) set rest
 |[],st,set,_,rest,_,_,h1,h2,h3,h4=>⟨h1,h2,h3,λv hv=>h4 v hv rfl⟩
 |x::l,st,set,seen,rest,hin,hnz,h1,h2,h3,h4=>by
  obtain⟨hx0,hx1,hx2⟩:=hin x (.head _);have hxn:x.toNat<n:=by omega
  show Rl n (z3l (st.set x.toNat 2) l) set rest;have hg:∀j,(st.set x.toNat 2).getD j 0=if x.toNat=j then 2 else st.getD j 0:=λj=>by
   rw[zk5];simp[h1,hxn]
  -- hidden values are no more among the seen
  have key:∀v:Nat,v<n->l.contains (v:Int)=false->rest.contains (v:Int)=((st.set x.toNat 2).getD v 0==1):=by
   intro v hv hl;rw[hg]
   by_cases e:x.toNat=v
   ·have hv2:(v:Int)=x:=by omega
    rw[if_pos e,hv2,hx2];rfl
   ·rw[if_neg e];refine h4 v hv ?_;have:((v:Int)==x)=false:=by simp;omega
    rw[E8,this,hl];rfl
  refine j0c l (st.set x.toNat 2) set seen rest (λv hv=>hin v (.tail _ hv)) (λv hv=>?_) (by simpa using h1) h2 (λv hv=>?_) key
  ·rw[hg];split
   ·decide
   ·exact hnz v (.tail _ hv)
  ·rw[hg,h3 v hv];split
   ·rename_i e;have:=hnz x (.head _);rw[e]at this;have hb:(st.getD v 0==0)=false:=by simpa using this
    rw[hb];rfl
   ·rfl
def PR(n:Nat)(seen outs:List Int)(r:Bool×List Int)(q:Bool×List Bool):Prop :=
 q.1=r.1/\(r.1=true->Rl n r.2 q.2 (seen++outs)/\∀v∈outs,0<=v/\v<n/\seen.contains v=false)
theorem PR.no{n:Nat}{seen outs:List Int}{st:List Int}{set:List Bool}:PR n seen outs (false,st) (false,set):=⟨rfl,λh=>by cases h⟩
theorem zt3{tys st:List Int}{set:List Bool}{seen:List Int}(h:Rl tys.length st set seen){b b':Bool}(hb:b=b')(outs want:List Int):PR tys.length seen outs (andP b st (z1o tys st outs want)) (andS b' set (z1s tys set outs want)):=by
 subst hb
 cases b with
 |false=>exact .no
 |true=>exact j38 h outs want
theorem nil_rl{tys st:List Int}{set:List Bool}{seen:List Int}(h:Rl tys.length st set seen){b b':Bool}(hb:b=b')(outs:List Int):PR tys.length seen outs (andP b st (z1o tys st outs [])) (b'&&(outs.length:Int)==0,set):=by
 subst hb
 cases b with
 |false=>exact .no
 |true =>
  cases outs with
  |nil=>exact⟨rfl,λ_=>⟨by rw[Co];exact h,λv hv=>by simp at hv⟩⟩
  |cons v r =>
   have e:¬(((v::r).length:Int)=(([]:List Int).length:Int)):=by simp;omega
   have e2:(((v::r).length:Int)==0)=false:=by simp;omega
   simp only[andP,Ca,z1o,eqf,if_neg e,e2,Cy];exact .no
theorem yi3{n:Nat}{st:List Int}{set:List Bool}{seen:List Int}(h:Rl n st set seen){b b':Bool}(hb:b=b'){outs:List Int}(ho:b=true->outs=[]):PR n seen outs (b,st) (b',set):=by
 subst hb;refine⟨rfl,λhb=>?_⟩;rw[ho hb];exact⟨by simpa using h,λv hv=>by simp at hv⟩
theorem yb8{op:Int}(h:z42 op=true):z3a op=z0p op:=by
 simp only[z42,A0,Bj]at h;have h18:(op==18)=false:=by simp;omega
 have h19:(op==19)=false:=by simp;omega
 have h22:(op==22)=false:=by simp;omega
 simp only[z3a,z0p,h18,h19,h22,Ds,Ap,C3]
theorem yb7{op:Int}(h:z2y op=true):z3a op=z0p op:=by
 simp only[z2y,A0,Bj]at h;have h18:(op==18)=false:=by simp;omega
 have h19:(op==19)=false:=by simp;omega
 simp only[z3a,z0p,h18,h19,Cd]
theorem j0q(op:Int):(decide (z4k op > 0)&&decide (op<=17))=z42 op:=by
 by_cases h0:op<0
 ·have:z4k op=0:=by simp[z4k,h0]
  have h2:z42 op=false:=by simp[z42];omega
  rw[this,h2];rfl
 ·by_cases h1:op≥29
  ·have:z4k op=0:=by simp[z4k,h1]
   have h2:z42 op=false:=by simp[z42];omega
   rw[this,h2];rfl
  ·rcases yx9 (op:=op) oM0 oM0 with rfl|rfl|rfl|rfl|rfl|rfl|rfl|rfl|rfl|rfl|rfl|rfl|rfl|rfl|rfl|rfl|rfl|rfl|rfl|rfl|rfl|rfl|rfl|rfl|rfl|rfl|rfl|rfl|rfl<;>rfl
theorem j3d(u:Un)(f:Fl){st:List Int}{set:List Bool}{seen:List Int}(h:Rl f.types.length st set seen)(x:Nd)(w:Wh) :
 PR f.types.length seen x.outs (if z0v x.kind then(y8r f st x w,st)else z2j u f st x) (z1h u f set x seen w):=by
 have U:=λwant=>(yg5 h x.args want).symm;have hlen:∀b,z0w f.types st x.args []=b->((x.args.length:Int)==0)=b:=λb hb=>by
  rw[<- hb];unfold z0w eqf
  cases x.args with
  |nil=>rfl
  |cons a r =>
   have e:¬(((a::r).length:Int)=(([]:List Int).length:Int)):=by simp;omega
   have e2:(((a::r).length:Int)==0)=false:=by simp;omega
   rw[if_neg e,e2]
 unfold z1h z2j y8r y8u zv7 zc2
 by_cases k1:x.kind=1
 ·simp only[k1,z0v];exact zt3 h (U _) _ _
 by_cases k2:x.kind=2
 ·simp only[k2,z0v];exact zt3 h (by rw[U]) _ _
 by_cases k3:x.kind=3
 ·simp only[k3,z0v]
  cases ho:z2y x.op with
  |false=>exact .no
  |true=>rw[yb7 ho];exact zt3 h (by rw[U]) _ _
 by_cases k4:x.kind=4
 ·simp only[k4,z0v,j0q]
  cases ho:z42 x.op with
  |false=>exact .no
  |true=>rw[yb8 ho];exact zt3 h (by rw[U]) _ _
 by_cases k5:x.kind=5
 ·simp only[k5,z0v];exact zt3 h (by rw[U]) _ _
 by_cases k6:x.kind=6
 ·simp only[k6,z0v];exact nil_rl h (by rw[U]) _
 by_cases k7:x.kind=7
 ·simp only[k7,z0v]
  by_cases hp:z05 x.name u.flows 0<0
  ·have e:¬(decide (z05 x.name u.flows 0≥0))=true:=by simp;omega
   simp only[if_pos hp,if_neg e];exact .no
  ·have e:(decide (z05 x.name u.flows 0≥0))=true:=by simp;omega
   simp only[if_neg hp,if_pos e]
   cases u.flows[(z05 x.name u.flows 0).toNat]? with
   |none=>exact .no
   |some g=>exact zt3 h (U _) _ _
 by_cases k8:x.kind=8
 ·simp only[k8,z0v];exact zt3 h (hlen _ rfl).symm _ _
 by_cases k9:x.kind=9
 ·simp only[k9,z0v];exact nil_rl h (U _) _
 have out0:∀c:Bool,((x.outs.length:Int)==0&&c)=true->x.outs=[]:=λc hc=>by
  simp only[A0,Av]at hc;exact Aw oM0
 by_cases k12:x.kind=12
 ·simp only[k12,z0v];show PR _ _ _ ((x.outs.length:Int)==0&&w.If&&z0w f.types st x.args w.Yield,st) (w.If&&z07 f.types seen x.args w.Yield&&(x.outs.length:Int)==0,set);exact yi3 h (by rw[<- U];cases(w.If)<;>cases((x.outs.length:Int)==0)<;>simp) (λhb=>by rw[Ej]at hb;exact out0 _ hb)
 by_cases k13:x.kind=13
 ·simp only[k13,z0v];show PR _ _ _ ((x.outs.length:Int)==0&&w.Loop&&z0w f.types st x.args w.Next,st) (w.Loop&&z07 f.types seen x.args w.Next&&(x.outs.length:Int)==0,set);exact yi3 h (by rw[<- U];cases(w.Loop)<;>cases((x.outs.length:Int)==0)<;>simp) (λhb=>by rw[Ej]at hb;exact out0 _ hb)
 by_cases k14:x.kind=14
 ·simp only[k14,z0v];show PR _ _ _ ((x.outs.length:Int)==0&&w.Loop&&z0w f.types st x.args w.Left,st) (w.Loop&&z07 f.types seen x.args w.Left&&(x.outs.length:Int)==0,set);exact yi3 h (by rw[<- U];cases(w.Loop)<;>cases((x.outs.length:Int)==0)<;>simp) (λhb=>by rw[Ej]at hb;exact out0 _ hb)
 by_cases k15:x.kind=15
 ·simp only[k15,z0v];show PR _ _ _ ((x.outs.length:Int)==0&&z0w f.types st x.args [f.ty],st) (z07 f.types seen x.args [f.ty]&&(x.outs.length:Int)==0,set);exact yi3 h (by rw[<- U];exact Bool.and_comm _ _) (λhb=>out0 _ hb)
 have e1:(x.kind==1)=false:=by simpa using k1
 have e2:(x.kind==2)=false:=by simpa using k2
 have e3:(x.kind==3)=false:=by simpa using k3
 have e4:(x.kind==4)=false:=by simpa using k4
 have e5:(x.kind==5)=false:=by simpa using k5
 have e6:(x.kind==6)=false:=by simpa using k6
 have e7:(x.kind==7)=false:=by simpa using k7
 have e8:(x.kind==8)=false:=by simpa using k8
 have e9:(x.kind==9)=false:=by simpa using k9
 have e12:(x.kind==12)=false:=by simpa using k12
 have e13:(x.kind==13)=false:=by simpa using k13
 have e14:(x.kind==14)=false:=by simpa using k14
 have e15:(x.kind==15)=false:=by simpa using k15
 have ee:z0v x.kind=false:=by simp[z0v];omega
 simp only[e1,e2,e3,e4,e5,e6,e7,e8,e9,e12,e13,e14,e15,ee,Ap,C3,Ds];exact .no
theorem y37:∀(l:List Nd)(st:List Int),z4g st l=z3l st (l.flatMap Nd.outs)
 |[],_=>rfl
 |x::r,st=>by
  have:=y37 r (z3l st x.outs);simp only[z4g,Dx,Dk,z3l,Dw]at this⊢;exact this
theorem y73{n:Nat}{st:List Int}{set:List Bool}{all l:List Int}(h:Rl n st set (all++l))(hl:∀v∈l,0<=v/\v<n/\all.contains v=false):Rl n (z3l st l) set all:=by
 refine j0c l st set [] all hl (λv hv=>?_) h.l1 h.l2 h.s (λv hv hc=>?_)
 ·obtain⟨h0,h1,_⟩:=hl v hv;have hu:=h.u v.toNat oM0;have hc:(all++l).contains ((v.toNat:Nat):Int)=true:=by
   rw[show((v.toNat:Nat):Int)=v by omega];simp[hv]
  rw[hc]at hu;have:st.getD v.toNat 0=1:=by simpa using hu.symm
  rw[this];decide
 ·have hu:=h.u v hv;rw[Bv,hc,Ds]at hu;exact hu
def LR(u:Un)(f:Fl)(l:List Nd):Prop:=∀(deep:Int)(w:Wh)(st:List Int)(set:List Bool)(seen:List Int),Rl f.types.length st set seen ->
 (z2o u f deep w seen set l).1=(z22 u f deep w st l).1/\((z22 u f deep w st l).1=true->Rl f.types.length (z22 u f deep w st l).2 (z2o u f deep w seen set l).2 seen)
theorem zy8{n:Nat}{seen outs:List Int}{r:Bool×List Int}{q:Bool×List Bool}{k:List Int->Bool×List Int}{k':List Bool->Bool×List Bool}(h:q.1=r.1)(hk:r.1=true->PR n seen outs (k r.2) (k' q.2)):PR n seen outs (andQ r k) (andT q k'):=by
 unfold andQ andT;rw[h]
 cases hr:r.1 with
 |false=>exact .no
 |true=>exact hk hr
theorem j3p{f:Fl}{x:Nd}{st:List Int}{set:List Bool}{seen:List Int}(h:Rl f.types.length st set seen):PR f.types.length seen x.outs (z4h f x st) (zf8 f x set):=zt3 h rfl _ _
theorem node_rl(u:Un)(f:Fl)(x:Nd)(ih:∀q∈x.kids,LR u f q)(deep:Int)(w:Wh){st:List Int}{set:List Bool}{seen:List Int}(h:Rl f.types.length st set seen) :
 PR f.types.length seen x.outs (z5y u f deep w st x) (z4y u f deep w seen set x):=by
 cases hb:z1n x with
 |false=>rw[zj5 _ _ _ _ _ hb,zi3 _ _ _ _ _ _ hb];exact .no
 |true =>
  by_cases h10:x.kind=10
  ·obtain⟨a,b,hk⟩:=z3v hb h10;rw[y1w _ _ _ _ _ hb h10 hk,y12 _ _ _ _ _ _ hb h10 hk,yg5 h];split
   ·obtain⟨h1,h2⟩:=ih a (by rw[hk];simp) (deep+1) ⟨true,w.Loop,r8of f.types x.outs,w.Next,w.Left⟩ st set seen h;refine zy8 h1 λht=>?_;obtain⟨h3,h4⟩:=ih b (by rw[hk];simp) (deep+1) ⟨true,w.Loop,r8of f.types x.outs,w.Next,w.Left⟩ _ _ seen (h2 ht);exact zy8 h3 λht2=>j3p (h4 ht2)
   ·exact .no
  ·by_cases h11:x.kind=11
   ·obtain⟨a,hk⟩:=z25 hb h11;rw[zj6 _ _ _ _ _ hb h11 hk,zi4 _ _ _ _ _ _ hb h11 hk,yg5 h];split
    ·obtain⟨h1,h2⟩:=j38 h x.params (List.replicate x.params.length 0);refine zy8 h1 λht=>?_;obtain⟨h3,h4⟩:=h2 ht;obtain⟨h5,h6⟩:=ih a (by rw[hk];simp) (deep+1) ⟨false,true,[],r8of f.types x.params,r8of f.types x.outs⟩ _ _ _ h3;exact zy8 h5 λht2=>j3p (y73 (h6 ht2) h4)
    ·exact .no
   ·have e10:(x.kind==10)=false:=by simpa using h10
    have e11:(x.kind==11)=false:=by simpa using h11
    rw[z9c _ _ _ _ _ _ hb e10 e11];have hs:=j3d u f h x w
    cases he:z0v x.kind with
    |true=>rw[zs2 _ _ _ _ _ hb e10 e11 he];rw[if_pos he]at hs;exact hs
    |false=>rw[z9l _ _ _ _ _ hb e10 e11 he];rw[if_neg (by simp[he])]at hs;exact hs
theorem go_rl(u:Un)(f:Fl)(deep:Int)(w:Wh):∀(l:List Nd),(∀x∈l,∀q∈x.kids,LR u f q)->∀(st:List Int)(set:List Bool)(all:List Int),Rl f.types.length st set all ->
 PR f.types.length all (l.flatMap Nd.outs) (shGo u f deep w st l) (r8go u f deep w all set l)
 |[],_,st,set,all,h=>by
  unfold shGo r8go
  exact⟨rfl,λ_=>⟨by simpa using h,λv hv=>by simp at hv⟩⟩
 |x::r,ih,st,set,all,h=>by
  unfold shGo r8go
  by_cases hd:deep > 100
  ·rw[if_pos hd,if_pos hd];exact .no
  ·rw[if_neg hd,if_neg hd];obtain⟨h1,h2⟩:=node_rl u f x (ih x (.head _)) deep w h;refine zy8 h1 λht=>?_;obtain⟨h3,h4⟩:=h2 ht
   by_cases hc:(z08 x != r.isEmpty)=true
   ·rw[if_pos hc,if_pos hc];exact .no
   ·rw[if_neg hc,if_neg hc];obtain⟨h5,h6⟩:=go_rl u f deep w r (λy hy=>ih y (.tail _ hy)) _ _ _ h3;refine⟨h5,λht2=>?_⟩;obtain⟨h7,h8⟩:=h6 ht2;refine⟨by simpa using h7,λv hv=>?_⟩;rw[Dk,Ax]at hv;rcases hv with hv|hv
    ·exact h4 v hv
    ·obtain⟨g1,g2,g3⟩:=h8 v hv;rw[Bv,Bu]at g3;exact⟨g1,g2,g3.1⟩
theorem j0r(u:Un)(f:Fl):∀(N:Nat)(l:List Nd),SizeOf.sizeOf l<N->LR u f l
 |0,_,h=>absurd h (Al _)
 |N+1,l,hN=>by
  intro deep w st set seen h;have ih:∀x∈l,∀q∈x.kids,LR u f q:=λx hx q hq=>j0r u f N q (Bc (z9t hx rfl hq) (C1 hN));obtain⟨h1,h2⟩:=go_rl u f deep w l ih st set seen h;unfold z2o z22 ne andQ
  cases l with
  |nil =>
   simp only[List.isEmpty_nil,Ca];unfold shGo
   simp[y8s]
  |cons x r =>
   simp only[List.isEmpty_cons,Ap,C3];rw[h1]
   cases hg:(shGo u f deep w st (x::r)).1 with
   |false=>simp[hg]
   |true =>
    obtain⟨h3,h4⟩:=h2 hg;simp only[Ca,y8s];refine⟨by simp,λ_=>?_⟩;rw[y37];exact y73 h3 h4
theorem j3b(u:Un)(f:Fl)(deep:Int)(w:Wh){st:List Int}{set:List Bool}{seen:List Int}(h:Rl f.types.length st set seen)(l:List Nd):(z22 u f deep w st l).1=(z2o u f deep w seen set l).1 :=
 ((j0r u f _ l (Ab _)) deep w st set seen h).1.symm
theorem start_rl{k n:Nat}(h:k<=n):Rl n (zn2 k n) (z5g k n) (iota k):=by
 refine⟨zv6 h,z3p h,λv hv=>?_,λv hv=>?_⟩
 ·simp only[z5g,zn2,Ay]
  by_cases e:v<k
  ·rw[Aq (by simpa using e),Aq (by simpa using e)];simp[Di,e]
  ·rw[B3 (by simpa using e),B3 (by simpa using e)];simp only[Eb,Di];rw[if_pos oM0,if_pos oM0];rfl
 ·have hc:(iota k).contains (v:Int)=decide (v<k):=by
   simp only[iota]
   by_cases e:v<k
   ·simp[e];exact⟨v,e,rfl⟩
   ·simp[e];intro x hx;omega
  rw[hc];simp only[zn2,Ay]
  by_cases e:v<k
  ·rw[Aq (by simpa using e)];simp[Di,e]
  ·rw[B3 (by simpa using e)];simp only[Eb,Di];rw[if_pos oM0];simp[e]
theorem yi0:∀l:List Int,l.any (λt=>!isTy t) = !l.all (λt=>t==1||t==2)
 |[]=>rfl
 |t::r=>by rw[G9,D8,yi0 r,Bool.not_and];rfl
theorem j39(u:Un)(f:Fl)(h0:0<=f.params)(h1:f.params<=f.types.length):y1v u f=z5x u f:=by
 unfold y1v z5x;rw[j3b u f 1 z39 (start_rl (k:=f.params.toNat) oM0) f.body];have e1:decide (f.params<0)=false:=by simp;omega
 have e2:decide (f.params > f.types.length)=false:=by simp;omega
 have e3:=yi0 f.types;rw[e1,e2,e3]
 cases decide (f.params > 8)<;>cases decide ((f.types.length:Int) > 20000)<;>cases f.types.all (λt=>t==1||t==2)<;>simp
def nmA(l:List Ar):List (List UInt8):=l.map λa=>a.name.toList
def nmF(l:List Fl):List (List UInt8):=l.map λa=>a.name.toList
theorem zy9(nm:ByteArray):∀(pre l:List Ar)(i:Int),(nm.toList∈nmA pre->i<=z0h nm (pre++l) i/\z0h nm (pre++l) i<i+pre.length)/\(nm.toList∉nmA pre->z0h nm (pre++l) i=z0h nm l (i+pre.length))
 |[],l,i=>by simp[nmA]
 |a::pre,l,i=>by
  obtain⟨h1,h2⟩:=zy9 nm pre l (i+1);rw[B9,show z0h nm (a::(pre++l)) i=if (a.name.toList==nm.toList)=true then i else z0h nm (pre++l) (i+1)from rfl]
  by_cases e:a.name.toList=nm.toList
  ·have eb:(a.name.toList==nm.toList)=true:=by simpa using e
   rw[if_pos eb];refine⟨λ_=>⟨D7 _,by simp;omega⟩,λh=>absurd (by simp[nmA,e]) h⟩
  ·have eb:¬(a.name.toList==nm.toList)=true:=by simpa using e
   rw[if_neg eb];refine⟨λh=>?_,λh=>?_⟩
   ·have:nm.toList∈nmA pre:=by
     simp only[nmA,B8,Aj]at h;exact h.resolve_left λh=>e h.symm
    have:=h1 this;simp only[A1];omega
   ·have:nm.toList∉nmA pre:=λhm=>h (by simp only[nmA,B8,Aj];exact .inr hm);rw[h2 this]
    congr 1
    simp only[A1];omega
theorem zi1(nm:ByteArray):∀(pre l:List Fl)(i:Int),(nm.toList∈nmF pre->i<=z05 nm (pre++l) i/\z05 nm (pre++l) i<i+pre.length)/\(nm.toList∉nmF pre->z05 nm (pre++l) i=z05 nm l (i+pre.length))
 |[],l,i=>by simp[nmF]
 |a::pre,l,i=>by
  obtain⟨h1,h2⟩:=zi1 nm pre l (i+1);rw[B9,show z05 nm (a::(pre++l)) i=if (a.name.toList==nm.toList)=true then i else z05 nm (pre++l) (i+1)from rfl]
  by_cases e:a.name.toList=nm.toList
  ·have eb:(a.name.toList==nm.toList)=true:=by simpa using e
   rw[if_pos eb];refine⟨λ_=>⟨D7 _,by simp;omega⟩,λh=>absurd (by simp[nmF,e]) h⟩
  ·have eb:¬(a.name.toList==nm.toList)=true:=by simpa using e
   rw[if_neg eb];refine⟨λh=>?_,λh=>?_⟩
   ·have:nm.toList∈nmF pre:=by
     simp only[nmF,B8,Aj]at h;exact h.resolve_left λh=>e h.symm
    have:=h1 this;simp only[A1];omega
   ·have:nm.toList∉nmF pre:=λhm=>h (by simp only[nmF,B8,Aj];exact .inr hm);rw[h2 this]
    congr 1
    simp only[A1];omega
theorem j1a(nm:ByteArray)(l:List Fl):z05 nm l 0≥0↔nm.toList∈nmF l:=by
 obtain⟨h1,h2⟩:=zi1 nm l [] 0;rw[Co]at h1 h2
 by_cases h:nm.toList∈nmF l
 ·exact⟨λ_=>h,λh=>(h1 h).1⟩
 ·refine⟨λh3=>?_,λh4=>absurd h4 h⟩;rw[h2 h]at h3;simp[z05]at h3
theorem array_at(nm:ByteArray)(pre r:List Ar)(a:Ar)(h:a.name.toList=nm.toList):z0h nm (pre++a::r) 0=pre.length↔nm.toList∉nmA pre:=by
 obtain⟨h1,h2⟩:=zy9 nm pre (a::r) 0
 by_cases e:nm.toList∈nmA pre
 ·have:=h1 e;exact⟨λh=>by omega,λh=>absurd e h⟩
 ·refine⟨λ_=>e,λ_=>?_⟩;rw[h2 e];have eb:(a.name.toList==nm.toList)=true:=by simpa using h
  rw[show z0h nm (a::r) (0+pre.length)=if (a.name.toList==nm.toList)=true then(0+pre.length:Int)else z0h nm r (0+pre.length+1)from rfl,if_pos eb];omega
theorem place_at(nm:ByteArray)(pre r:List Fl)(a:Fl)(h:a.name.toList=nm.toList):z05 nm (pre++a::r) 0=pre.length↔nm.toList∉nmF pre:=by
 obtain⟨h1,h2⟩:=zi1 nm pre (a::r) 0
 by_cases e:nm.toList∈nmF pre
 ·have:=h1 e;exact⟨λh=>by omega,λh=>absurd e h⟩
 ·refine⟨λ_=>e,λ_=>?_⟩;rw[h2 e];have eb:(a.name.toList==nm.toList)=true:=by simpa using h
  rw[show z05 nm (a::r) (0+pre.length)=if (a.name.toList==nm.toList)=true then(0+pre.length:Int)else z05 nm r (0+pre.length+1)from rfl,if_pos eb];omega
theorem gA_iff(u:Un):∀(pre l:List Ar),u.arrays=pre++l->(r8gA u l pre.length=true↔(∀a∈l,zw6 a=true/\a.name.toList∉nmF u.flows/\a.name.toList∉nmA pre)/\(nmA l).Nodup)
 |pre,[],_=>by simp[r8gA,nmA]
 |pre,a::r,hu=>by
  have ih:=gA_iff u (pre++[a]) r (by simp[hu]);have hlen:(((pre++[a]).length:Nat):Int)=(pre.length:Int)+1:=by simp
  rw[hlen]at ih;rw[r8gA,A0,ih];have ha:gArr u a pre.length=true↔zw6 a=true/\a.name.toList∉nmA pre/\a.name.toList∉nmF u.flows:=by
   have h1:=array_at a.name pre r a rfl;have h2:=j1a a.name u.flows;rw[<- hu]at h1;unfold gArr zw6;simp only[A0,Bg,C8,Av,h1,h2];constructor
   ·rintro⟨⟨⟨⟨a1,a2⟩,a3⟩,a4⟩,a5⟩;exact⟨⟨⟨a1,a2⟩,a3⟩,a4,a5⟩
   ·rintro⟨⟨⟨a1,a2⟩,a3⟩,a4,a5⟩;exact⟨⟨⟨⟨a1,a2⟩,a3⟩,a4⟩,a5⟩
  rw[ha];constructor
  ·rintro⟨⟨b1,b2,b3⟩,b4,b5⟩;refine⟨λx hx=>?_,?_⟩
   ·rcases Aj.1 hx with rfl|hx
    ·exact⟨b1,b3,b2⟩
    ·obtain⟨c1,c2,c3⟩:=b4 x hx;exact⟨c1,c2,λh=>c3 (by simp only[nmA,Cm,Ax];exact .inl h)⟩
   ·refine Ed.2 ⟨λh=>?_,b5⟩;obtain⟨x,hx,e⟩:=Cc.1 h;exact(b4 x hx).2.2 (by simp only[nmA,Cm,Ax,B8,D6,An];exact .inr e)
  ·rintro⟨b1,b2⟩;have b3:=Ed.1 b2;obtain⟨c1,c2,c3⟩:=b1 a (.head _);refine⟨⟨c1,c3,c2⟩,λx hx=>?_,b3.2⟩;obtain⟨d1,d2,d3⟩:=b1 x (.tail _ hx);refine⟨d1,d2,λh=>?_⟩;simp only[nmA,Cm,Ax,B8,D6,An]at h;rcases h with h|h
   ·exact d3 h
   ·exact b3.1 (Cc.2 ⟨x,hx,h⟩)
theorem gF_iff(u:Un):∀(pre l:List Fl),u.flows=pre++l->(r8gF u l pre.length=true↔(∀a∈l,zn3 a=true/\a.name.toList∉nmF pre)/\(nmF l).Nodup)
 |pre,[],_=>by simp[r8gF,nmF]
 |pre,a::r,hu=>by
  have ih:=gF_iff u (pre++[a]) r (by simp[hu]);have hlen:(((pre++[a]).length:Nat):Int)=(pre.length:Int)+1:=by simp
  rw[hlen]at ih;rw[r8gF,A0,ih];have ha:gFlw u a pre.length=true↔zn3 a=true/\a.name.toList∉nmF pre:=by
   have h1:=place_at a.name pre r a rfl;rw[<- hu]at h1;unfold gFlw zn3 isTy;simp only[A0,Bg,C8,Av,h1];constructor
   ·rintro⟨⟨⟨⟨a1,a2⟩,a3⟩,a4⟩,a5⟩;exact⟨⟨⟨⟨a1,a3⟩,a4⟩,a5⟩,a2⟩
   ·rintro⟨⟨⟨⟨a1,a3⟩,a4⟩,a5⟩,a2⟩;exact⟨⟨⟨⟨a1,a2⟩,a3⟩,a4⟩,a5⟩
  rw[ha];constructor
  ·rintro⟨⟨b1,b2⟩,b4,b5⟩;refine⟨λx hx=>?_,?_⟩
   ·rcases Aj.1 hx with rfl|hx
    ·exact⟨b1,b2⟩
    ·obtain⟨c1,c3⟩:=b4 x hx;exact⟨c1,λh=>c3 (by simp only[nmF,Cm,Ax];exact .inl h)⟩
   ·refine Ed.2 ⟨λh=>?_,b5⟩;obtain⟨x,hx,e⟩:=Cc.1 h;exact(b4 x hx).2 (by simp only[nmF,Cm,Ax,B8,D6,An];exact .inr e)
  ·rintro⟨b1,b2⟩;have b3:=Ed.1 b2;obtain⟨c1,c3⟩:=b1 a (.head _);refine⟨⟨c1,c3⟩,λx hx=>?_,b3.2⟩;obtain⟨d1,d3⟩:=b1 x (.tail _ hx);refine⟨d1,λh=>?_⟩;simp only[nmF,Cm,Ax,B8,D6,An]at h;rcases h with h|h
   ·exact d3 h
   ·exact b3.1 (Cc.2 ⟨x,hx,h⟩)
def z2p(es:List (Value×PV)):List (List UInt8):=es.map λe=>match e.1 with
 |.string s=>s.toList
 |_=>[]
theorem y0k(s:ByteArray)(v:PV):∀(es:List (Value×PV)),Cnt es->(s.toList∈z2p es->z2p (mput (.string s) v es)=z2p es)/\(s.toList∉z2p es->z2p (mput (.string s) v es)=z2p es++[s.toList])
 |[],_=>by simp[z2p,mput]
 |(a,p)::r,h=>by
  have ha:=h.1 (a,p) (.head _);have hr:Cnt r:=⟨λe he=>h.1 e (.tail _ he),λe he=>h.2 e (.tail _ he)⟩;obtain⟨h1,h2⟩:=y0k s v r hr
  cases a with
  |string t =>
   simp only[mput]
   by_cases e:s.toList=t.toList
   ·have eb:keyB (.string s) (.string t)=true:=by simpa[keyB]using e
    rw[if_pos eb];exact⟨λ_=>by simp[z2p,e],λh=>absurd (by simp[z2p,e]) h⟩
   ·have eb:¬keyB (.string s) (.string t)=true:=by simpa[keyB]using e
    rw[if_neg eb];refine⟨λh=>?_,λh=>?_⟩
    ·have:s.toList∈z2p r:=by
      simp only[z2p,B8,Aj]at h;exact h.resolve_left e
     have h3:=h1 this;simp only[z2p,B8]at h3⊢;rw[h3]
    ·have:s.toList∉z2p r:=λhm=>h (by simp only[z2p,B8,Aj];exact .inr hm);have h3:=h2 this;simp only[z2p,B8,B9]at h3⊢
     rw[h3]
  |_=>simp[z1v]at ha
theorem y9g(s:ByteArray){es:List (Value×PV)}(h:Cnt es):(s.toList∈z2p es->z2p (bump s es)=z2p es)/\(s.toList∉z2p es->z2p (bump s es)=z2p es++[s.toList]):=by
 obtain⟨n,hn⟩:=h.find (.string s);rw[zg9 hn];exact y0k s _ es h
def zz6(es:List (Value×PV))(l:List ByteArray):List (Value×PV):=l.foldl (λe s=>bump s e) es
def nmS(l:List ByteArray):List (List UInt8):=l.map ByteArray.toList
theorem y2x:∀(l:List ByteArray) (es:List (Value×PV)),Cnt es->(z2p (zz6 es l)).length<=(z2p es).length+l.length /\
 ((z2p (zz6 es l)).length=(z2p es).length+l.length↔(∀s∈l,s.toList∉z2p es)/\(nmS l).Nodup)
 |[],es,_=>by simp[zz6,nmS]
 |s::r,es,h=>by
  obtain⟨ih1,ih2⟩:=y2x r (bump s es) (h.bump s);obtain⟨h1,h2⟩:=y9g s h;show(z2p (zz6 (bump s es) r)).length<=_/\((z2p (zz6 (bump s es) r)).length=_↔_)
  by_cases e:s.toList∈z2p es
  ·rw[h1 e]at ih1;refine⟨by simp only[A1];omega,λhl=>by simp only[A1]at hl;omega,λhb=>absurd e (hb.1 s (.head _))⟩
  ·have hk:=h2 e;rw[hk]at ih1 ih2;simp only[B4,A1,A5]at ih1 ih2⊢;refine⟨by omega,?_⟩;rw[show(z2p es).length+(r.length+1)=(z2p es).length+(0+1)+r.length by omega,ih2];constructor
   ·rintro⟨b1,b2⟩;refine⟨λx hx=>?_,Ed.2 ⟨λhm=>?_,b2⟩⟩
    ·rcases Aj.1 hx with rfl|hx
     ·exact e
     ·exact λhm=>b1 x hx (Ax.2 (.inl hm))
    ·obtain⟨x,hx,he⟩:=Cc.1 hm;exact b1 x hx (by rw[he];simp)
   ·rintro⟨b1,b2⟩;have b3:=Ed.1 b2;refine⟨λx hx hm=>?_,b3.2⟩;rcases Ax.1 hm with hm|hm
    ·exact b1 x (.tail _ hx) hm
    ·exact b3.1 (Cc.2 ⟨x,hx,by simpa using hm⟩)
theorem yy9(u:Un):((y2w (zz5 [] u.arrays) u.flows).length:Int)=u.arrays.length+u.flows.length↔(nmA u.arrays++nmF u.flows).Nodup:=by
 have e:y2w (zz5 [] u.arrays) u.flows=zz6 [] (u.arrays.map Ar.name++u.flows.map Fl.name):=by
  simp only[y2w,zz5,zz6,Dw,List.foldl_map]
 have hn:nmS (u.arrays.map Ar.name++u.flows.map Fl.name)=nmA u.arrays++nmF u.flows:=by
  simp only[nmS,nmA,nmF,Cm,En];rfl
 obtain⟨_,h2⟩:=y2x (u.arrays.map Ar.name++u.flows.map Fl.name) [] .nil;rw[e];simp only[z2p,A8,B4,A5,C0]at h2;rw[<- hn];constructor
 ·intro h;exact(h2.1 oM0).2
 ·intro h;have:=h2.2 ⟨λs _=>by simp,h⟩;omega
theorem j3a(u:Un):z8z u=z1f u:=by
 have hA:=gA_iff u [] u.arrays rfl;have hF:=gF_iff u [] u.flows rfl;simp only[A5]at hA hF;rw[Ck];unfold z8z z1f;simp only[A0,Bi,Av,yy9];rw[show((0:Nat):Int)=0 from rfl]at hA hF;rw[hA,hF,Fk];constructor
 ·rintro⟨⟨⟨a1,a2⟩,a3,a4,a5⟩,a6⟩;exact⟨⟨⟨λa ha=>⟨a1 a ha,λhm=>a5 _ (Cc.2 ⟨a,ha,rfl⟩) _ hm rfl,by simp[nmA]⟩,a3⟩,λf hf=>⟨a2 f hf,by simp[nmF]⟩,a4⟩,a6⟩
 ·rintro⟨⟨⟨a1,a3⟩,a2,a4⟩,a6⟩;refine⟨⟨⟨λa ha=>(a1 a ha).1,λf hf=>(a2 f hf).1⟩,a3,a4,λx hx y hy e=>?_⟩,a6⟩;obtain⟨a,ha,rfl⟩:=Cc.1 hx;exact(a1 a ha).2.1 (e▸hy)
theorem y4b(u:Un):∀(l:List Fl)(i:Int),(∀f∈l,0<=f.params/\f.params<=f.types.length)->z9o u l i=z5p u l i
 |[],_,_=>rfl
 |f::r,i,h=>by
  obtain⟨h1,h2⟩:=h f (.head _);simp only[z9o,z5p,j39 u f h1 h2,y4b u r (i+1) (λf hf=>h f (.tail _ hf))]
theorem ze8(u:Un):z4v u=z1e u:=by
 unfold z4v z1e;rw[j3a]
 cases h:z1f u with
 |false=>rfl
 |true=>simp only[Ca];exact y4b u _ _ (z55 h)
theorem Nd.enc_len(x:Nd):x.enc.length=8:=by rw[Nd.enc_eq,Nd.cells_eta];rfl
theorem Nd.enc_one(x:Nd):∀y∈x.enc,y.one=true:=by
 rw[Nd.enc_eq,Nd.cells_eta];intro y hy;simp only[Aj,Bs,Ez]at hy;rcases hy with rfl|rfl|rfl|rfl|rfl|rfl|rfl|rfl<;>rfl
theorem hw_node{l:List Nd}:∀el∈l.map Nd.enc,el.length=8:=by
 intro el hel;obtain⟨x,_,rfl⟩:=Cc.1 hel;exact x.enc_len
def tot:List (List Nd)->Nat
 |[]=>0
 |l::r=>l.length+tot r
theorem y26:∀ks:List (List Nd),ks.flatten.length=tot ks
 |[]=>rfl
 |l::r=>by simp[tot,y26 r]
def z1y(x:Nd):Bool:=x.kind==1||x.kind==2||x.kind==3||(x.kind==4&&x.op != 4&&x.op != 5)
def vKey(v:Int):Value:=.int .i64 v
def vsOf(l:List Int):List (Value×PV):=l.foldl (λe v=>mput (vKey v) (.agg []) e) []
def VSet(es:List (Value×PV)):Prop:=(∀e∈es,z1v (.int .i64) e.1=true)/\∀e∈es,e.2=.agg []
theorem VSet.nil:VSet []:=⟨λ_ h=>by simp at h,λ_ h=>by simp at h⟩
theorem VSet.put{es:List (Value×PV)}(h:VSet es)(v:Int):VSet (mput (vKey v) (.agg []) es):=by
 refine⟨λe he=>?_,λe he=>?_⟩
 ·rcases z45 he with rfl|he
  ·rfl
  ·exact h.1 e he
 ·rcases z45 he with rfl|he
  ·rfl
  ·exact h.2 e he
theorem y97(l:List Int)(v:Int):mput (vKey v) (.agg []) (vsOf l)=vsOf (l++[v]):=by simp[vsOf]
theorem VSet.of(l:List Int):VSet (vsOf l):=by
 have key:∀(l:List Int) (es:List (Value×PV)),VSet es->VSet (l.foldl (λe v=>mput (vKey v) (.agg []) e) es):=by
  intro l
  induction l with
  |nil=>exact λ_ h=>h
  |cons v r ih=>exact λes h=>ih _ (h.put v)
 exact key l [] .nil
theorem y7f(k k':Int)(p:PV):∀(es:List (Value×PV)),VSet es->z1k (vKey k) (mput (vKey k') p es)=if k=k' then some p else z1k (vKey k) es
 |[],_=>by
  simp only[mput,z1k]
  by_cases e:k=k'
  ·simp[e,vKey,keyB]
  ·simp[e,vKey,keyB]
 |(a,q)::r,h=>by
  have ha:=h.1 (a,q) (.head _);have hr:VSet r:=⟨λe he=>h.1 e (.tail _ he),λe he=>h.2 e (.tail _ he)⟩;have ih:=y7f k k' p r hr
  cases a with
  |int kk z =>
   simp only[mput]
   by_cases e1:k'=z
   ·have b1:keyB (vKey k') (.int kk z)=true:=by simp[vKey,keyB,e1]
    rw[if_pos b1];simp only[z1k]
    by_cases e:k=k'
    ·simp[e,vKey,keyB]
    ·have b2:¬keyB (vKey k) (vKey k')=true:=by simp[vKey,keyB,e]
     have b3:¬keyB (vKey k) (.int kk z)=true:=by simp[vKey,keyB];omega
     rw[if_neg b2,if_neg e,if_neg b3]
   ·have b1:¬keyB (vKey k') (.int kk z)=true:=by simp[vKey,keyB,e1]
    rw[if_neg b1];simp only[z1k,ih]
    by_cases e:k=z
    ·have b3:keyB (vKey k) (.int kk z)=true:=by simp[vKey,keyB,e]
     rw[if_pos b3,if_neg oM0,if_pos b3]
    ·have b3:¬keyB (vKey k) (.int kk z)=true:=by simp[vKey,keyB,e]
     rw[if_neg b3,if_neg b3]
  |_=>simp[z1v]at ha
theorem vsOf_has(l:List Int)(v:Int):(z1k (vKey v) (vsOf l)).isSome=l.contains v:=by
 have key:∀(l:List Int) (es:List (Value×PV)),VSet es->(z1k (vKey v) (l.foldl (λe v=>mput (vKey v) (.agg []) e) es)).isSome=((z1k (vKey v) es).isSome||l.contains v):=by
  intro l
  induction l with
  |nil=>intro es _;simp
  |cons a r ih =>
   intro es h;rw[Dx,ih _ (h.put a),y7f _ _ _ _ h,E8]
   by_cases e:v=a
   ·simp[e]
   ·have eb:(v==a)=false:=by simpa using e
    rw[if_neg e,eb,Cd]
 have:=key l [] .nil;simpa[vsOf,z1k]using this
theorem unit_sub{F:Nat->Prop}{ρ:Loc}{σ:Heap'}{w:World}{v:Value}{k:Value}{es:List (Value×PV)}(h:VSet es)(hr:RepI F ρ σ w (.pv ((z1k k es).getD (.val (.agg #[])))) v):RepI F ρ σ w (.pv (.agg [])) v:=by
 cases hf:z1k k es with
 |none =>
  rw[hf]at hr;obtain rfl:=hr.val
  exact .pv _ _ (.agg [] #[] (λ_=>undef) rfl (λj x hj=>by simp at hj) λj x hj=>by simp at hj)
 |some p =>
  obtain⟨a,ha⟩:=z7j hf;have:=h.2 _ ha;simp only at this;subst this;rw[hf]at hr;exact hr
def z0s(vs:List Int):List Nd->List Nd×List Nd
 |[]=>([],[])
 |x::r =>
  if z1y x then
   if x.args.any (λv=>vs.contains v)then((z0s (vs++[x.outs.headD 0]) r).1,x::(z0s (vs++[x.outs.headD 0]) r).2)
   else(x::(z0s vs r).1,(z0s vs r).2)
  else([],x::r)
theorem za6:∀(l:List Nd)(vs:List Int),(z0s vs l).1.length+(z0s vs l).2.length=l.length
 |[],_=>rfl
 |x::r,vs=>by
  unfold z0s;split
  ·split
   ·have:=za6 r (vs++[x.outs.headD 0]);simp only[A1];omega
   ·have:=za6 r vs;simp only[A1];omega
  ·simp
def hOut(kind op n:Int)(name:ByteArray)(args outs params:List Int)(ks:List (List Nd)):List Nd :=
 if kind==11 then
  match ks with
  |b::r=>(z0s params b).1++[.mk kind op n name args outs params ((z0s params b).2::r)]
  |[]=>[.mk kind op n name args outs params []]
 else[.mk kind op n name args outs params ks]
mutual
def z4x:Nd->List Nd
 |.mk kind op n name args outs params ks=>hOut kind op n name args outs params (z4b ks)
def z0z:List Nd->List Nd
 |[]=>[]
 |x::r=>z4x x++z0z r
def z4b:List (List Nd)->List (List Nd)
 |[]=>[]
 |l::r=>z0z l::z4b r
end
theorem zx4(x:Nd):z4x x=hOut x.kind x.op x.n x.name x.args x.outs x.params (z4b x.kids):=by cases x;simp[z4x,Nd.kind,Nd.op,Nd.n,Nd.name,Nd.args,Nd.outs,Nd.params,Nd.kids]
theorem y07:∀ks,z4b ks=ks.map z0z
 |[]=>by simp[z4b]
 |l::r=>by simp[z4b,y07 r]
mutual
def hOkN:Nd->Bool
 |.mk kind op n name args outs params ks=>(!z1y (.mk kind op n name args outs params ks) || !outs.isEmpty)&&(kind != 11 || !ks.isEmpty)&&hOkK ks
def hOkL:List Nd->Bool
 |[]=>true
 |x::r=>hOkN x&&hOkL r
def hOkK:List (List Nd)->Bool
 |[]=>true
 |l::r=>hOkL l&&hOkK r
end
theorem hOkN_eq(x:Nd):hOkN x=((!z1y x || !x.outs.isEmpty)&&(x.kind != 11 || !x.kids.isEmpty)&&hOkK x.kids):=by cases x;simp[hOkN,Nd.kind,Nd.outs,Nd.kids]
theorem yi6:∀{l:List Nd}{x:Nd},hOkL l=true->x∈l->hOkN x=true
 |y::r,x,h,hx=>by
  simp only[hOkL,A0]at h;rcases Aj.1 hx with rfl|hx
  ·exact h.1
  ·exact yi6 h.2 hx
theorem y4u:∀{l:List (List Nd)} {x:List Nd},hOkK l=true->x∈l->hOkL x=true
 |y::r,x,h,hx=>by
  simp only[hOkK,A0]at h;rcases Aj.1 hx with rfl|hx
  ·exact h.1
  ·exact y4u h.2 hx
def Outs(l:List Nd):Prop:=∀x∈l,z1y x=true->x.outs≠[]
theorem y08:∀(l:List Nd)(vs:List Int)(x:Nd),(x∈(z0s vs l).1∨x∈(z0s vs l).2)↔x∈l
 |[],_,x=>by simp[z0s]
 |y::r,vs,x=>by
  unfold z0s;split
  ·split
   ·have:=y08 r (vs++[y.outs.headD 0]) x;simp only[Aj];constructor
    ·rintro(h|h|h)
     ·exact .inr (this.1 (.inl h))
     ·exact .inl h
     ·exact .inr (this.1 (.inr h))
    ·rintro(h|h)
     ·exact .inr (.inl h)
     ·rcases this.2 h with h|h
      ·exact .inl h
      ·exact .inr (.inr h)
   ·have:=y08 r vs x;simp only[Aj];constructor
    ·rintro((h|h)|h)
     ·exact .inl h
     ·exact .inr (this.1 (.inl h))
     ·exact .inr (this.1 (.inr h))
    ·rintro(h|h)
     ·exact .inl (.inl h)
     ·rcases this.2 h with h|h
      ·exact .inl (.inr h)
      ·exact .inr h
  ·simp
mutual
theorem yq4:∀(x:Nd),hOkN x=true->Outs (z4x x)
 |.mk kind op n name args outs params ks,h=>by
  simp only[hOkN,A0,Bo,Bg]at h;have hown:∀ks',Outs [.mk kind op n name args outs params ks']:=by
   intro ks' y hy hm;obtain rfl:=An.1 hy;have hm2:z1y (.mk kind op n name args outs params ks)=true:=hm;rcases h.1.1 with h1|h1
   ·rw[h1]at hm2;cases hm2
   ·intro e;have e2:outs=[]:=e;rw[e2]at h1;cases h1
  unfold z4x hOut;split
  ·match ks,h with
   |[],_=>simp only[z4b];exact hown _
   |l::r,h =>
    simp only[z4b];have hl:hOkL l=true:=by have:=h.2;simp only[hOkK,A0]at this;exact this.1
    have ih:=zp6 l hl;intro y hy;rcases Ax.1 hy with hy|hy
    ·exact ih y ((y08 (z0z l) params y).1 (.inl hy))
    ·exact hown _ y hy
  ·exact hown _
theorem zp6:∀(l:List Nd),hOkL l=true->Outs (z0z l)
 |[],_=>by simp[z0z,Outs]
 |x::r,h=>by
  simp only[hOkL,A0]at h;intro y hy;simp only[z0z]at hy;rcases Ax.1 hy with hy|hy
  ·exact yq4 x h.1 y hy
  ·exact zp6 r h.2 y hy
end
mutual
theorem j0b:∀(x:Nd),(z4x x).length<=ndW x
 |.mk kind op n name args outs params ks=>by
  unfold z4x hOut;split
  ·match ks with
   |[]=>simp[z4b,ndW];omega
   |l::r =>
    have h1:=zk7 l;have h2:=za6 (z0z l) params;simp only[z4b,ndW,kdW,B4,A1,A5];omega
  ·simp[ndW];omega
theorem zk7:∀(l:List Nd),(z0z l).length<=lsW l
 |[]=>by simp[z0z]
 |x::r=>by
  have h1:=j0b x;have h2:=zk7 r;simp only[z0z,lsW,B4];omega
end
theorem yj2:∀ks:List (List Nd),ks.length<=kdW ks
 |[]=>by simp
 |l::r=>by have:=yj2 r;simp only[kdW,A1];omega
def z5j(f:Fl):Fl:=⟨f.name,f.ty,f.params,f.types,z0z f.body⟩
def z3u(u:Un):Un:=⟨u.arrays,u.flows.map z5j⟩
def z6o(u:Un):Un×Int:=if (z4v u).1==0 then(z3u u,0)else(⟨[],[]⟩,1)
def inR(n:Nat)(ds:List Int):Prop:=∀v∈ds,0<=v/\v<n
def Frs(set:List Bool)(ds:List Int):Prop:=ds.Nodup/\∀v∈ds,set.getD v.toNat false=false
def z34(set:List Bool)(ds:List Int):List Bool:=ds.foldl (λs v=>s.set v.toNat true) set
theorem z4d:∀(ds:List Int)(set:List Bool),(z34 set ds).length=set.length
 |[],_=>rfl
 |v::r,set=>by have:=z4d r (set.set v.toNat true);simpa[z34]using this
theorem zb6(set:List Bool)(a b:List Int):z34 set (a++b)=z34 (z34 set a) b:=by simp[z34]
theorem y0j{n:Nat}:∀(ds:List Int)(set:List Bool),set.length=n->inR n ds->∀v:Int,0<=v->v<n->(z34 set ds).getD v.toNat false=(ds.contains v||set.getD v.toNat false)
 |[],set,_,_,v,_,_=>by simp[z34]
 |d::r,set,hn,hr,v,h0,h1=>by
  have ih:=y0j r (set.set d.toNat true) (by simpa using hn) (λv hv=>hr v (.tail _ hv)) v h0 h1;obtain⟨d0,d1⟩:=hr d (.head _);show(z34 (set.set d.toNat true) r).getD v.toNat false=_;rw[ih,zk5,E8]
  by_cases e:v=d
  ·subst e;rw[if_pos ⟨rfl,by omega⟩];simp
  ·have e2:¬(d.toNat=v.toNat/\d.toNat<set.length):=by omega
   have e3:(v==d)=false:=by simpa using e
   rw[if_neg e2,e3,Cd]
theorem y03{n:Nat}{set:List Bool}{a b:List Int}(hn:set.length=n)(ha:inR n a)(hb:inR n b):Frs set (a++b)↔Frs set a/\Frs (z34 set a) b:=by
 unfold Frs;rw[Fk];constructor
 ·rintro⟨⟨h1,h2,h3⟩,h4⟩;refine⟨⟨h1,λv hv=>h4 v (by simp[hv])⟩,h2,λv hv=>?_⟩;rw[y0j a set hn ha v (hb v hv).1 (hb v hv).2,h4 v (by simp[hv])];have:a.contains v=false:=by
   rw[<- Fq,List.contains_iff_mem];exact λhm=>h3 v hm v hv rfl
  rw[this];rfl
 ·rintro⟨⟨h1,h2⟩,h3,h4⟩;have hkey:∀v∈b,a.contains v=false/\set.getD v.toNat false=false:=λv hv=>by
   have:=h4 v hv;rw[y0j a set hn ha v (hb v hv).1 (hb v hv).2,Bu]at this;exact this
  refine⟨⟨h1,h3,λx hx y hy e=>?_⟩,λv hv=>?_⟩
  ·subst e;have:=(hkey x hy).1;rw[<- Fq,List.contains_iff_mem]at this;exact this hx
  ·rcases Ax.1 hv with hv|hv
   ·exact h2 v hv
   ·exact(hkey v hv).2
def z7z(tys:List Int):List Int->List Int->Bool
 |[],[]=>true
 |v::r,w::ws=>z9n tys v w&&z7z tys r ws
 |_,_=>false
theorem z3s{tys:List Int}:∀{l want:List Int},z7z tys l want=true->inR tys.length l
 |[],[],_=>λv hv=>by simp at hv
 |[],_::_,h=>by simp[z7z]at h
 |_::_,[],h=>by simp[z7z]at h
 |x::r,w::ws,h=>by
  simp only[z7z,A0,z9n,Bj]at h;intro v hv;rcases Aj.1 hv with rfl|hv
  ·exact⟨h.1.1.1,h.1.1.2⟩
  ·exact z3s h.2 v hv
theorem zc9{tys:List Int}:∀{l want:List Int},z7z tys l want=true->l.length=want.length
 |[],[],_=>rfl
 |[],_::_,h=>by simp[z7z]at h
 |_::_,[],h=>by simp[z7z]at h
 |x::r,w::ws,h=>by
  simp only[z7z,A0]at h;simp[zc9 h.2]
theorem yx8(tys:List Int)(set:List Bool)(v w:Int):z99 tys set v w=false↔z9n tys v w=true/\set.getD v.toNat false=false:=by
 unfold z99 z9n;simp only[Bu,C8,A0,Bj,Bo];constructor
 ·rintro⟨⟨⟨h1,h2⟩,h3⟩,h4⟩;refine⟨⟨⟨by omega,by omega⟩,?_⟩,h3⟩
  cases hw:(w==0)with
  |true=>exact .inl rfl
  |false=>exact .inr (by simpa[bne,hw]using h4)
 ·rintro⟨⟨⟨h1,h2⟩,h4⟩,h3⟩;refine⟨⟨⟨by omega,by omega⟩,h3⟩,?_⟩;rcases h4 with h4|h4
  ·simp[bne,h4]
  ·rw[show(tys.getD v.toNat 0 != w)=false from by rw[bne,h4];rfl,Cy]
theorem y49(tys:List Int):∀(l want:List Int)(set:List Bool),l.length=want.length->set.length=tys.length ->
 ((z2h tys set l want).1=true↔z7z tys l want=true/\Frs set l)/\((z2h tys set l want).1=true->(z2h tys set l want).2=z34 set l)
 |[],[],set,_,_=>by simp[z2h,z7z,Frs,z34]
 |[],_::_,_,h,_=>by simp at h
 |_::_,[],_,h,_=>by simp at h
 |x::r,w::ws,set,hl,hn=>by
  obtain⟨ih1,ih2⟩:=y49 tys r ws (set.set x.toNat true) (by simpa using hl) (by simpa using hn);simp only[z2h]
  cases hb:z99 tys set x w with
  |true =>
   simp only[Ca,Ap,false_iff,not_and,false_implies,and_true];intro h1 h2;simp only[z7z,A0]at h1;have:=(yx8 tys set x w).2 ⟨h1.1,h2.2 x (.head _)⟩
   rw[hb]at this;cases this
  |false =>
   obtain⟨b1,b2⟩:=(yx8 tys set x w).1 hb;simp only[Ap,C3];refine⟨?_,λh=>ih2 h⟩;rw[ih1];simp only[z7z,b1,B5];refine Ee λhv=>?_;have hx:inR tys.length [x]:=λv hv=>by
    obtain rfl:=An.1 hv;simp only[z9n,A0,Bj]at b1;exact⟨b1.1.1,b1.1.2⟩
   have:=y03 (a:=[x]) (b:=r) hn hx (z3s hv);rw[show x::r=[x]++r from rfl,this];exact⟨λh=>⟨⟨by simp,λv hv=>by obtain rfl:=An.1 hv;exact b2⟩,h⟩,λh=>h.2⟩
theorem y68(tys:List Int)(set:List Bool)(l want:List Int)(hn:set.length=tys.length) :
 ((z1s tys set l want).1=true↔z7z tys l want=true/\Frs set l)/\((z1s tys set l want).1=true->(z1s tys set l want).2=z34 set l):=by
 unfold z1s
 by_cases hl:l.length=want.length
 ·have e:((l.length:Int)==want.length)=true:=by simp;omega
  rw[if_pos e];exact y49 tys l want set hl hn
 ·have e:¬((l.length:Int)==want.length)=true:=by simp;omega
  rw[if_neg e];refine⟨⟨λh=>(by cases h),λh=>absurd (zc9 h.1) hl⟩,λh=>by cases h⟩
structure SForm where
 b:Bool
 want:Option (List Int)
def SForm.run(s:SForm)(tys:List Int)(outs:List Int)(set:List Bool):Bool×List Bool:=match s.want with
 |some wt=>andS s.b set (z1s tys set outs wt)
 |none=>(s.b&&(outs.length:Int)==0,set)
def SForm.ok(s:SForm)(tys:List Int)(outs:List Int):Bool:=match s.want with
 |some wt=>s.b&&z7z tys outs wt
 |none=>s.b&&(outs.length:Int)==0
def z8y(u:Un)(f:Fl)(x:Nd)(seen:List Int)(w:Wh):SForm :=
 if x.kind==1 then⟨z07 f.types seen x.args [],some [1]⟩
 else if x.kind==2 then⟨(x.n==0||x.n==1)&&z07 f.types seen x.args [],some [2]⟩
 else if x.kind==3 then⟨z2y x.op&&z07 f.types seen x.args [(z0p x.op).1],some [(z0p x.op).2]⟩
 else if x.kind==4 then⟨z42 x.op&&z07 f.types seen x.args [(z0p x.op).1,(z0p x.op).1]&&f.types.getD (x.args.getD 0 0).toNat 0==f.types.getD (x.args.getD 1 0).toNat 0,some [(z0p x.op).2]⟩
 else if x.kind==5 then⟨decide (z0h x.name u.arrays 0≥0)&&z07 f.types seen x.args [1],some [1]⟩
 else if x.kind==6 then⟨decide (z0h x.name u.arrays 0≥0)&&z07 f.types seen x.args [1,1],none⟩
 else if x.kind==7 then(if decide (z05 x.name u.flows 0≥0)=true then match u.flows[(z05 x.name u.flows 0).toNat]? with
  |some g=>⟨z07 f.types seen x.args (g.types.take g.params.toNat),some [g.ty]⟩
  |none=>⟨false,none⟩
  else⟨false,none⟩)
 else if x.kind==8 then⟨(x.args.length:Int)==0,some [1]⟩
 else if x.kind==9 then⟨z07 f.types seen x.args [1],none⟩
 else if x.kind==12 then⟨w.If&&z07 f.types seen x.args w.Yield,none⟩
 else if x.kind==13 then⟨w.Loop&&z07 f.types seen x.args w.Next,none⟩
 else if x.kind==14 then⟨w.Loop&&z07 f.types seen x.args w.Left,none⟩
 else if x.kind==15 then⟨z07 f.types seen x.args [f.ty],none⟩
 else⟨false,none⟩
theorem yf5(u:Un)(f:Fl)(set:List Bool)(x:Nd)(seen:List Int)(w:Wh):z1h u f set x seen w=(z8y u f x seen w).run f.types x.outs set:=by
 unfold z1h z8y zc2
 by_cases k1:(x.kind==1)=true
 ·rw[if_pos k1,if_pos k1];rfl
 rw[if_neg k1,if_neg k1]
 by_cases k2:(x.kind==2)=true
 ·rw[if_pos k2,if_pos k2];rfl
 rw[if_neg k2,if_neg k2]
 by_cases k3:(x.kind==3)=true
 ·rw[if_pos k3,if_pos k3];rfl
 rw[if_neg k3,if_neg k3]
 by_cases k4:(x.kind==4)=true
 ·rw[if_pos k4,if_pos k4];rfl
 rw[if_neg k4,if_neg k4]
 by_cases k5:(x.kind==5)=true
 ·rw[if_pos k5,if_pos k5];rfl
 rw[if_neg k5,if_neg k5]
 by_cases k6:(x.kind==6)=true
 ·rw[if_pos k6,if_pos k6];rfl
 rw[if_neg k6,if_neg k6]
 by_cases k7:(x.kind==7)=true
 ·rw[if_pos k7,if_pos k7]
  by_cases hp:decide (z05 x.name u.flows 0≥0)=true
  ·rw[if_pos hp,if_pos hp]
   cases u.flows[(z05 x.name u.flows 0).toNat]? with
   |none=>rfl
   |some g=>rfl
  ·rw[if_neg hp,if_neg hp];rfl
 rw[if_neg k7,if_neg k7]
 by_cases k8:(x.kind==8)=true
 ·rw[if_pos k8,if_pos k8];rfl
 rw[if_neg k8,if_neg k8]
 by_cases k9:(x.kind==9)=true
 ·rw[if_pos k9,if_pos k9];rfl
 rw[if_neg k9,if_neg k9]
 by_cases k12:(x.kind==12)=true
 ·rw[if_pos k12,if_pos k12];rfl
 rw[if_neg k12,if_neg k12]
 by_cases k13:(x.kind==13)=true
 ·rw[if_pos k13,if_pos k13];rfl
 rw[if_neg k13,if_neg k13]
 by_cases k14:(x.kind==14)=true
 ·rw[if_pos k14,if_pos k14];rfl
 rw[if_neg k14,if_neg k14]
 by_cases k15:(x.kind==15)=true
 ·rw[if_pos k15,if_pos k15];rfl
 rw[if_neg k15,if_neg k15];rfl
theorem run_iff{tys outs:List Int}{set:List Bool}(s:SForm)(hn:set.length=tys.length):((s.run tys outs set).1=true↔s.ok tys outs=true/\Frs set outs)/\((s.run tys outs set).1=true->(s.run tys outs set).2=z34 set outs):=by
 obtain⟨b,want⟩:=s
 cases want with
 |some wt =>
  obtain⟨h1,h2⟩:=y68 tys set outs wt hn;simp only[SForm.run,SForm.ok,andS]
  cases b with
  |false=>simp
  |true=>simp only[Ca,B5];exact⟨h1,h2⟩
 |none =>
  simp only[SForm.run,SForm.ok];constructor
  ·constructor
   ·intro h;refine⟨h,?_⟩;simp only[A0,Av]at h;have:outs=[]:=Aw oM0;subst this;exact⟨by simp,λv hv=>by simp at hv⟩
   ·exact λh=>h.1
  ·intro h;simp only[A0,Av]at h;have:outs=[]:=Aw oM0;subst this;rfl
theorem ok_in{tys outs:List Int}{s:SForm}(h:s.ok tys outs=true):inR tys.length outs:=by
 obtain⟨b,want⟩:=s
 cases want with
 |some wt=>simp only[SForm.ok,A0]at h;exact z3s h.2
 |none =>
  simp only[SForm.ok,A0,Av]at h;have:outs=[]:=Aw oM0;subst this;exact λv hv=>by simp at hv
mutual
def dN:Nd->List Int
 |.mk _ _ _ _ _ outs params ks=>params++(dK ks++outs)
def dL:List Nd->List Int
 |[]=>[]
 |x::r=>dN x++dL r
def dK:List (List Nd)->List Int
 |[]=>[]
 |l::r=>dL l++dK r
end
theorem dN_eq(x:Nd):dN x=x.params++(dK x.kids++x.outs):=by cases x;simp[dN,Nd.params,Nd.kids,Nd.outs]
def zer(l:List Int):List Int:=List.replicate l.length 0
def w1(w:Wh)(f:Fl)(x:Nd):Wh:=⟨true,w.Loop,r8of f.types x.outs,w.Next,w.Left⟩
def w2(f:Fl)(x:Nd):Wh:=⟨false,true,[],r8of f.types x.params,r8of f.types x.outs⟩
def y5e(x:Nd):Bool:=(x.outs.length:Int)==0 || !z08 x
mutual
def z6w(u:Un)(f:Fl)(deep:Int)(w:Wh)(seen:List Int):Nd->Bool
 |.mk kind op n name args outs params kids =>
  z1n (.mk kind op n name args outs params kids) &&
  (if kind==10 then
   match kids with
   |a::b::_=>z07 f.types seen args [2]&&(!a.isEmpty&&vGo u f (deep+1) (w1 w f (.mk kind op n name args outs params kids)) seen a)&&(!b.isEmpty&&vGo u f (deep+1) (w1 w f (.mk kind op n name args outs params kids)) seen b) &&
    y5e (.mk kind op n name args outs params kids)&&z7z f.types outs (zer outs)
   |_=>false
  else if kind==11 then
   match kids with
   |a::_=>z07 f.types seen args (r8of f.types params)&&z7z f.types params (zer params)&&(!a.isEmpty&&vGo u f (deep+1) (w2 f (.mk kind op n name args outs params kids)) (seen++params) a) &&
    y5e (.mk kind op n name args outs params kids)&&z7z f.types outs (zer outs)
   |_=>false
  else(z8y u f (.mk kind op n name args outs params kids) seen w).ok f.types outs)
def vGo(u:Un)(f:Fl)(deep:Int)(w:Wh)(all:List Int):List Nd->Bool
 |[]=>true
 |x::r=>!decide (deep > 100)&&z6w u f deep w all x&&(z08 x==r.isEmpty)&&vGo u f deep w (all++x.outs) r
end
def z3k(u:Un)(f:Fl)(deep:Int)(w:Wh)(all:List Int)(l:List Nd):Bool:=!l.isEmpty&&vGo u f deep w all l
theorem z5v(u:Un)(f:Fl)(deep:Int)(w:Wh)(seen:List Int){x:Nd}{a b:List Nd}(h:z1n x=true)(hk:x.kind=10)(hx:x.kids=[a,b]) :
 z6w u f deep w seen x=(z07 f.types seen x.args [2]&&z3k u f (deep+1) (w1 w f x) seen a&&z3k u f (deep+1) (w1 w f x) seen b&&y5e x&&z7z f.types x.outs (zer x.outs)):=by
 cases x
 simp only[Nd.kind,Nd.kids]at hk hx;subst hk hx;unfold z6w;simp only[h,B5,Nd.args,Nd.outs];rfl
theorem z3i(u:Un)(f:Fl)(deep:Int)(w:Wh)(seen:List Int){x:Nd}{a:List Nd}(h:z1n x=true)(hk:x.kind=11)(hx:x.kids=[a]) :
 z6w u f deep w seen x=(z07 f.types seen x.args (r8of f.types x.params)&&z7z f.types x.params (zer x.params)&&z3k u f (deep+1) (w2 f x) (seen++x.params) a&&y5e x&&z7z f.types x.outs (zer x.outs)):=by
 cases x
 simp only[Nd.kind,Nd.kids]at hk hx;subst hk hx;unfold z6w;simp only[h,B5,Nd.args,Nd.outs,Nd.params];rfl
theorem z2r(u:Un)(f:Fl)(deep:Int)(w:Wh)(seen:List Int){x:Nd}(h:z1n x=true)(h1:(x.kind==10)=false)(h2:(x.kind==11)=false) :
 z6w u f deep w seen x=(z8y u f x seen w).ok f.types x.outs:=by
 cases x
 simp only[Nd.kind]at h1 h2;unfold z6w;simp only[h,B5,Nd.outs,h1,h2,Ap,C3]
theorem z2l(u:Un)(f:Fl)(deep:Int)(w:Wh)(seen:List Int){x:Nd}(h:z6w u f deep w seen x=true):z1n x=true:=by
 cases x
 unfold z6w at h;simp only[A0]at h;exact h.1
theorem zz3{x:Nd}(h:z1n x=true)(hk:(x.kind==11)=false):x.params=[]:=by
 simp only[z1n,A0,hk,Cd,Av]at h;exact Aw oM0
theorem z8o{x:Nd}(h:z1n x=true)(h1:(x.kind==10)=false)(h2:(x.kind==11)=false):x.kids=[]:=by
 have:=zi2 h;simp only[r8kn,h1,h2,Ap,C3]at this;exact Aw oM0
theorem zz7{x:Nd}(h:z1n x=true)(h1:(x.kind==10)=false)(h2:(x.kind==11)=false):dN x=x.outs:=by
 rw[dN_eq,zz3 h h2,z8o h h1 h2];rfl
theorem dN_if{x:Nd}{a b:List Nd}(h:z1n x=true)(hk:x.kind=10)(hx:x.kids=[a,b]):dN x=dL a++(dL b++x.outs):=by
 rw[dN_eq,zz3 h (by rw[hk];rfl),hx];simp[dK]
theorem y9j{x:Nd}{a:List Nd}(hx:x.kids=[a]):dN x=x.params++(dL a++x.outs):=by
 rw[dN_eq,hx];simp[dK]
theorem zp8{n:Nat}{a b:List Int}:inR n (a++b)↔inR n a/\inR n b :=
 ⟨λh=>⟨λv hv=>h v (by simp[hv]),λv hv=>h v (by simp[hv])⟩,λh v hv=>(Ax.1 hv).elim (h.1 v) (h.2 v)⟩
theorem zx2{n:Nat}{set:List Bool}{a b d:List Int}(hn:set.length=n)(ha:inR n a)(hb:inR n b)(hd:inR n d):Frs set (a++(b++d))↔Frs set a/\Frs (z34 set a) b/\Frs (z34 (z34 set a) b) d:=by
 rw[y03 hn ha (zp8.2 ⟨hb,hd⟩),y03 ((z4d a set).trans hn) hb hd]
def RG(u:Un)(f:Fl)(l:List Nd):Prop:=∀(deep:Int)(w:Wh)(all:List Int),vGo u f deep w all l=true->inR f.types.length (dL l)
theorem yb0(u:Un)(f:Fl)(x:Nd)(ih:∀q∈x.kids,RG u f q)(deep:Int)(w:Wh)(seen:List Int)(h:z6w u f deep w seen x=true):inR f.types.length (dN x):=by
 have hb:=z2l u f deep w seen h
 by_cases h10:x.kind=10
 ·obtain⟨a,b,hk⟩:=z3v hb h10;rw[z5v u f deep w seen hb h10 hk]at h;simp only[A0,z3k]at h;rw[dN_if hb h10 hk];exact zp8.2 ⟨ih a (by rw[hk];simp) _ _ _ h.1.1.1.2.2,zp8.2 ⟨ih b (by rw[hk];simp) _ _ _ h.1.1.2.2,z3s h.2⟩⟩
 ·by_cases h11:x.kind=11
  ·obtain⟨a,hk⟩:=z25 hb h11;rw[z3i u f deep w seen hb h11 hk]at h;simp only[A0,z3k]at h;rw[y9j hk];exact zp8.2 ⟨z3s h.1.1.1.2,zp8.2 ⟨ih a (by rw[hk];simp) _ _ _ h.1.1.2.2,z3s h.2⟩⟩
  ·have e10:(x.kind==10)=false:=by simpa using h10
   have e11:(x.kind==11)=false:=by simpa using h11
   rw[z2r u f deep w seen hb e10 e11]at h;rw[zz7 hb e10 e11];exact ok_in h
theorem go_in(u:Un)(f:Fl):∀(l:List Nd),(∀x∈l,∀q∈x.kids,RG u f q)->RG u f l
 |[],_=>λ_ _ _ _ v hv=>by simp[dL]at hv
 |x::r,ih=>λdeep w all h=>by
  simp only[vGo,A0]at h;exact zp8.2 ⟨yb0 u f x (ih x (.head _)) _ _ _ h.1.1.2,go_in u f r (λy hy=>ih y (.tail _ hy)) _ _ _ h.2⟩
theorem rg_all(u:Un)(f:Fl):∀(N:Nat)(l:List Nd),SizeOf.sizeOf l<N->RG u f l
 |0,_,h=>absurd h (Al _)
 |N+1,l,hN=>go_in u f l λx hx q hq=>rg_all u f N q (Bc (z9t hx rfl hq) (C1 hN))
theorem rg(u:Un)(f:Fl)(l:List Nd):RG u f l:=rg_all u f _ l (Ab _)
def CH(u:Un)(f:Fl)(l:List Nd):Prop:=∀(deep:Int)(w:Wh)(seen:List Int)(set:List Bool),set.length=f.types.length ->
 ((z2o u f deep w seen set l).1=true↔z3k u f deep w seen l=true/\Frs set (dL l))/\((z2o u f deep w seen set l).1=true->(z2o u f deep w seen set l).2=z34 set (dL l))
theorem z52{q:Bool×List Bool}{k:List Bool->Bool×List Bool}:((andT q k).1=true↔q.1=true/\(k q.2).1=true)/\((andT q k).1=true->(andT q k).2=(k q.2).2):=by
 unfold andT
 cases q.1 with
 |false=>simp
 |true=>simp
theorem yz2(f:Fl)(x:Nd)(set:List Bool)(hn:set.length=f.types.length):((zf8 f x set).1=true↔(y5e x=true/\z7z f.types x.outs (zer x.outs)=true)/\Frs set x.outs)/\((zf8 f x set).1=true->(zf8 f x set).2=z34 set x.outs):=by
 obtain⟨h1,h2⟩:=y68 f.types set x.outs (zer x.outs) hn;unfold zf8 andS;show((if y5e x=true then _ else _:Bool×List Bool).1=true↔_)/\_
 by_cases ho:y5e x=true
 ·simp only[ho,Ca,true_and];exact⟨h1,λh=>by
   have ho2:((x.outs.length:Int)==0 || !z08 x)=true:=ho;rw[if_pos ho2]at h⊢;exact h2 h⟩
 ·have ho2:¬((x.outs.length:Int)==0 || !z08 x)=true:=ho;rw[if_neg ho,if_neg ho2];simp[ho]
theorem node_iff(u:Un)(f:Fl)(x:Nd)(ih:∀q∈x.kids,CH u f q)(deep:Int)(w:Wh)(seen:List Int)(set:List Bool)(hn:set.length=f.types.length) :
 ((z4y u f deep w seen set x).1=true↔z6w u f deep w seen x=true/\Frs set (dN x))/\((z4y u f deep w seen set x).1=true->(z4y u f deep w seen set x).2=z34 set (dN x)):=by
 cases hb:z1n x with
 |false =>
  rw[zi3 _ _ _ _ _ _ hb];refine⟨⟨λh=>(by cases h),λh=>?_⟩,λh=>by cases h⟩;have:=z2l u f deep w seen h.1
  rw[hb]at this;cases this
 |true =>
  by_cases h10:x.kind=10
  ·obtain⟨a,b,hk⟩:=z3v hb h10;rw[y12 _ _ _ _ _ _ hb h10 hk,z5v u f deep w seen hb h10 hk,dN_if hb h10 hk,show(⟨true,w.Loop,r8of f.types x.outs,w.Next,w.Left⟩:Wh)=w1 w f x from rfl]
   by_cases ht:z07 f.types seen x.args [2]=true
   ·rw[if_pos ht];obtain⟨a1,a2⟩:=ih a (by rw[hk];simp) (deep+1) (w1 w f x) seen set hn;have hna:(z34 set (dL a)).length=f.types.length:=(z4d _ _).trans hn;obtain⟨b1,b2⟩:=ih b (by rw[hk];simp) (deep+1) (w1 w f x) seen (z34 set (dL a)) hna;have hnb:(z34 (z34 set (dL a)) (dL b)).length=f.types.length:=(z4d _ _).trans hna;obtain⟨e1,e2⟩:=yz2 f x (z34 (z34 set (dL a)) (dL b)) hnb;have key:(andT (z2o u f (deep+1) (w1 w f x) seen set a) (λs1=>andT (z2o u f (deep+1) (w1 w f x) seen s1 b) λs2=>zf8 f x s2)).1=true ↔
     (z2o u f (deep+1) (w1 w f x) seen set a).1=true/\(z2o u f (deep+1) (w1 w f x) seen (z34 set (dL a)) b).1=true/\(zf8 f x (z34 (z34 set (dL a)) (dL b))).1=true:=by
     rw[z52.1];refine Ee λh=>?_;rw[a2 h,z52.1];exact Ee λh2=>by rw[b2 h2]
    refine⟨?_,λh=>?_⟩
    ·rw[key,a1,b1,e1];simp only[ht,B5,A0];constructor
     ·rintro⟨⟨c1,c2⟩,⟨c3,c4⟩,⟨c5,c6⟩,c7⟩;have ra:=rg u f a _ _ _ (by simp only[z3k,A0]at c1;exact c1.2);have rb:=rg u f b _ _ _ (by simp only[z3k,A0]at c3;exact c3.2);exact⟨⟨⟨⟨c1,c3⟩,c5⟩,c6⟩,(zx2 hn ra rb (z3s c6)).2 ⟨c2,c4,c7⟩⟩
     ·rintro⟨⟨⟨⟨c1,c3⟩,c5⟩,c6⟩,c7⟩;have ra:=rg u f a _ _ _ (by simp only[z3k,A0]at c1;exact c1.2);have rb:=rg u f b _ _ _ (by simp only[z3k,A0]at c3;exact c3.2);obtain⟨d1,d2,d3⟩:=(zx2 hn ra rb (z3s c6)).1 c7;exact⟨⟨c1,d1⟩,⟨c3,d2⟩,⟨c5,c6⟩,d3⟩
    ·obtain⟨k1,k2,k3⟩:=key.1 h;have h':=(z52.1.1 h).2;rw[z52.2 h,a2 k1];rw[a2 k1]at h';rw[z52.2 h',b2 k2,e2 k3,zb6,zb6]
   ·rw[if_neg ht];refine⟨⟨λh=>(by cases h),λh=>?_⟩,λh=>by cases h⟩;simp only[A0]at h;exact absurd h.1.1.1.1.1 ht
  ·by_cases h11:x.kind=11
   ·obtain⟨a,hk⟩:=z25 hb h11;rw[zi4 _ _ _ _ _ _ hb h11 hk,z3i u f deep w seen hb h11 hk,y9j hk,show(⟨false,true,[],r8of f.types x.params,r8of f.types x.outs⟩:Wh)=w2 f x from rfl,show List.replicate x.params.length 0=zer x.params from rfl]
    by_cases ht:z07 f.types seen x.args (r8of f.types x.params)=true
    ·rw[if_pos ht];obtain⟨a1,a2⟩:=y68 f.types set x.params (zer x.params) hn;have hna:(z34 set x.params).length=f.types.length:=(z4d _ _).trans hn;obtain⟨b1,b2⟩:=ih a (by rw[hk];simp) (deep+1) (w2 f x) (seen++x.params) (z34 set x.params) hna;have hnb:(z34 (z34 set x.params) (dL a)).length=f.types.length:=(z4d _ _).trans hna;obtain⟨e1,e2⟩:=yz2 f x (z34 (z34 set x.params) (dL a)) hnb;have key:(andT (z1s f.types set x.params (zer x.params)) (λs1=>andT (z2o u f (deep+1) (w2 f x) (seen++x.params) s1 a) λs2=>zf8 f x s2)).1=true ↔
      (z1s f.types set x.params (zer x.params)).1=true/\(z2o u f (deep+1) (w2 f x) (seen++x.params) (z34 set x.params) a).1=true/\(zf8 f x (z34 (z34 set x.params) (dL a))).1=true:=by
      rw[z52.1];refine Ee λh=>?_;rw[a2 h,z52.1];exact Ee λh2=>by rw[b2 h2]
     refine⟨?_,λh=>?_⟩
     ·rw[key,a1,b1,e1];simp only[ht,B5,A0];constructor
      ·rintro⟨⟨c1,c2⟩,⟨c3,c4⟩,⟨c5,c6⟩,c7⟩;have rb:=rg u f a _ _ _ (by simp only[z3k,A0]at c3;exact c3.2);exact⟨⟨⟨⟨c1,c3⟩,c5⟩,c6⟩,(zx2 hn (z3s c1) rb (z3s c6)).2 ⟨c2,c4,c7⟩⟩
      ·rintro⟨⟨⟨⟨c1,c3⟩,c5⟩,c6⟩,c7⟩;have rb:=rg u f a _ _ _ (by simp only[z3k,A0]at c3;exact c3.2);obtain⟨d1,d2,d3⟩:=(zx2 hn (z3s c1) rb (z3s c6)).1 c7;exact⟨⟨c1,d1⟩,⟨c3,d2⟩,⟨c5,c6⟩,d3⟩
     ·obtain⟨k1,k2,k3⟩:=key.1 h;have h':=(z52.1.1 h).2;rw[z52.2 h,a2 k1];rw[a2 k1]at h';rw[z52.2 h',b2 k2,e2 k3,zb6,zb6]
    ·rw[if_neg ht];refine⟨⟨λh=>(by cases h),λh=>?_⟩,λh=>by cases h⟩;simp only[A0]at h;exact absurd h.1.1.1.1.1 ht
   ·have e10:(x.kind==10)=false:=by simpa using h10
    have e11:(x.kind==11)=false:=by simpa using h11
    rw[z9c _ _ _ _ _ _ hb e10 e11,z2r u f deep w seen hb e10 e11,zz7 hb e10 e11,yf5];exact run_iff _ hn
theorem go_iff(u:Un)(f:Fl)(deep:Int)(w:Wh):∀(l:List Nd),(∀x∈l,∀q∈x.kids,CH u f q)->∀(all:List Int)(set:List Bool),set.length=f.types.length ->
 ((r8go u f deep w all set l).1=true↔vGo u f deep w all l=true/\Frs set (dL l))/\((r8go u f deep w all set l).1=true->(r8go u f deep w all set l).2=z34 set (dL l))
 |[],_,all,set,_=>by simp[r8go,vGo,dL,Frs,z34]
 |x::r,ih,all,set,hn=>by
  obtain⟨n1,n2⟩:=node_iff u f x (ih x (.head _)) deep w all set hn;have hm:(z34 set (dN x)).length=f.types.length:=(z4d _ _).trans hn;obtain⟨r1,r2⟩:=go_iff u f deep w r (λy hy=>ih y (.tail _ hy)) (all++x.outs) (z34 set (dN x)) hm;unfold r8go vGo
  by_cases hd:deep > 100
  ·rw[if_pos hd];simp[hd]
  ·rw[if_neg hd];have hdb:(!decide (deep > 100))=true:=by simpa using hd
   by_cases hc:(z08 x != r.isEmpty)=true
   ·have hcb:(z08 x==r.isEmpty)=false:=by
     cases hcc:(z08 x==r.isEmpty)with
     |false=>rfl
     |true=>simp[bne,hcc]at hc
    simp only[if_pos hc,hcb,Cy,Cz,Ap,false_and,iff_false,Fq];have:(andT (z4y u f deep w all set x) λs1=>(false,s1)).1=false:=by
     unfold andT;split<;>rfl
    exact⟨this,λh=>by rw[this]at h;cases h⟩
   ·have hcb:(z08 x==r.isEmpty)=true:=by
     cases hcc:(z08 x==r.isEmpty)with
     |true=>rfl
     |false=>simp[bne,hcc]at hc
    simp only[if_neg hc,hcb,hdb,B5,Ct,A0];have key:(andT (z4y u f deep w all set x) λs1=>r8go u f deep w (all++x.outs) s1 r).1=true↔(z4y u f deep w all set x).1=true/\(r8go u f deep w (all++x.outs) (z34 set (dN x)) r).1=true:=by
     rw[z52.1];exact Ee λh=>by rw[n2 h]
    refine⟨?_,λh=>?_⟩
    ·rw[key,n1,r1];constructor
     ·rintro⟨⟨c1,c2⟩,c3,c4⟩;exact⟨⟨c1,c3⟩,(y03 hn (yb0 u f x (λq _=>rg u f q) _ _ _ c1) (rg u f r _ _ _ c3)).2 ⟨c2,c4⟩⟩
     ·rintro⟨⟨c1,c3⟩,c4⟩;obtain⟨d1,d2⟩:=(y03 hn (yb0 u f x (λq _=>rg u f q) _ _ _ c1) (rg u f r _ _ _ c3)).1 c4;exact⟨⟨c1,d1⟩,c3,d2⟩
    ·obtain⟨k1,k2⟩:=key.1 h;rw[z52.2 h,n2 k1,r2 k2];show _=z34 set (dN x++dL r);rw[zb6]
theorem ch_all(u:Un)(f:Fl):∀(N:Nat)(l:List Nd),SizeOf.sizeOf l<N->CH u f l
 |0,_,h=>absurd h (Al _)
 |N+1,l,hN=>by
  intro deep w seen set hn;obtain⟨h1,h2⟩:=go_iff u f deep w l (λx hx q hq=>ch_all u f N q (Bc (z9t hx rfl hq) (C1 hN))) seen set hn;unfold z2o ne z3k
  cases l with
  |nil=>simp
  |cons x r=>simpa using⟨h1,h2⟩
theorem z79(u:Un)(f:Fl)(l:List Nd)(deep:Int)(w:Wh)(seen:List Int)(set:List Bool)(hn:set.length=f.types.length):(z2o u f deep w seen set l).1=true↔z3k u f deep w seen l=true/\Frs set (dL l) :=
 (ch_all u f _ l (Ab _) deep w seen set hn).1
def SubL(a b:List Int):Prop:=∀v:Int,a.contains v=true->b.contains v=true
theorem SubL.refl(a:List Int):SubL a a:=λ_ h=>h
theorem SubL.app{a b c d:List Int}(h:SubL a b)(h2:SubL c d):SubL (a++c) (b++d):=λv hv=>by
 rw[Bv,Bo]at hv⊢;exact hv.elim (λh'=>.inl (h v h')) (λh'=>.inr (h2 v h'))
theorem SubL.left{a b c:List Int}(h:SubL a b):SubL a (b++c):=λv hv=>by rw[Bv,h v hv];rfl
theorem y28{tys s s':List Int}:∀{l want:List Int},(∀v∈l,s.contains v=true->s'.contains v=true)->z19 tys s l want=true->z19 tys s' l want=true
 |[],_,_,_=>by simp[z19]
 |_::_,[],_,_=>by simp[z19]
 |x::r,w::ws,hs,h=>by
  simp only[z19,A0]at h⊢;refine⟨?_,y28 (λv hv=>hs v (.tail _ hv)) h.2⟩;have h1:=h.1;unfold zc4 at h1⊢
  cases hc:s.contains x with
  |false=>rw[hc]at h1;simp at h1
  |true=>rw[hs x (.head _) hc];rw[hc]at h1;exact h1
theorem y8y{tys s s' l want:List Int}(hs:∀v∈l,s.contains v=true->s'.contains v=true)(h:z07 tys s l want=true):z07 tys s' l want=true:=by
 unfold z07 at h⊢;simp only[A0]at h⊢;exact⟨h.1,y28 hs h.2⟩
theorem z90{tys s s' l want:List Int}(hs:SubL s s')(h:z07 tys s l want=true):z07 tys s' l want=true:=y8y (λv _=>hs v) h
theorem z60{x:Nd}(h:z1y x=true):(x.kind=1∨x.kind=2∨x.kind=3∨x.kind=4):=by
 simp only[z1y,Bo,A0,Av]at h;rcases h with((h|h)|h)|h
 ·exact .inl h
 ·exact .inr (.inl h)
 ·exact .inr (.inr (.inl h))
 ·exact .inr (.inr (.inr h.1.1))
theorem za7{x:Nd}(h:z1y x=true):(x.kind==10)=false/\(x.kind==11)=false/\z08 x=false/\z2u x=false:=by
 have hk:=z60 h;have h10:(x.kind==10)=false:=by simp;omega
 have h11:(x.kind==11)=false:=by simp;omega
 have h14:(x.kind==14)=false:=by simp;omega
 refine⟨h10,h11,?_,?_⟩
 ·simp only[z08,h10,h11,Cz,Ap,C3,z0v];simp;omega
 ·rw[z4e,h10,h14];rfl
theorem yv7{u:Un}{f:Fl}{x:Nd}{s s':List Int}{w:Wh}{outs:List Int}(hs:SubL s s')(h:(z8y u f x s w).ok f.types outs=true):(z8y u f x s' w).ok f.types outs=true:=by
 have M:∀want,z07 f.types s x.args want=true->z07 f.types s' x.args want=true:=λwant=>z90 hs;have F:∀(b b':Bool) (want:Option (List Int)),(b=true->b'=true)->SForm.ok ⟨b,want⟩ f.types outs=true->SForm.ok ⟨b',want⟩ f.types outs=true:=λb b' want hb h=>by
  cases want<;>simp only[SForm.ok,A0]at h⊢<;>exact⟨hb h.1,h.2⟩
 unfold z8y at h⊢
 by_cases k1:(x.kind==1)=true
 ·rw[if_pos k1]at h⊢;exact F _ _ _ (λhb=>M _ hb) h
 rw[if_neg k1]at h⊢
 by_cases k2:(x.kind==2)=true
 ·rw[if_pos k2]at h⊢;exact F _ _ _ (λhb=>by simp only[A0]at hb⊢;exact⟨hb.1,M _ hb.2⟩) h
 rw[if_neg k2]at h⊢
 by_cases k3:(x.kind==3)=true
 ·rw[if_pos k3]at h⊢;exact F _ _ _ (λhb=>by simp only[A0]at hb⊢;exact⟨hb.1,M _ hb.2⟩) h
 rw[if_neg k3]at h⊢
 by_cases k4:(x.kind==4)=true
 ·rw[if_pos k4]at h⊢;exact F _ _ _ (λhb=>by simp only[A0]at hb⊢;exact⟨⟨hb.1.1,M _ hb.1.2⟩,hb.2⟩) h
 rw[if_neg k4]at h⊢
 by_cases k5:(x.kind==5)=true
 ·rw[if_pos k5]at h⊢;exact F _ _ _ (λhb=>by simp only[A0]at hb⊢;exact⟨hb.1,M _ hb.2⟩) h
 rw[if_neg k5]at h⊢
 by_cases k6:(x.kind==6)=true
 ·rw[if_pos k6]at h⊢;exact F _ _ _ (λhb=>by simp only[A0]at hb⊢;exact⟨hb.1,M _ hb.2⟩) h
 rw[if_neg k6]at h⊢
 by_cases k7:(x.kind==7)=true
 ·rw[if_pos k7]at h⊢
  by_cases hp:decide (z05 x.name u.flows 0≥0)=true
  ·rw[if_pos hp]at h⊢
   cases hg:u.flows[(z05 x.name u.flows 0).toNat]? with
   |none=>rw[hg]at h;exact h
   |some g=>rw[hg]at h;exact F _ _ _ (λhb=>M _ hb) h
  ·rw[if_neg hp]at h⊢;exact h
 rw[if_neg k7]at h⊢
 by_cases k8:(x.kind==8)=true
 ·rw[if_pos k8]at h⊢;exact h
 rw[if_neg k8]at h⊢
 by_cases k9:(x.kind==9)=true
 ·rw[if_pos k9]at h⊢;exact F _ _ _ (λhb=>M _ hb) h
 rw[if_neg k9]at h⊢
 by_cases k12:(x.kind==12)=true
 ·rw[if_pos k12]at h⊢;exact F _ _ _ (λhb=>by simp only[A0]at hb⊢;exact⟨hb.1,M _ hb.2⟩) h
 rw[if_neg k12]at h⊢
 by_cases k13:(x.kind==13)=true
 ·rw[if_pos k13]at h⊢;exact F _ _ _ (λhb=>by simp only[A0]at hb⊢;exact⟨hb.1,M _ hb.2⟩) h
 rw[if_neg k13]at h⊢
 by_cases k14:(x.kind==14)=true
 ·rw[if_pos k14]at h⊢;exact F _ _ _ (λhb=>by simp only[A0]at hb⊢;exact⟨hb.1,M _ hb.2⟩) h
 rw[if_neg k14]at h⊢
 by_cases k15:(x.kind==15)=true
 ·rw[if_pos k15]at h⊢;exact F _ _ _ (λhb=>M _ hb) h
 rw[if_neg k15]at h⊢;exact h
theorem zj4{u:Un}{f:Fl}{x:Nd}{s s':List Int}{w w':Wh}{outs:List Int}(hm:z1y x=true)(hs:∀v∈x.args,s.contains v=true->s'.contains v=true)(h:(z8y u f x s w).ok f.types outs=true) :
 (z8y u f x s' w').ok f.types outs=true/\outs.length=1:=by
 have M:∀want,z07 f.types s x.args want=true->z07 f.types s' x.args want=true:=λwant=>y8y hs;have F:∀(b b':Bool)(t:Int),(b=true->b'=true)->SForm.ok ⟨b,some [t]⟩ f.types outs=true->SForm.ok ⟨b',some [t]⟩ f.types outs=true/\outs.length=1:=λb b' t hb h=>by
  simp only[SForm.ok,A0]at h⊢;exact⟨⟨hb h.1,h.2⟩,zc9 h.2⟩
 unfold z8y at h⊢
 by_cases k1:(x.kind==1)=true
 ·rw[if_pos k1]at h⊢;exact F _ _ _ (λhb=>M _ hb) h
 rw[if_neg k1]at h⊢
 by_cases k2:(x.kind==2)=true
 ·rw[if_pos k2]at h⊢;exact F _ _ _ (λhb=>by simp only[A0]at hb⊢;exact⟨hb.1,M _ hb.2⟩) h
 rw[if_neg k2]at h⊢
 by_cases k3:(x.kind==3)=true
 ·rw[if_pos k3]at h⊢;exact F _ _ _ (λhb=>by simp only[A0]at hb⊢;exact⟨hb.1,M _ hb.2⟩) h
 rw[if_neg k3]at h⊢
 by_cases k4:(x.kind==4)=true
 ·rw[if_pos k4]at h⊢;exact F _ _ _ (λhb=>by simp only[A0]at hb⊢;exact⟨⟨hb.1.1,M _ hb.1.2⟩,hb.2⟩) h
 rw[if_neg k4]at h⊢;have hk:=z60 hm;simp only[Av]at k1 k2 k3 k4;omega
theorem yz0:∀(a b:List Nd),dL (a++b)=dL a++dL b
 |[],_=>rfl
 |x::r,b=>by simp only[B9,dL,yz0 r b,C9]
theorem y0x:∀(l:List Nd)(vs:List Int),List.Perm (dL (z0s vs l).1++dL (z0s vs l).2) (dL l)
 |[],_=>by simp[z0s,dL]
 |x::r,vs=>by
  unfold z0s;split
  ·split
   ·have ih:=y0x r (vs++[x.outs.headD 0]);simp only[dL];refine(List.perm_append_comm_assoc _ _ _).trans ?_;exact ih.append_left (dN x)
   ·have ih:=y0x r vs;simp only[dL,C9];exact ih.append_left (dN x)
  ·simp[dL]
mutual
theorem yq5:∀x:Nd,List.Perm (dL (z4x x)) (dN x)
 |.mk kind op n name args outs params ks=>by
  have hk:=y35 ks;unfold z4x hOut;split
  ·cases hq:z4b ks with
   |nil =>
    rw[hq]at hk;simp only[dL,dN,Co]
    exact(hk.append_right outs).append_left params
   |cons b r =>
    rw[hq]at hk;simp only[yz0,dL,dN,dK,Co]at hk⊢;have hp:=y0x b params;refine(List.perm_append_comm_assoc _ _ _).trans (List.Perm.append_left params ?_);rw[<- C9,<- C9];refine List.Perm.append_right outs ?_;refine(List.Perm.append_right (dK r) hp).trans hk
  ·simp only[dL,dN,Co];exact(hk.append_right outs).append_left params
theorem zp7:∀l:List Nd,List.Perm (dL (z0z l)) (dL l)
 |[]=>by simp[z0z]
 |x::r=>by
  simp only[z0z,yz0,dL];exact(yq5 x).append (zp7 r)
theorem y35:∀ks:List (List Nd),List.Perm (dK (z4b ks)) (dK ks)
 |[]=>by simp[z4b]
 |l::r=>by
  simp only[z4b,dK];exact(zp7 l).append (y35 r)
end
theorem Frs.perm{set:List Bool}{a b:List Int}(h:Frs set a)(hp:List.Perm a b):Frs set b:=⟨hp.nodup_iff.1 h.1,λv hv=>h.2 v (hp.mem_iff.2 hv)⟩
theorem zq0:∀(a b:List Nd),z0b (a++b)=(z0b a||z0b b)
 |[],b=>by simp[z0b]
 |x::r,b=>by simp only[B9,z0b,zq0 r b,Bool.or_assoc]
theorem z96:∀(l:List Nd)(vs:List Int),z0b (z0s vs l).1=false/\z0b (z0s vs l).2=z0b l
 |[],_=>by simp[z0s,z0b]
 |x::r,vs=>by
  unfold z0s;split
  ·rename_i hm;obtain⟨_,_,_,h4⟩:=za7 hm;split
   ·obtain⟨h1,h2⟩:=z96 r (vs++[x.outs.headD 0]);exact⟨h1,by simp only[z0b,h2]⟩
   ·obtain⟨h1,h2⟩:=z96 r vs;exact⟨by simp only[z0b,h1,h4,Ds],by simp only[z0b,h2,h4,Cd]⟩
  ·simp[z0b]
mutual
theorem ya3:∀x:Nd,z0b (z4x x)=z2u x
 |.mk kind op n name args outs params ks=>by
  have hk:=y0g ks;unfold z4x hOut;split
  ·rename_i h11;have e11:kind=11:=by simpa using h11
   subst e11
   cases hq:z4b ks with
   |nil=>simp[z0b,z2u]
   |cons b r=>simp only[zq0,(z96 b params).1];simp[z0b,z2u]
  ·simp only[z0b,z2u,hk,Ds]
theorem zh7:∀l:List Nd,z0b (z0z l)=z0b l
 |[]=>by simp[z0z]
 |x::r=>by simp only[z0z,zq0,ya3 x,zh7 r,z0b]
theorem y0g:∀ks:List (List Nd),z38 (z4b ks)=z38 ks
 |[]=>by simp[z4b]
 |l::r=>by simp only[z4b,z38,zh7 l,y0g r]
end
theorem y36(x:Nd):∃A y,z4x x=A++[y]/\y.kind=x.kind:=by
 cases x with
 |mk kind op n name args outs params ks =>
  unfold z4x hOut;split
  ·cases z4b ks with
   |nil=>exact⟨[],_,rfl,rfl⟩
   |cons b r=>exact⟨_,_,rfl,rfl⟩
  ·exact⟨[],_,rfl,rfl⟩
theorem y4t{l:List Nd}(h:l≠[]):z0z l≠[]:=by
 cases l with
 |nil=>exact absurd rfl h
 |cons x r =>
  obtain⟨A,y,e,_⟩:=y36 x;simp[z0z,e]
theorem j0o:∀l:List Nd,z2n (z0z l)=z2n l
 |[]=>by simp[z0z]
 |x::r=>by
  obtain⟨A,y,e,hk⟩:=y36 x
  cases r with
  |nil=>simp[z0z,e,z2n,hk]
  |cons z r' =>
   have ih:=j0o (z::r');have hne:z0z (z::r')≠[]:=y4t sI0;have h1:(z0z (x::z::r')).getLast? = (z0z (z::r')).getLast?:=by
    rw[show z0z (x::z::r')=z4x x++z0z (z::r')from rfl,List.getLast?_append]
    cases hl:(z0z (z::r')).getLast? with
    |none=>exact absurd (List.getLast?_eq_none_iff.1 hl) hne
    |some q=>rfl
   unfold z2n at ih⊢;rw[h1,ih];simp[Eo]
def Oks(B:Int)(s:Rs):Prop:=0<=s.fuel/\0<=s.cost/\s.cost+s.fuel<=B
def Live(s:Rs):Prop:=s.spent=false/\s.st=0
def dec(s:Rs):Rs:={ s with fuel:=s.fuel-1 }
def gone(s:Rs):Rs:={ s with spent:=true }
def bmp(s:Rs):Rs:={ s with cost:=s.cost+1 }
theorem j4f{n:Int}(h:0<=n)(h2:n<=4611686018427387904):w64 n=n:=D0 n oM0
theorem z87{s:Rs}:z10 s=false↔Live s:=by
 unfold z10 Live;simp
theorem z0u{s:Rs}(h:Live s):z10 s=false:=z87.2 h
theorem zt2{s:Rs}{B:Int}(hB:B<=4611686018427387903)(ho:Oks B s):z5w s=bmp s:=by
 obtain⟨h1,h2,h3⟩:=ho;unfold z5w bmp;rw[j4f oM0 oM0]
theorem y4c{s:Rs}{B:Int}(hB:B<=4611686018427387903)(ho:Oks B s)(hl:Live s):(s.fuel<1/\z98 s=(false,gone s))∨(1<=s.fuel/\z98 s=(true,dec s)):=by
 obtain⟨h1,h2,h3⟩:=ho;unfold z98;rw[z0u hl];simp only[Ap,C3]
 by_cases h:s.fuel<1
 ·rw[if_pos h];exact .inl ⟨h,rfl⟩
 ·rw[if_neg h,j4f oM0 oM0];exact .inr ⟨by omega,rfl⟩
theorem yi7{u:Un}{d:Nat}{x:Nd}{l:List Nd}{a:List Int}{s:Rs}{r:Rres}{B:Int}(hB:B<=4611686018427387903)(h:z1u u d (x::l) a s=some r)(ho:Oks B s)(hl:Live s) :
 ∃d1,d=d1+1/\((s.fuel<1/\r=((0,[]),a,gone s))∨(1<=s.fuel/\∃p r1,mOf a x.args=some p/\z5n (z1u u d1) (z3j u d1) (mSum u d1) x p a (dec s)=some r1/\(if z10 r1.2.2||r1.1.1 != 0 then some r1 else z1u u d1 l r1.2.1 r1.2.2)=some r)):=by
 obtain⟨d1,rfl,h2⟩:=z78 rfl h;refine⟨d1,rfl,?_⟩;rcases y4c hB ho hl with⟨h3,h4⟩|⟨h3,h4⟩
 ·rw[h4]at h2;rcases h2 with⟨_,h2⟩|⟨h2,_⟩
  ·exact .inl ⟨h3,h2⟩
  ·cases h2
 ·rw[h4]at h2;rcases h2 with⟨h2,_⟩|⟨_,h2⟩
  ·cases h2
  ·exact .inr ⟨h3,h2⟩
def hc(x:Nd):Nat:=if x.kind=3∨x.kind=4 then 1 else 0
def y9s(x:Nd)(p:List Int):Option Int :=
 if x.kind=1∨x.kind=2 then some x.n
 else if x.kind=3 then(p[0]?).map λa=>mOne x.op a
 else(p[0]?).bind λa=>(p[1]?).map λb=>(mTwo x.op a b).1
def HL(x:Nd):Prop:=z1y x=true/\(x.kind=4->z42 x.op=true)/\x.outs≠[]
def hRun(x:Nd)(a a2:List Int):Prop:=∃p y o,mOf a x.args=some p/\y9s x p=some y/\x.outs[0]?=some o/\setV a o y=some a2
theorem two_ok{op a b:Int}(h:z42 op=true)(h4:op≠4)(h5:op≠5):(mTwo op a b).2=true:=by
 simp only[z42,A0,Bj]at h;have:op=1∨op=2∨op=3∨op=6∨op=7∨op=8∨op=9∨op=10∨op=11∨op=12∨op=13∨op=14∨op=15∨op=16∨op=17:=by omega
 rcases this with rfl|rfl|rfl|rfl|rfl|rfl|rfl|rfl|rfl|rfl|rfl|rfl|rfl|rfl|rfl<;>rfl
def hSt(x:Nd)(s:Rs):Rs:={ s with cost:=s.cost+hc x }
theorem hc_01(x:Nd):hc x=0∨hc x=1:=by unfold hc;split<;>simp
theorem hSt0{x:Nd}{s:Rs}(h:hc x=0):hSt x s=s:=by unfold hSt;rw[h];simp
theorem yq6{u:Un}{d:Nat}{x:Nd}{p a:List Int}{s:Rs}{r:Rres}{B:Int}(hB:B<=4611686018427387903)(ho:Oks B s)(hl:Live s)(hx:HL x)(h:z5n (z1u u d) (z3j u d) (mSum u d) x p a s=some r) :
 ∃y o a2,y9s x p=some y/\x.outs[0]?=some o/\setV a o y=some a2/\r=((0,[]),a2,hSt x s):=by
 obtain⟨h1,h2,h3⟩:=hx;obtain⟨n10,n11,_,_⟩:=za7 h1;have hk:=z60 h1;rcases hk with hk|hk|hk|hk
 ·obtain⟨o,v2,g1,g2,rfl⟩:=z6i h (by rw[hk];rfl);exact⟨x.n,o,v2,by simp[y9s,hk],g1,g2,by rw[hSt0];simp[hc,hk]⟩
 ·obtain⟨o,v2,g1,g2,rfl⟩:=z6i h (by rw[hk];rfl);exact⟨x.n,o,v2,by simp[y9s,hk],g1,g2,by rw[hSt0];simp[hc,hk]⟩
 ·obtain⟨r1,g1,g2⟩:=z7f h (by rw[hk];rfl) (by rw[hk];rfl) n10 n11;obtain⟨d',rfl⟩:=z85 g1;obtain⟨a0,g3,rfl⟩:=zd6 g1 (by rw[hk];rfl);rw[zt2 hB ho]at g2;have hov:z10 (bmp s)=false:=z0u hl;rw[hov]at g2;have hlen:0<x.outs.length:=D3.2 h3;simp only[Dv,B5,Cb hlen,Ca,Ao,A7]at g2;obtain⟨o,g4,v2,g5,rfl⟩:=g2;exact⟨_,o,v2,by simp[y9s,hk,g3],g4,g5,by simp[hSt,hc,hk,bmp]⟩
 ·have h4:=h2 hk;have hop:x.op≠4/\x.op≠5:=by
   simp only[z1y,hk]at h1;simpa using h1
  obtain⟨r1,g1,g2⟩:=z7f h (by rw[hk];rfl) (by rw[hk];rfl) n10 n11;obtain⟨d',rfl⟩:=z85 g1;obtain⟨a0,a1,g3,g3',rfl⟩:=zd7 g1 (by rw[hk];rfl);rw[two_ok h4 hop.1 hop.2,if_pos rfl,zt2 hB ho]at g2;have hov:z10 (bmp s)=false:=z0u hl;rw[hov]at g2;have hlen:0<x.outs.length:=D3.2 h3;simp only[Dv,B5,Cb hlen,Ca,Ao,A7]at g2;obtain⟨o,g4,v2,g5,rfl⟩:=g2;exact⟨_,o,v2,by simp[y9s,hk,g3,g3'],g4,g5,by simp[hSt,hc,hk,bmp]⟩
structure Ext(B:Int)(s t:Rs):Prop where
 ok:Oks B t
 out:s.out <+: t.out
 ar:t.ar.length=s.ar.length
 fuel:t.fuel<=s.fuel
theorem Ext.rfl{B:Int}{s:Rs}(h:Oks B s):Ext B s s:=⟨h,Ch _,Eq.refl _,D7 _⟩
theorem Ext.trans{B:Int}{s t w:Rs}(h:Ext B s t)(h2:Ext B t w):Ext B s w:=⟨h2.ok,h.out.trans h2.out,h2.ar.trans h.ar,Int.le_trans h2.fuel h.fuel⟩
theorem y0i{s:Rs}{k n:Int}{q:Bool×Rs}(h:zb1 s k n=some q):(q=(false,{ s with st:=3 }))∨q=(true,s):=by
 unfold zb1 at h;split at h
 ·cases h;exact .inl (Eq.refl _)
 ·split at h
  ·obtain⟨row,h1,h2⟩:=Ao.1 h;split at h2
   ·cases h2;exact .inl (Eq.refl _)
   ·cases h2;exact .inr (Eq.refl _)
  ·cases h
theorem sum_ext{u:Un}{d:Nat}{x:Nd}{p:List Int}{s:Rs}{r:Int×Rs}{B:Int}(hB:B<=4611686018427387903)(ho:Oks B s)(ho1:s.cost+s.fuel+1<=B)
 (hC:∀d' k a r,d=d'+1->z40 u d' k a (bmp s)=some r->Ext B (bmp s) r.2) (h:mSum u d x p s=some r):Ext B s r.2:=by
 obtain⟨d',rfl⟩:=z85 h;have hb:Oks B (bmp s):=⟨ho.1,by have:=ho.2.1;show 0<=s.cost+1;omega,by show s.cost+1+s.fuel<=B;omega⟩;have e:=zt2 hB ho;have E0:Ext B s (bmp s):=⟨hb,Ch _,Eq.refl _,D7 _⟩;have ne:∀{i:Int},x.kind≠i->(x.kind==i)=false:=λh=>Aa.2 h
 by_cases k3:x.kind=3
 ·obtain⟨a0,_,rfl⟩:=zd6 h (Av.2 k3);rw[e];exact E0
 by_cases k4:x.kind=4
 ·obtain⟨a0,a1,_,_,rfl⟩:=zd7 h (Av.2 k4);rw[e];split
  ·exact E0
  ·exact⟨hb,Ch _,Eq.refl _,D7 _⟩
 by_cases k5:x.kind=5
 ·obtain⟨a0,b,s',_,h2,h3⟩:=z8p h k5;rw[e]at h2 h3;rcases h3 with⟨rfl,rfl⟩|⟨rfl,row,y,_,_,rfl⟩
  ·rcases y0i h2 with h4|h4
   ·obtain⟨_,rfl⟩:=G7 h4;exact⟨hb,Ch _,Eq.refl _,D7 _⟩
   ·cases(G7 h4).1
  ·exact E0
 by_cases k6:x.kind=6
 ·obtain⟨a0,b,s',_,h2,h3⟩:=z7h h k6;rw[e]at h2 h3;rcases h3 with⟨rfl,rfl⟩|⟨rfl,row,y,_,_,rfl⟩
  ·rcases y0i h2 with h4|h4
   ·obtain⟨_,rfl⟩:=G7 h4;exact⟨hb,Ch _,Eq.refl _,D7 _⟩
   ·cases(G7 h4).1
  ·exact⟨hb,Ch _,by simp[bmp],D7 _⟩
 by_cases k7:x.kind=7
 ·have h2:=zb3 h (Av.2 k7);rw[e]at h2;exact E0.trans (hC _ _ _ _ (Eq.refl _) h2)
 by_cases k9:x.kind=9
 ·obtain⟨a0,_,_,rfl⟩:=z8q h (Av.2 k9);rw[e];exact⟨hb,List.prefix_append _ _,Eq.refl _,D7 _⟩
 by_cases k8:x.kind=8
 ·rcases zb5 h (Av.2 k8)with⟨_,rfl⟩|⟨y,q,_,rfl⟩<;>rw[e]<;>exact⟨hb,Ch _,Eq.refl _,D7 _⟩
 ·obtain rfl:=zb4 h (ne k3) (ne k4) (ne k5) (ne k6) (ne k7) (ne k9) (ne k8);rw[e];exact E0
theorem z4w{s:Rs}{B:Int}(ho:Oks B s)(h:1<=s.fuel):Oks B (dec s)/\(dec s).cost+(dec s).fuel+1<=B:=by
 obtain⟨h1,h2,h3⟩:=ho;refine⟨⟨?_,h2,?_⟩,?_⟩
 ·show 0<=s.fuel-1;omega
 ·show s.cost+(s.fuel-1)<=B;omega
 ·show s.cost+(s.fuel-1)+1<=B;omega
theorem j17{u:Un}{d:Nat}{l:List Nd}{a:List Int}{s:Rs}{r:Rres}(h:z1u u d l a s=some r)(ho:z10 s=true):r=((0,[]),a,s):=by
 cases l with
 |nil=>exact y3d h
 |cons x l =>
  obtain⟨d1,rfl,h2⟩:=z78 rfl h;have:z98 s=(false,s):=by unfold z98;rw[ho];rfl
  rw[this]at h2;rcases h2 with⟨_,h2⟩|⟨h2,_⟩
  ·exact h2
  ·cases h2
theorem y4o(u:Un){B:Int}(hB:B<=4611686018427387903):∀d,
 (∀l a s r,z1u u d l a s=some r->Oks B s->Ext B s r.2.2)/\(∀x p a s r,z3j u d x p a s=some r->Oks B s->Ext B s r.2.2) /\
 (∀k p s r,z40 u d k p s=some r->Oks B s->Ext B s r.2)/\∀x p s r,mSum u d x p s=some r->Oks B s->s.cost+s.fuel+1<=B->Ext B s r.2
 |0=>⟨λ_ _ _ _ h=>by simp[z1u]at h,λ_ _ _ _ _ h=>by simp[z3j]at h,λ_ _ _ _ h=>by simp[z40]at h,λ_ _ _ _ h=>by simp[mSum]at h⟩
 |d+1=>by
  obtain⟨i1,i2,i3,i4⟩:=y4o u hB d;refine⟨λl a s r h ho=>?_,λx p a s r h ho=>?_,λk p s r h ho=>?_,λx p s r h ho ho1=>?_⟩
  ·cases l with
   |nil=>rw[y3d h];exact Ext.rfl ho
   |cons x l =>
    cases hov:z10 s with
    |true=>rw[j17 h hov];exact Ext.rfl ho
    |false =>
     obtain⟨d1,e,h2⟩:=yi7 hB h ho (z87.1 hov);obtain rfl:d1=d:=by omega
     rcases h2 with⟨_,rfl⟩|⟨hf,p,r1,_,h3,h4⟩
     ·exact⟨ho,Ch _,rfl,D7 _⟩
     ·obtain⟨o1,o2⟩:=z4w ho hf;have E0:Ext B s (dec s):=⟨o1,Ch _,rfl,by show s.fuel-1<=s.fuel;omega⟩;have E1:Ext B (dec s) r1.2.2:=by
       unfold z5n at h3;split at h3
       ·simp only[Ao,A7]at h3;obtain⟨o,_,v',_,rfl⟩:=h3;exact Ext.rfl o1
       split at h3
       ·cases h3;exact Ext.rfl o1
       split at h3
       ·simp only[Ao]at h3;obtain⟨a0,_,q,_,r2,h5,h6⟩:=h3;have h7:=i1 _ _ _ _ h5 o1;split at h6
        ·simp only[A7]at h6;obtain⟨v',_,rfl⟩:=h6;exact h7
        ·cases h6;exact h7
       split at h3
       ·exact i2 _ _ _ _ _ h3 o1
       ·simp only[Ao]at h3;obtain⟨r2,h5,h6⟩:=h3;have h7:=i4 _ _ _ _ h5 o1 o2;split at h6
        ·simp only[Ao,A7]at h6;obtain⟨o,_,v',_,rfl⟩:=h6;exact h7
        ·cases h6;exact h7
      split at h4
      ·cases h4;exact E0.trans E1
      ·exact(E0.trans E1).trans (i1 _ _ _ _ h4 E1.ok)
  ·obtain⟨d1,v2,q,r1,e,_,_,h3,h4⟩:=z4m h;obtain rfl:d1=d:=by omega
   have E1:=i1 _ _ _ _ h3 ho;split at h4
   ·cases h4;exact E1
   split at h4
   ·simp only[A7]at h4;obtain⟨v',_,rfl⟩:=h4;exact E1
   ·exact E1.trans (i2 _ _ _ _ _ h4 E1.ok)
  ·obtain⟨d1,f,r1,e,_,_,_,_,h3,rfl⟩:=z61 h;obtain rfl:d1=d:=by omega
   exact i1 _ _ _ _ h3 ho
  ·refine sum_ext hB ho ho1 (λd' k a r e h2=>?_) h;obtain rfl:d'=d:=by omega
   have hb:Oks B (bmp s):=⟨ho.1,by have:=ho.2.1;show 0<=s.cost+1;omega,by show s.cost+1+s.fuel<=B;omega⟩;exact i3 _ _ _ _ h2 hb
theorem z81{u:Un}{d:Nat}{l:List Nd}{a:List Int}{s:Rs}{r:Rres}{B:Int}(hB:B<=4611686018427387903)(h:z1u u d l a s=some r)(ho:Oks B s):Ext B s r.2.2:=(y4o u hB d).1 _ _ _ _ h ho
theorem zk1{u:Un}{d:Nat}{x:Nd}{p a:List Int}{s:Rs}{r:Rres}{B:Int}(hB:B<=4611686018427387903)(h:z3j u d x p a s=some r)(ho:Oks B s):Ext B s r.2.2:=(y4o u hB d).2.1 _ _ _ _ _ h ho
theorem y9m{u:Un}{d:Nat}{x:Nd}{p:List Int}{s:Rs}{r:Int×Rs}{B:Int}(hB:B<=4611686018427387903)(h:mSum u d x p s=some r)(ho:Oks B s)(ho1:s.cost+s.fuel+1<=B):Ext B s r.2:=(y4o u hB d).2.2.2 _ _ _ _ h ho ho1
section
structure KF where
 k:Int
 outs:List Int
 rest:List Nd
mutual
def nsz:Nd->Nat
 |.mk _ _ _ _ _ _ _ ks=>1+kdz ks
def lsz:List Nd->Nat
 |[]=>0
 |x::r=>nsz x+lsz r
def kdz:List (List Nd)->Nat
 |[]=>0
 |l::r=>lsz l+kdz r
end
theorem y3g(x:Nd):nsz x=1+kdz x.kids:=by cases x;simp[nsz,Nd.kids]
def ksz:List KF->Nat
 |[]=>0
 |f::K=>lsz f.rest+ksz K
abbrev VR:=List Int->List Int->Prop
abbrev ER:=Int->List Int->List Int->List Int->List Int->Prop
def setO(outs a:List Int)(y:Int)(a2:List Int):Prop:=match outs with
 |[]=>a2=a
 |o::_=>setV a o y=some a2
inductive LRel:Nat->Nat->VR->List Nd->List KF->List Nd->ER->Prop
 |dead {I l K l' E}:(∀a b,¬I a b)->LRel 0 0 I l K l' E
 |weak {k c I I' l K l' E}:(∀a b,I a b->I' a b)->LRel k c I' l K l' E->LRel k c I l K l' E
 |both {k c I J x x' l K l' E}:HL x->HL x'->hc x'<=hc x->(∀a b a2 b2,I a b->hRun x a a2->hRun x' b b2->J a2 b2)->LRel k c J l K l' E->LRel k c I (x::l) K (x'::l') E
 |skip {k c I J x l K l' E}:HL x->(∀a b a2,I a b->hRun x a a2->J a2 b)->LRel k c J l K l' E->LRel k c I (x::l) K l' E
 |paid {k c I J x l K l' E}:HL x->(∀a b a2,I a b->hRun x a a2->J a2 b)->l≠[]->LRel k c J l K l' E->LRel (k+1) (c+hc x) I (x::l) K l' E
 |add {k c I J x' l K l' E}:HL x'->l≠[]->(∀a b b2,I a b->hRun x' b b2->J a b2)->LRel (k+1) (c+hc x') J l K l' E->LRel k c I l K (x'::l') E
 |eff {I J x x' l K l' E}:(x.kind≠1/\x.kind≠2/\x.kind≠10/\x.kind≠11/\x.kind≠12/\x.kind≠13/\x.kind≠14/\x.kind≠15)->x'.kind=x.kind->x'.op=x.op->x'.name=x.name->x'.outs.length=x.outs.length ->
  (∀a b p p',I a b->mOf a x.args=some p->mOf b x'.args=some p'->p'=p)->(∀a b a2 b2 y,I a b->setO x.outs a y a2->setO x'.outs b y b2->J a2 b2)->LRel 0 0 J l K l' E->LRel 0 0 I (x::l) K (x'::l') E
 |ite {I J E2 x x' q0 q1 q0' q1' l K l' E}:x.kind=10->x'.kind=10->x.kids=[q0,q1]->x'.kids=[q0',q1']->(∀a b p p',I a b->mOf a x.args=some p->mOf b x'.args=some p'->p'[0]?=p[0]?) ->
  LRel 0 0 I q0 [] q0' E2->LRel 0 0 I q1 [] q1' E2 ->
  (∀n p p' a b,E2 n p p' a b->(n=12/\∀a2 b2,mSet a x.outs p=some a2->mSet b x'.outs p'=some b2->J a2 b2)∨(n≠12/\n≠0/\(K=[]∨n=15)/\E n p p' a b)) ->
  LRel 0 0 J l K l' E->LRel 0 0 I (x::l) K (x'::l') E
 |loop {k c I I2 J E2 x x' q q' l K l' E}:x.kind=11->x'.kind=11->x.kids=[q]->x'.kids=[q'] ->
  (∀a b p p' a2 b2,I a b->mOf a x.args=some p->mOf b x'.args=some p'->mSet a x.params p=some a2->mSet b x'.params p'=some b2->I2 a2 b2) ->
  LRel k c I2 q [] q' E2 ->
  (∀n p p' a b,E2 n p p' a b->(n=15/\E 15 p p' a b)∨(n=14/\∀a2 b2,mSet a x.outs p=some a2->mSet b x'.outs p'=some b2->J a2 b2)∨(n=13/\∀a2 b2,mSet a x.params p=some a2->mSet b x'.params p'=some b2->I2 a2 b2)) ->
  LRel 0 0 J l K l' E->LRel k c I (x::l) K (x'::l') E
 |ender {I x x' l K l' E}:12<=x.kind->x.kind<=15->x'.kind=x.kind->(K=[]∨x.kind=15)->(∀a b p p',I a b->mOf a x.args=some p->mOf b x'.args=some p'->E x.kind p p' a b)->LRel 0 0 I (x::l) K (x'::l') E
 |once {k c I J x q l K l' E}:x.kind=11->x.kids=[q]->(∀a b p a2,I a b->mOf a x.args=some p->mSet a x.params p=some a2->J a2 b)->LRel k c J q (⟨14,x.outs,l⟩::K) l' E->LRel k c I (x::l) K l' E
 |leave {k c I J y l f K l' E}:y.kind=f.k->f.k=12∨f.k=14->(∀a b p a2,I a b->mOf a y.args=some p->mSet a f.outs p=some a2->J a2 b)->LRel k c J f.rest K l' E->LRel k c I (y::l) (f::K) l' E
 |fork {k c I x q0 q1 l K l' E}:x.kind=10->x.kids=[q0,q1]->LRel k c I q0 (⟨12,x.outs,l⟩::K) l' E->LRel k c I q1 (⟨12,x.outs,l⟩::K) l' E->LRel k c I (x::l) K l' E
theorem LRel.nil{k c:Nat}{I:VR}{l:List Nd}{K:List KF}{l':List Nd}{E:ER}(h:LRel k c I l K l' E):l=[]->k=0:=by
 induction h with
 |dead _=>exact λ_=>rfl
 |weak _ _ ih=>exact ih
 |add _ h1 _ _ _=>exact λe=>absurd e h1
 |_=>intro e;cases e
def KFin(u:Un)(D:Nat):List KF->Rres->Rres->Prop
 |[],r1,r=>r=r1
 |f::K,r1,r=>if r1.1.1=15 then r=r1 else if r1.1.1=f.k then ∃a2 d r2,d<=D/\mSet r1.2.1 f.outs r1.1.2=some a2/\z1u u d f.rest a2 r1.2.2=some r2/\(if z10 r2.2.2=true then r=r2 else KFin u D K r2 r)else r1.2.2.out <+: r.2.2.out
def KRun(u:Un)(D:Nat)(l:List Nd)(K:List KF)(a:List Int)(s:Rs)(r:Rres):Prop:=∃d r1,d<=D/\z1u u d l a s=some r1/\(if z10 r1.2.2=true then r=r1 else KFin u D K r1 r)
def KNext(u:Un)(D:Nat)(l:List Nd)(K:List KF)(r1 r:Rres):Prop:=(z10 r1.2.2=true/\r=r1)∨(Live r1.2.2/\r1.1.1≠0/\KFin u D K r1 r)∨(Live r1.2.2/\r1.1.1=0/\KRun u D l K r1.2.1 r1.2.2 r)
section
variable {u:Un} {D:Nat} {l:List Nd} {K:List KF} {a:List Int} {s:Rs} {r:Rres} {B:Int}
theorem KFin.out(hB:B<=4611686018427387903):∀{K:List KF}{r1 r:Rres},KFin u D K r1 r->Oks B r1.2.2->r1.2.2.out <+: r.2.2.out
 |[],r1,r,h,ho=>by obtain rfl:r=r1:=h;exact Ch _
 |f::K,r1,r,h,ho=>by
  unfold KFin at h;split at h
  ·subst h;exact Ch _
  split at h
  ·obtain⟨a2,d,r2,_,_,h2,h3⟩:=h;have e:=z81 hB h2 ho;split at h3
   ·subst h3;exact e.out
   ·exact e.out.trans (KFin.out hB h3 e.ok)
  ·exact h
theorem KRun.out(hB:B<=4611686018427387903)(h:KRun u D l K a s r)(ho:Oks B s):s.out <+: r.2.2.out:=by
 obtain⟨d,r1,_,h1,h2⟩:=h;have e:=z81 hB h1 ho;split at h2
 ·subst h2;exact e.out
 ·exact e.out.trans (KFin.out hB h2 e.ok)
theorem KNext.out{r1:Rres}(hB:B<=4611686018427387903)(h:KNext u D l K r1 r)(ho:Oks B r1.2.2):r1.2.2.out <+: r.2.2.out:=by
 rcases h with⟨_,rfl⟩|⟨_,_,h⟩|⟨_,_,h⟩
 ·exact Ch _
 ·exact KFin.out hB h ho
 ·exact h.out hB ho
theorem zw1{x:Nd}(hB:B<=4611686018427387903)(h:KRun u D (x::l) K a s r)(ho:Oks B s)(hl:Live s) :
 (s.fuel<1/\r=((0,[]),a,gone s))∨(1<=s.fuel/\∃d1 p r1,d1<D/\mOf a x.args=some p/\z5n (z1u u d1) (z3j u d1) (mSum u d1) x p a (dec s)=some r1/\KNext u D l K r1 r):=by
 obtain⟨d,r0,hd,h1,h2⟩:=h;obtain⟨d1,rfl,h3⟩:=yi7 hB h1 ho hl;rcases h3 with⟨h3,rfl⟩|⟨h3,p,r1,h4,h5,h6⟩
 ·rw[if_pos (by simp[z10,gone])]at h2;exact .inl ⟨h3,h2⟩
 ·refine .inr ⟨h3,d1,p,r1,hd,h4,h5,?_⟩
  cases hov:z10 r1.2.2 with
  |true =>
   rw[hov]at h6
   cases h6
   rw[if_pos hov]at h2
   exact .inl ⟨hov,h2⟩
  |false =>
   rw[hov]at h6
   by_cases hk:r1.1.1=0
   ·rw[hk]at h6;exact .inr (.inr ⟨z87.1 hov,hk,d1,r0,by omega,h6,h2⟩)
   ·have:(false||r1.1.1 != 0)=true:=by simpa using hk
    rw[if_pos this]at h6
    cases h6
    rw[if_neg (by rw[hov];decide)]at h2;exact .inr (.inl ⟨z87.1 hov,hk,h2⟩)
theorem z72(hl:Live s):Live (dec s):=hl
theorem y51{x:Nd}(hl:Live s):Live (hSt x s):=hl
theorem zu0{x:Nd}(ho:Oks B s)(h:1<=s.fuel):Oks B (hSt x (dec s)):=by
 obtain⟨h1,h2,h3⟩:=ho;have:=hc_01 x;refine⟨?_,?_,?_⟩
 ·show 0<=s.fuel-1;omega
 ·show 0<=s.cost+(hc x:Int);omega
 ·show s.cost+(hc x:Int)+(s.fuel-1)<=B;omega
theorem y74{x:Nd}(hB:B<=4611686018427387903)(hx:HL x)(h:KRun u D (x::l) K a s r)(ho:Oks B s)(hl:Live s) :
 (s.fuel<1/\r=((0,[]),a,gone s))∨(1<=s.fuel/\∃a2,hRun x a a2/\KRun u D l K a2 (hSt x (dec s)) r):=by
 rcases zw1 hB h ho hl with h1|⟨h1,d1,p,r1,_,h2,h3,h4⟩
 ·exact .inl h1
 ·obtain⟨y,o,a2,g1,g2,g3,rfl⟩:=yq6 hB (z4w ho h1).1 (z72 hl) hx h3;refine .inr ⟨h1,a2,⟨p,y,o,h2,g1,g2,g3⟩,?_⟩;rcases h4 with⟨h5,_⟩|⟨_,h5,_⟩|⟨_,_,h5⟩
  ·have:z10 (hSt x (dec s))=false:=z0u hl;rw[show(((0,[]),a2,hSt x (dec s)):Rres).2.2=hSt x (dec s)from rfl,this]at h5
   cases h5
  ·exact absurd rfl h5
  ·exact h5
theorem y7s{x:Nd}{q:List Nd}(hB:B<=4611686018427387903)(hx:x.kind=11)(hq:x.kids=[q])(h:KRun u D (x::l) K a s r)(ho:Oks B s)(hl:Live s) :
 (s.fuel<1/\r=((0,[]),a,gone s))∨(1<=s.fuel/\∃p a2,mOf a x.args=some p/\mSet a x.params p=some a2/\KRun u D q (⟨14,x.outs,l⟩::K) a2 (dec s) r):=by
 rcases zw1 hB h ho hl with h1|⟨h1,d1,p,r1,hd,h2,h3,h4⟩
 ·exact .inl h1
 ·have h5:=z62 h3 (by rw[hx];rfl);have ho1:=(z4w ho h1).1;obtain⟨d2,v2,q2,r2,rfl,g1,g2,g3,g4⟩:=z4m h5;rw[hq]at g2;obtain rfl:q=q2:=by simpa using g2
  refine .inr ⟨h1,p,v2,h2,g1,d2,r2,by omega,g3,?_⟩;have e:=z81 hB g3 ho1
  cases hov:z10 r2.2.2 with
  |true =>
   rw[hov]at g4
   cases g4
   rw[if_pos rfl];rcases h4 with⟨_,h4⟩|⟨h4,_⟩|⟨h4,_⟩
   ·exact h4
   ·rw[z0u h4]at hov;cases hov
   ·rw[z0u h4]at hov;cases hov
  |false =>
   rw[hov]at g4;rw[if_neg dC0];unfold KFin
   by_cases k15:r2.1.1=15
   ·rw[k15]at g4
    cases g4
    rw[if_pos k15];rcases h4 with⟨h4,_⟩|⟨_,_,h4⟩|⟨_,h4,_⟩
    ·rw[hov]at h4;cases h4
    ·cases K with
     |nil=>exact h4
     |cons f K=>unfold KFin at h4;rw[if_pos k15]at h4;exact h4
    ·rw[k15]at h4;exact absurd h4 dC0
   ·rw[if_neg k15];have n15:(false||r2.1.1==15)=false:=by simpa using k15
    rw[n15,if_neg dC0]at g4
    by_cases k14:r2.1.1=14
    ·rw[if_pos k14];rw[if_pos (by rw[k14];rfl)]at g4;obtain⟨v3,g5,rfl⟩:=A7.1 g4;rcases h4 with⟨h4,_⟩|⟨_,h4,_⟩|⟨_,_,d3,r3,h6,h7,h8⟩
     ·rw[show(((0,[]),v3,r2.2.2):Rres).2.2=r2.2.2 from rfl,hov]at h4;cases h4
     ·exact absurd rfl h4
     ·exact⟨v3,d3,r3,h6,g5,h7,h8⟩
    ·rw[if_neg k14];rw[if_neg (by simpa using k14)]at g4;have e2:=zk1 hB g4 e.ok;exact e2.out.trans (h4.out hB e2.ok)
theorem yp8{x:Nd}{d:Nat}{p:List Int}{r1:Rres}(h1:12<=x.kind)(h2:x.kind<=15)(h:z5n (z1u u d) (z3j u d) (mSum u d) x p a s=some r1):r1=((x.kind,p),a,s) :=
 z3e h (by rcases(show x.kind=12∨x.kind=13∨x.kind=14∨x.kind=15 by omega)with e|e|e|e<;>rw[e]<;>rfl)
theorem zp2{x:Nd}(hB:B<=4611686018427387903)(h1:12<=x.kind)(h2:x.kind<=15)(h:KRun u D (x::l) K a s r)(ho:Oks B s)(hl:Live s) :
 (s.fuel<1/\r=((0,[]),a,gone s))∨(1<=s.fuel/\∃p,mOf a x.args=some p/\KFin u D K ((x.kind,p),a,dec s) r):=by
 rcases zw1 hB h ho hl with h3|⟨h3,d1,p,r1,hd,h4,h5,h6⟩
 ·exact .inl h3
 ·obtain rfl:=yp8 h1 h2 h5;refine .inr ⟨h3,p,h4,?_⟩;rcases h6 with⟨h6,_⟩|⟨_,_,h6⟩|⟨_,h6,_⟩
  ·have:z10 (dec s)=false:=z0u hl;rw[show((x.kind,p),a,dec s).2.2=dec s from rfl,this]at h6
   cases h6
  ·exact h6
  ·exact absurd h6 (by show x.kind≠0;omega)
theorem y39{y:Nd}{f:KF}(hB:B<=4611686018427387903)(hy:y.kind=f.k)(hf:f.k=12∨f.k=14)(h:KRun u D (y::l) (f::K) a s r)(ho:Oks B s)(hl:Live s) :
 (s.fuel<1/\r=((0,[]),a,gone s))∨(1<=s.fuel/\∃p a2,mOf a y.args=some p/\mSet a f.outs p=some a2/\KRun u D f.rest K a2 (dec s) r):=by
 rcases zp2 hB oM0 oM0 h ho hl with h3|⟨h3,p,h4,h5⟩
 ·exact .inl h3
 ·unfold KFin at h5;rw[show(((y.kind,p),a,dec s):Rres).1.1=f.k from hy,if_neg oM0,if_pos rfl]at h5;obtain⟨a2,d,r2,g1,g2,g3,g4⟩:=h5;exact .inr ⟨h3,p,a2,h4,g2,d,r2,g1,g3,g4⟩
theorem y6y{x:Nd}{q0 q1:List Nd}(hB:B<=4611686018427387903)(hx:x.kind=10)(hq:x.kids=[q0,q1])(h:KRun u D (x::l) K a s r)(ho:Oks B s)(hl:Live s) :
 (s.fuel<1/\r=((0,[]),a,gone s))∨(1<=s.fuel/\∃q,(q=q0∨q=q1)/\KRun u D q (⟨12,x.outs,l⟩::K) a (dec s) r):=by
 rcases zw1 hB h ho hl with h1|⟨h1,d1,p,r1,hd,h2,h3,h4⟩
 ·exact .inl h1
 ·have ho1:=(z4w ho h1).1;obtain⟨a0,q,r2,_,g2,g3,g4⟩:=zd5 h3 (by rw[hx];rfl);refine .inr ⟨h1,q,?_,d1,r2,by omega,g3,?_⟩
  ·rw[hq]at g2
   by_cases e:(a0 != 0)=true
   ·rw[if_pos e]at g2;exact .inl (by simpa using g2.symm)
   ·rw[if_neg e]at g2;exact .inr (by simpa using g2.symm)
  have e:=z81 hB g3 ho1
  cases hov:z10 r2.2.2 with
  |true =>
   rw[hov]at g4
   cases g4
   rw[if_pos rfl];rcases h4 with⟨_,h4⟩|⟨h4,_⟩|⟨h4,_⟩
   ·exact h4
   ·rw[z0u h4]at hov;cases hov
   ·rw[z0u h4]at hov;cases hov
  |false =>
   rw[hov]at g4;rw[if_neg dC0];unfold KFin
   by_cases k15:r2.1.1=15
   ·rw[k15]at g4
    cases g4
    rw[if_pos k15];rcases h4 with⟨h4,_⟩|⟨_,_,h4⟩|⟨_,h4,_⟩
    ·rw[hov]at h4;cases h4
    ·cases K with
     |nil=>exact h4
     |cons f K=>unfold KFin at h4;rw[if_pos k15]at h4;exact h4
    ·rw[k15]at h4;exact absurd h4 dC0
   ·rw[if_neg k15]
    by_cases k12:r2.1.1=12
    ·rw[if_pos k12];rw[k12]at g4;obtain⟨v3,g5,rfl⟩:=A7.1 g4;rcases h4 with⟨h4,_⟩|⟨_,h4,_⟩|⟨_,_,d3,r3,h6,h7,h8⟩
     ·rw[show(((0,[]),v3,r2.2.2):Rres).2.2=r2.2.2 from rfl,hov]at h4;cases h4
     ·exact absurd rfl h4
     ·exact⟨v3,d3,r3,h6,g5,h7,h8⟩
    ·rw[if_neg k12];have n12:(!false&&r2.1.1==12)=false:=by simpa using k12
     rw[n12,if_neg dC0]at g4
     cases g4
     exact h4.out hB e.ok
end
end
def MG(u:Un)(f:Fl)(l:List Nd):Prop:=∀(deep:Int)(w:Wh)(all all':List Int),SubL all all'->vGo u f deep w all l=true->vGo u f deep w all' l=true
theorem MG.list{u:Un}{f:Fl}{l:List Nd}(h:MG u f l){deep:Int}{w:Wh}{all all':List Int}(hs:SubL all all')(hv:z3k u f deep w all l=true):z3k u f deep w all' l=true:=by
 simp only[z3k,A0]at hv⊢;exact⟨hv.1,h deep w all all' hs hv.2⟩
theorem y0m(u:Un)(f:Fl)(x:Nd)(ih:∀q∈x.kids,MG u f q)(deep:Int)(w:Wh)(s s':List Int)(hs:SubL s s')(h:z6w u f deep w s x=true):z6w u f deep w s' x=true:=by
 have hb:=z2l u f deep w s h
 by_cases h10:x.kind=10
 ·obtain⟨a,b,hk⟩:=z3v hb h10;rw[z5v u f deep w _ hb h10 hk]at h⊢;simp only[A0]at h⊢;exact⟨⟨⟨⟨z90 hs h.1.1.1.1,(ih a (by rw[hk];simp)).list hs h.1.1.1.2⟩,(ih b (by rw[hk];simp)).list hs h.1.1.2⟩,h.1.2⟩,h.2⟩
 ·by_cases h11:x.kind=11
  ·obtain⟨a,hk⟩:=z25 hb h11;rw[z3i u f deep w _ hb h11 hk]at h⊢;simp only[A0]at h⊢;exact⟨⟨⟨⟨z90 hs h.1.1.1.1,h.1.1.1.2⟩,(ih a (by rw[hk];simp)).list (hs.app (.refl _)) h.1.1.2⟩,h.1.2⟩,h.2⟩
  ·have e10:(x.kind==10)=false:=by simpa using h10
   have e11:(x.kind==11)=false:=by simpa using h11
   rw[z2r u f deep w _ hb e10 e11]at h⊢;exact yv7 hs h
theorem j06(u:Un)(f:Fl):∀(l:List Nd),(∀x∈l,∀q∈x.kids,MG u f q)->MG u f l
 |[],_=>λ_ _ _ _ _ _=>by simp[vGo]
 |x::r,ih=>λdeep w all all' hs h=>by
  simp only[vGo,A0]at h⊢;exact⟨⟨⟨h.1.1.1,y0m u f x (ih x (.head _)) _ _ _ _ hs h.1.1.2⟩,h.1.2⟩,j06 u f r (λy hy=>ih y (.tail _ hy)) _ _ _ _ (hs.app (.refl _)) h.2⟩
theorem mg_all(u:Un)(f:Fl):∀(N:Nat)(l:List Nd),SizeOf.sizeOf l<N->MG u f l
 |0,_,h=>absurd h (Al _)
 |N+1,l,hN=>j06 u f l λx hx q hq=>mg_all u f N q (Bc (z9t hx rfl hq) (C1 hN))
theorem mg(u:Un)(f:Fl)(l:List Nd):MG u f l:=mg_all u f _ l (Ab _)
def vPre(u:Un)(f:Fl)(deep:Int)(w:Wh)(all:List Int):List Nd->Bool
 |[]=>true
 |x::r=>!decide (deep > 100)&&z6w u f deep w all x && !z08 x&&vPre u f deep w (all++x.outs) r
theorem go_app(u:Un)(f:Fl)(deep:Int)(w:Wh):∀(A T:List Nd)(all:List Int),T≠[]->vPre u f deep w all A=true->vGo u f deep w (all++A.flatMap Nd.outs) T=true->vGo u f deep w all (A++T)=true
 |[],T,all,_,_,h=>by simpa using h
 |x::r,T,all,hT,h1,h2=>by
  simp only[vPre,A0]at h1;simp only[B9,vGo,A0];refine⟨⟨h1.1.1,?_⟩,go_app u f deep w r T (all++x.outs) hT h1.2 (by rw[Dk,<- C9]at h2;exact h2)⟩;have hc:z08 x=false:=by simpa using h1.1.2
  have he:(r++T).isEmpty=false:=by
   cases r with
   |nil=>cases T with
    |nil=>exact absurd rfl hT
    |cons _ _=>rfl
   |cons _ _=>rfl
  rw[hc,he];rfl
theorem y2d{l:List Int}(h:l.length=1)(v:Int)(hv:l.contains v=true):v=l.headD 0:=by
 match l,h with
 |[a],_=>simpa using hv
theorem yc1(u:Un)(f:Fl)(dI dO:Int)(wI wO:Wh)(hdO:¬dO > 100):∀(l:List Nd)(V S vs:List Int),vGo u f dI wI V l=true->(∀v,V.contains v=true->S.contains v=true∨vs.contains v=true) ->
 vPre u f dO wO S (z0s vs l).1=true/\(∀V',SubL V V'->SubL ((z0s vs l).1.flatMap Nd.outs) V'->vGo u f dI wI V' (z0s vs l).2=true)/\(l≠[]->(z0s vs l).2≠[])
 |[],V,S,vs,_,_=>⟨rfl,λ_ _ _=>rfl,λh=>absurd rfl h⟩
 |x::r,V,S,vs,h,hV=>by
  have h0:=h;simp only[vGo,A0]at h;obtain⟨⟨⟨hd,hx⟩,hc⟩,hr⟩:=h;have hb:=z2l u f dI wI V hx;unfold z0s
  by_cases hm:z1y x=true
  ·rw[if_pos hm];obtain⟨e10,e11,hcl,_⟩:=za7 hm;have hne:r≠[]:=by
    intro e;subst e;rw[hcl]at hc;simp at hc
   have hx2:=hx;rw[z2r u f dI wI V hb e10 e11]at hx2
   by_cases ha:x.args.any (λv=>vs.contains v)=true
   ·rw[if_pos ha];obtain⟨_,hol⟩:=zj4 (s':=V) (w':=wI) hm (λ_ _ h=>h) hx2;obtain⟨i1,i2,i3⟩:=yc1 u f dI dO wI wO hdO r (V++x.outs) S (vs++[x.outs.headD 0]) hr (λv hv=>by
     rw[Bv,Bo]at hv;rw[Bv,Bo];rcases hv with hv|hv
     ·exact(hV v hv).imp_right .inl
     ·have:=y2d hol v hv;exact .inr (.inr (by rw[this];simp)))
    refine⟨i1,λV' h1 h2=>?_,λ_=>by simp⟩;have hR:=i3 hne;have hRe:(z0s (vs++[x.outs.headD 0]) r).2.isEmpty=false:=by
     cases hq:(z0s (vs++[x.outs.headD 0]) r).2 with
     |nil=>exact absurd hq hR
     |cons _ _=>rfl
    simp only[vGo,A0];refine⟨⟨⟨hd,y0m u f x (λq _=>mg u f q) _ _ _ _ h1 hx⟩,by rw[hcl,hRe];rfl⟩,i2 (V'++x.outs) (h1.app (.refl _)) (λv hv=>?_)⟩;rw[Bv,h2 v hv];rfl
   ·rw[if_neg ha];have hargs:∀v∈x.args,V.contains v=true->S.contains v=true:=λv hv hVv=>by
     rcases hV v hVv with h|h
     ·exact h
     ·exact absurd (List.any_eq_true.2 ⟨v,hv,h⟩) ha
    obtain⟨hmv,_⟩:=zj4 (s':=S) (w':=wO) hm hargs hx2;obtain⟨i1,i2,i3⟩:=yc1 u f dI dO wI wO hdO r (V++x.outs) (S++x.outs) vs hr (λv hv=>by
     rw[Bv,Bo]at hv;rw[Bv,Bo];rcases hv with hv|hv
     ·exact(hV v hv).imp_left .inl
     ·exact .inl (.inr hv))
    refine⟨?_,λV' h1 h2=>?_,λ_=>i3 hne⟩
    ·simp only[vPre,A0];refine⟨⟨⟨by simpa using hdO,?_⟩,by rw[hcl];rfl⟩,i1⟩;rw[z2r u f dO wO S hb e10 e11];exact hmv
    ·refine i2 V' (λv hv=>?_) (λv hv=>h2 v (by rw[Dk,Bv,hv,Bh]));rw[Bv,Bo]at hv;rcases hv with hv|hv
     ·exact h1 v hv
     ·exact h2 v (by rw[Dk,Bv,hv];rfl)
  ·rw[if_neg hm];refine⟨rfl,λV' h1 _=>mg u f (x::r) dI wI V V' h1 h0,λ_=>by simp⟩
def HP(u:Un)(f:Fl)(l:List Nd):Prop:=∀(deep:Int)(w:Wh)(all all':List Int),SubL all all'->vGo u f deep w all l=true->vGo u f deep w all' (z0z l)=true
theorem HP.list{u:Un}{f:Fl}{l:List Nd}(h:HP u f l){deep:Int}{w:Wh}{all all':List Int}(hs:SubL all all')(hv:z3k u f deep w all l=true):z3k u f deep w all' (z0z l)=true:=by
 simp only[z3k,A0]at hv⊢;refine⟨?_,h deep w all all' hs hv.2⟩;have hne:l≠[]:=by intro e;subst e;simp at hv
 cases hq:z0z l with
 |nil=>exact absurd hq (y4t hne)
 |cons _ _=>rfl
theorem zz2{kind op n:Int}{name:ByteArray}{args outs params:List Int}{ks ks':List (List Nd)}(h:ks'.length=ks.length):z1n (.mk kind op n name args outs params ks')=z1n (.mk kind op n name args outs params ks):=by
 unfold z1n r8op r8num yl2 r8kn;simp only[Nd.kind,Nd.op,Nd.n,Nd.name,Nd.kids,Nd.params];rw[h];rfl
theorem node_h(u:Un)(f:Fl)(x:Nd)(ih:∀q∈x.kids,HP u f q)(deep:Int)(w:Wh)(all all':List Int)(hd:¬deep > 100)(hs:SubL all all')(h:z6w u f deep w all x=true) :
 ∃A y,z4x x=A++[y]/\vPre u f deep w all' A=true/\z6w u f deep w (all'++A.flatMap Nd.outs) y=true/\z08 y=z08 x/\y.outs=x.outs:=by
 have hb:=z2l u f deep w all h
 by_cases h10:x.kind=10
 ·obtain⟨a,b,hk⟩:=z3v hb h10;rw[z5v u f deep w all hb h10 hk]at h;simp only[A0]at h;have ha:=(ih a (by rw[hk];simp)).list hs h.1.1.1.2;have hbb:=(ih b (by rw[hk];simp)).list hs h.1.1.2;have hla:=j0o a;have hlb:=j0o b
  cases x with
  |mk kind op n name args outs params ks =>
   simp only[Nd.kind,Nd.kids]at h10 hk;subst h10 hk;refine⟨[],.mk 10 op n name args outs params [z0z a,z0z b],rfl,rfl,?_,?_,rfl⟩
   ·rw[List.flatMap_nil,Co];have hb2:z1n (.mk 10 op n name args outs params [z0z a,z0z b])=true:=(zz2 (ks:=[a,b]) (ks':=[z0z a,z0z b]) rfl).trans hb;rw[z5v u f deep w all' hb2 rfl rfl];simp only[A0];refine⟨⟨⟨⟨z90 hs h.1.1.1.1,ha⟩,hbb⟩,?_⟩,h.2⟩;have ho:=h.1.2;unfold y5e z08 at ho⊢;simpa[Nd.kind,Nd.kids,Nd.outs,kid0,kid1,hla,hlb]using ho
   ·simp[z08,Nd.kind,Nd.kids,kid0,kid1,hla,hlb]
 ·by_cases h11:x.kind=11
  ·obtain⟨a,hk⟩:=z25 hb h11;rw[z3i u f deep w all hb h11 hk]at h;simp only[A0]at h;have hIH:=(ih a (by rw[hk];simp)).list (SubL.refl (all++x.params)) h.1.1.2;simp only[z3k,A0]at hIH;have hne:z0z a≠[]:=by intro e;rw[e]at hIH;simp at hIH
   obtain⟨p1,p2,p3⟩:=yc1 u f (deep+1) deep (w2 f x) w hd (z0z a) (all++x.params) all' x.params hIH.2 (λv hv=>by
    rw[Bv,Bo]at hv;exact hv.imp_left (hs v))
   obtain⟨l1,l2⟩:=z96 (z0z a) x.params;have l3:=zh7 a
   cases x with
   |mk kind op n name args outs params ks =>
    simp only[Nd.kind,Nd.kids]at h11 hk;subst h11 hk;simp only[Nd.params]at p1 p2 p3 l2 h;refine⟨(z0s params (z0z a)).1,.mk 11 op n name args outs params [(z0s params (z0z a)).2],rfl,p1,?_,?_,rfl⟩
    ·have hb2:z1n (.mk 11 op n name args outs params [(z0s params (z0z a)).2])=true:=(zz2 (ks:=[a]) (ks':=[(z0s params (z0z a)).2]) rfl).trans hb;rw[z3i u f deep w _ hb2 rfl rfl];simp only[A0,z3k,Nd.params,Nd.args,Nd.outs]at h⊢;refine⟨⟨⟨⟨z90 hs.left h.1.1.1.1,h.1.1.1.2⟩,?_,?_⟩,?_⟩,h.2⟩
     ·cases hq:(z0s params (z0z a)).2 with
      |nil=>exact absurd hq (p3 hne)
      |cons _ _=>rfl
     ·exact p2 _ (hs.left.app (.refl _)) (λv hv=>by rw[Bv,Bv,hv,Bh,Bb])
     ·have ho:=h.1.2;unfold y5e z08 at ho⊢;simpa[Nd.kind,Nd.kids,Nd.outs,kid0,l2,l3]using ho
    ·simp[z08,Nd.kind,Nd.kids,kid0,l2,l3]
  ·have e10:(x.kind==10)=false:=by simpa using h10
   have e11:(x.kind==11)=false:=by simpa using h11
   have hk0:=z8o hb e10 e11;have hx:z4x x=[x]:=by
    cases x with
    |mk kind op n name args outs params ks =>
     simp only[Nd.kind,Nd.kids]at e11 hk0;subst hk0;simp[z4x,hOut,z4b,e11]
   refine⟨[],x,hx,rfl,?_,rfl,rfl⟩;rw[List.flatMap_nil,Co];exact y0m u f x (λq _=>mg u f q) _ _ _ _ hs h
theorem go_h(u:Un)(f:Fl):∀(l:List Nd),(∀x∈l,∀q∈x.kids,HP u f q)->HP u f l
 |[],_=>λ_ _ _ _ _ _=>by simp[z0z,vGo]
 |x::r,ih=>λdeep w all all' hs h=>by
  simp only[vGo,A0]at h;obtain⟨⟨⟨hd,hx⟩,hc⟩,hr⟩:=h;obtain⟨A,y,e,hA,hy,hcy,hoy⟩:=node_h u f x (ih x (.head _)) deep w all all' (by simpa using hd) hs hx;rw[show z0z (x::r)=z4x x++z0z r from rfl,e,C9];refine go_app u f deep w A _ all' sI0 hA ?_;simp only[List.singleton_append,vGo,A0];refine⟨⟨⟨hd,hy⟩,?_⟩,go_h u f r (λz hz=>ih z (.tail _ hz)) deep w (all++x.outs) _ (by rw[hoy];exact hs.left.app (.refl _)) hr⟩;rw[hcy];have he:(z0z r).isEmpty=r.isEmpty:=by
   cases r with
   |nil=>rfl
   |cons z r' =>
    cases hq:z0z (z::r')with
    |nil=>exact absurd hq (y4t sI0)
    |cons _ _=>rfl
  rw[he];exact hc
theorem hp_all(u:Un)(f:Fl):∀(N:Nat)(l:List Nd),SizeOf.sizeOf l<N->HP u f l
 |0,_,h=>absurd h (Al _)
 |N+1,l,hN=>go_h u f l λx hx q hq=>hp_all u f N q (Bc (z9t hx rfl hq) (C1 hN))
theorem yg9(u:Un)(f:Fl){deep:Int}{w:Wh}{all:List Int}{l:List Nd}(h:z3k u f deep w all l=true):z3k u f deep w all (z0z l)=true :=
 (hp_all u f _ l (Ab _)).list (SubL.refl _) h
theorem zq7(name:ByteArray):∀(l:List Fl)(i:Int),z05 name (l.map z5j) i=z05 name l i
 |[],_=>rfl
 |f::r,i=>by
  have ih:=zq7 name r (i+1);unfold z05;rw[B8];simp only[ih];rfl
theorem sForm_h(u:Un)(f:Fl)(x:Nd)(s:List Int)(w:Wh):z8y (z3u u) (z5j f) x s w=z8y u f x s w:=by
 unfold z8y;simp only[z3u,z5j,zq7,Ba]
 cases u.flows[(z05 x.name u.flows 0).toNat]? with
 |none=>rfl
 |some g=>rfl
mutual
theorem vNode_h(u:Un)(f:Fl):∀(x:Nd)(deep:Int)(w:Wh)(s:List Int),z6w (z3u u) (z5j f) deep w s x=z6w u f deep w s x
 |.mk kind op n name args outs params ks,deep,w,s=>by
  unfold z6w;rw[sForm_h]
  match ks with
  |[]=>rfl
  |[a] =>
   have h1:=yg8 u f a (deep+1) (w2 f (.mk kind op n name args outs params [a])) (s++params);simp only[show w2 (z5j f) (.mk kind op n name args outs params [a])=w2 f (.mk kind op n name args outs params [a])from rfl,h1]
   rfl
  |a::b::r =>
   have h1:=yg8 u f a (deep+1) (w2 f (.mk kind op n name args outs params (a::b::r))) (s++params);have h2:=yg8 u f a (deep+1) (w1 w f (.mk kind op n name args outs params (a::b::r))) s;have h3:=yg8 u f b (deep+1) (w1 w f (.mk kind op n name args outs params (a::b::r))) s;simp only[show w2 (z5j f) (.mk kind op n name args outs params (a::b::r))=w2 f (.mk kind op n name args outs params (a::b::r))from rfl,show w1 w (z5j f) (.mk kind op n name args outs params (a::b::r))=w1 w f (.mk kind op n name args outs params (a::b::r))from rfl,h1,h2,h3];rfl
theorem yg8(u:Un)(f:Fl):∀(l:List Nd)(deep:Int)(w:Wh)(s:List Int),vGo (z3u u) (z5j f) deep w s l=vGo u f deep w s l
 |[],_,_,_=>by simp[vGo]
 |x::r,deep,w,s=>by
  unfold vGo;rw[vNode_h u f x,yg8 u f r]
end
theorem flow_h{u:Un}{f:Fl}(h:z5x u f=true):z5x (z3u u) (z5j f)=true:=by
 unfold z5x at h⊢;simp only[A0]at h⊢;obtain⟨h1,h2⟩:=h;refine⟨h1,?_⟩;have hp:f.params.toNat<=f.types.length:=by
  have a1:=h1.1.1.1.1;have a2:=h1.1.1.2;simp only[Bg,C8]at a1 a2;omega
 have hn:(z5g f.params.toNat f.types.length).length=f.types.length:=z3p hp;rw[z79 u f f.body 1 z39 _ _ hn]at h2;show(z2o (z3u u) (z5j f) 1 z39 (iota f.params.toNat) (z5g f.params.toNat f.types.length) (z0z f.body)).1=true;rw[z79 (z3u u) (z5j f) (z0z f.body) 1 z39 _ _ hn];have hv:=yg9 u f h2.1;simp only[z3k,A0]at hv⊢;exact⟨⟨hv.1,by rw[yg8];exact hv.2⟩,h2.2.perm (zp7 f.body).symm⟩
theorem gA_h(u:Un):∀(l:List Ar)(i:Int),r8gA (z3u u) l i=r8gA u l i
 |[],_=>rfl
 |a::r,i=>by
  have h1:gArr (z3u u) a i=gArr u a i:=by simp only[gArr,z3u,zq7]
  simp only[r8gA,gA_h u r,h1]
theorem gF_h(u:Un):∀(l:List Fl)(i:Int),r8gF (z3u u) (l.map z5j) i=r8gF u l i
 |[],_=>rfl
 |a::r,i=>by
  have h1:gFlw (z3u u) (z5j a) i=gFlw u a i:=by
   simp only[gFlw,z3u,zq7];rfl
  simp only[B8,r8gF,gF_h u r,h1]
theorem y34(l:List Fl)(k:Nat):((l.map z5j).getD k y6w).ty=(l.getD k y6w).ty/\((l.map z5j).getD k y6w).params=(l.getD k y6w).params:=by
 simp only[Ay,Ba]
 cases l[k]? with
 |none=>exact⟨rfl,rfl⟩
 |some g=>exact⟨rfl,rfl⟩
theorem j05(u:Un):z1f (z3u u)=z1f u:=by
 unfold z1f;rw[show(z3u u).arrays=u.arrays from rfl,show(z3u u).flows=u.flows.map z5j from rfl,gA_h,gF_h];unfold z9w;rw[show(z3u u).flows=u.flows.map z5j from rfl,zq7,(y34 _ _).1,(y34 _ _).2]
theorem y6x(u:Un):∀(l:List Fl)(i:Int),(z5p u l i).1=0↔∀f∈l,z5x u f=true
 |[],_=>by simp[z5p]
 |f::r,i=>by
  unfold z5p
  cases h:z5x u f with
  |false=>simp[h]
  |true=>simp[h,y6x u r (i+1)]
theorem y30(u:Un):∀(l:List Fl)(i:Int),(∀f∈l,z5x u f=true)->z5p u l i=(0,0)
 |[],_,_=>rfl
 |f::r,i,h=>by
  unfold z5p;rw[if_pos (h f (.head _))];exact y30 u r (i+1) λg hg=>h g (.tail _ hg)
theorem z7c(u:Un):(z1e u).1=0↔z1f u=true/\∀f∈u.flows,z5x u f=true:=by
 unfold z1e
 cases h:z1f u with
 |false=>simp
 |true=>simp[y6x]
theorem zh0{u:Un}(h:(z1e u).1=0):z1e (z3u u)=(0,0):=by
 obtain⟨h1,h2⟩:=(z7c u).1 h;unfold z1e;rw[j05,h1,if_pos rfl];refine y30 (z3u u) _ 0 λg hg=>?_;obtain⟨f,hf,rfl⟩:=Cc.1 hg;exact flow_h (h2 f hf)
mutual
theorem j0z(u:Un)(f:Fl):∀(x:Nd)(deep:Int)(w:Wh)(s:List Int),z6w u f deep w s x=true->hOkN x=true
 |.mk kind op n name args outs params ks,deep,w,s,h=>by
  have hb:=z2l u f deep w s h;simp only[hOkN,A0];refine⟨⟨?_,?_⟩,?_⟩
  ·cases hm:z1y (.mk kind op n name args outs params ks)with
   |false=>rfl
   |true =>
    obtain⟨e10,e11,_,_⟩:=za7 hm;rw[z2r u f deep w s hb e10 e11]at h;obtain⟨_,hl⟩:=zj4 (s':=s) (w':=w) hm (λ_ _ h=>h) h;simp only[Nd.outs]at hl
    cases outs with
    |nil=>simp at hl
    |cons _ _=>rfl
  ·cases hk:(kind==11)with
   |false=>simp[bne,hk]
   |true =>
    obtain⟨a,ha⟩:=z25 hb (show kind=11 by simpa using hk);simp only[Nd.kids]at ha;simp[ha]
  ·by_cases h10:kind=10
   ·obtain⟨a,b,hk⟩:=z3v hb h10;rw[z5v u f deep w s hb h10 hk]at h;simp only[A0,z3k]at h;simp only[Nd.kids]at hk
    match ks,hk with
    |[a',b'],hk =>
     cases hk
     simp only[hOkK,A0,Ct];exact⟨zb8 u f a _ _ _ h.1.1.1.2.2,zb8 u f b _ _ _ h.1.1.2.2⟩
   ·by_cases h11:kind=11
    ·obtain⟨a,hk⟩:=z25 hb h11;rw[z3i u f deep w s hb h11 hk]at h;simp only[A0,z3k]at h;simp only[Nd.kids]at hk
     match ks,hk with
     |[a'],hk =>
      cases hk
      simp only[hOkK,Ct];exact zb8 u f a _ _ _ h.1.1.2.2
    ·have hk0:=z8o hb (show(kind==10)=false by simpa using h10) (show(kind==11)=false by simpa using h11);simp only[Nd.kids]at hk0;rw[hk0];rfl
theorem zb8(u:Un)(f:Fl):∀(l:List Nd)(deep:Int)(w:Wh)(s:List Int),vGo u f deep w s l=true->hOkL l=true
 |[],_,_,_,_=>rfl
 |x::r,deep,w,s,h=>by
  simp only[vGo,A0]at h;simp only[hOkL,A0];exact⟨j0z u f x _ _ _ h.1.1.2,zb8 u f r _ _ _ h.2⟩
end
theorem y09{u:Un}(h:(z4v u).1=0):∀f∈u.flows,hOkL f.body=true:=by
 rw[ze8]at h;intro f hf;have hF:=((z7c u).1 h).2 f hf;unfold z5x at hF;simp only[A0]at hF;obtain⟨h1,h2⟩:=hF;have hp:f.params.toNat<=f.types.length:=by
  have a1:=h1.1.1.1.1;have a2:=h1.1.1.2;simp only[Bg,C8]at a1 a2;omega
 have hn:(z5g f.params.toNat f.types.length).length=f.types.length:=z3p hp;rw[z79 u f f.body 1 z39 _ _ hn]at h2;have hv:=h2.1;simp only[z3k,A0]at hv;exact zb8 u f f.body _ _ _ hv.2
theorem y6k:∀(a b:List Nd),wtL (a++b)=wtL a+wtL b
 |[],b=>by simp[wtL]
 |x::r,b=>by simp only[B9,wtL,y6k r b];omega
theorem yh7:∀(l:List Nd)(vs:List Int),wtL (z0s vs l).1+wtL (z0s vs l).2=wtL l
 |[],_=>rfl
 |x::r,vs=>by
  unfold z0s;split
  ·split
   ·have:=yh7 r (vs++[x.outs.headD 0]);simp only[wtL];omega
   ·have:=yh7 r vs;simp only[wtL];omega
  ·simp[wtL]
mutual
theorem wt_node:∀x:Nd,(z4x x).length+wtL (z4x x)=1+wtN x
 |.mk kind op n name args outs params ks=>by
  have hk:=j4j ks;unfold z4x hOut;split
  ·cases hq:z4b ks with
   |nil=>rw[hq]at hk;simp only[wtL,wtN,A1,A5]at hk⊢;omega
   |cons b r =>
    rw[hq]at hk;have h1:=yh7 b params;have h2:=za6 b params;simp only[y6k,wtL,wtN,wtK,B4,A1,A5]at hk⊢;omega
  ·simp only[wtL,wtN,A1,A5];omega
theorem yh6:∀l:List Nd,(z0z l).length+wtL (z0z l)=l.length+wtL l
 |[]=>rfl
 |x::r=>by
  have h1:=wt_node x;have h2:=yh6 r;simp only[z0z,y6k,wtL,B4,A1];omega
theorem j4j:∀ks:List (List Nd),wtK (z4b ks)=wtK ks
 |[]=>rfl
 |l::r=>by
  have h1:=yh6 l;have h2:=j4j r;simp only[z4b,wtK];omega
end
theorem wtF_h:∀l:List Fl,wtF (l.map z5j)=wtF l
 |[]=>rfl
 |f::r=>by
  have h1:=yh6 f.body;have h2:=wtF_h r;simp only[B8,wtF,z1b,z5j]at h2⊢;omega
theorem y6i(u:Un):z0i (z3u u)=z0i u:=by
 unfold z0i;rw[show(z3u u).flows=u.flows.map z5j from rfl,wtF_h,A8];rfl
def mkK(x:Nd)(ks:List (List Nd)):Nd:=.mk x.kind x.op x.n x.name x.args x.outs x.params ks
def hcs:List Nd->Nat
 |[]=>0
 |x::r=>hc x+hcs r
inductive HR:List Nd->Nat->Nat->List Nd->List Nd->Prop
 |nil {H}:HR H 0 0 [] []
 |keep {H k c x l l'}:z1y x=true->l≠[]->HR H k c l l'->HR H k c (x::l) (x::l')
 |skip {H k c x l l'}:z1y x=true->x∈H->l≠[]->HR H k c l l'->HR H (k+1) (c+hc x) (x::l) l'
 |add {H k c x l l'}:z1y x=true->l≠[]->HR (x::H) (k+1) (c+hc x) l l'->HR H k c l (x::l')
 |eff {H x l l'}:z1y x=false->x.kind≠10->x.kind≠11->HR H 0 0 l l'->HR H 0 0 (x::l) (x::l')
 |ite {H x q0 q1 q0' q1' l l'}:x.kind=10->x.kids=[q0,q1]->HR H 0 0 q0 q0'->HR H 0 0 q1 q1'->HR H 0 0 l l'->HR H 0 0 (x::l) (mkK x [q0',q1']::l')
 |loop {H k c x q q' l l'}:x.kind=11->x.kids=[q]->HR H k c q q'->HR H 0 0 l l'->HR H k c (x::l) (mkK x [q']::l')
theorem HR.mono{H:List Nd}{k c:Nat}{l l':List Nd}(h:HR H k c l l'):∀{H2:List Nd},(∀x∈H,x∈H2)->HR H2 k c l l':=by
 induction h with
 |nil=>exact λ_=>.nil
 |keep h1 h2 _ ih=>exact λhs=>.keep h1 h2 (ih hs)
 |skip h1 h2 h3 _ ih=>exact λhs=>.skip h1 (hs _ h2) h3 (ih hs)
 |add h1 h2 _ ih=>exact λhs=>.add h1 h2 (ih λx hx=>(Aj.1 hx).elim (λe=>e▸ .head _) λhx=>.tail _ (hs x hx))
 |eff h1 h2 h3 _ ih=>exact λhs=>.eff h1 h2 h3 (ih hs)
 |ite h1 h2 _ _ _ i1 i2 i3=>exact λhs=>.ite h1 h2 (i1 hs) (i2 hs) (i3 hs)
 |loop h1 h2 _ _ i1 i2=>exact λhs=>.loop h1 h2 (i1 hs) (i2 hs)
theorem j0d{x:Nd}(h:x.kind=10∨x.kind=11):z1y x=false:=by
 cases hx:z1y x with
 |false=>rfl
 |true=>have:=z60 hx;omega
theorem y0y{x:Nd}{l:List Nd}(vs:List Int)(h:z1y x=false):z0s vs (x::l)=([],x::l):=by
 unfold z0s;rw[h];simp
theorem part_HR{H:List Nd}{k c:Nat}{l l':List Nd}(h:HR H k c l l'):∀vs:List Int,HR ((z0s vs l').1++H) (k+(z0s vs l').1.length) (c+hcs (z0s vs l').1) l (z0s vs l').2:=by
 induction h with
 |nil=>exact λ_=>.nil
 |@keep H k c x l l' h1 h2 h3 ih =>
  intro vs;unfold z0s;rw[if_pos h1];split
  ·exact .keep h1 h2 (ih _)
  ·have:=HR.skip (H:=x::((z0s vs l').1++H)) h1 (.head _) h2 ((ih vs).mono λy hy=>.tail _ hy);have e1:k+(x::(z0s vs l').1).length=k+(z0s vs l').1.length+1:=by simp;omega
   have e2:c+hcs (x::(z0s vs l').1)=c+hcs (z0s vs l').1+hc x:=by simp[hcs];omega
   simp only[e1,e2]
   exact this
 |@skip H k c x l l' h1 h2 h3 h4 ih =>
  intro vs;have:=HR.skip (H:=(z0s vs l').1++H) h1 (B7 _ h2) h3 (ih vs);have e1:k+1+(z0s vs l').1.length=k+(z0s vs l').1.length+1:=by omega
  have e2:c+hc x+hcs (z0s vs l').1=c+hcs (z0s vs l').1+hc x:=by omega
  rw[e1,e2]
  exact this
 |@add H k c x l l' h1 h2 h3 ih =>
  intro vs;unfold z0s;rw[if_pos h1];split
  ·generalize vs++[x.outs.headD 0]=vs2;have:=ih vs2;have e1:k+1+(z0s vs2 l').1.length=k+(z0s vs2 l').1.length+1:=by omega
   have e2:c+hc x+hcs (z0s vs2 l').1=c+hcs (z0s vs2 l').1+hc x:=by omega
   rw[e1,e2]at this;exact .add h1 h2 (this.mono λy hy=>by
    rcases Ax.1 hy with hy|hy
    ·exact .tail _ (Au _ hy)
    ·exact(Aj.1 hy).elim (λe=>e▸ .head _) λhy=>.tail _ (B7 _ hy))
  ·have:=ih vs;have e1:k+(x::(z0s vs l').1).length=k+1+(z0s vs l').1.length:=by simp;omega
   have e2:c+hcs (x::(z0s vs l').1)=c+hc x+hcs (z0s vs l').1:=by simp[hcs];omega
   simp only[e1,e2];exact this.mono λy hy=>by
    rcases Ax.1 hy with hy|hy
    ·exact .tail _ (Au _ hy)
    ·exact(Aj.1 hy).elim (λe=>e▸ .head _) λhy=>.tail _ (B7 _ hy)
 |eff h1 h2 h3 h4=>intro vs;rw[y0y vs h1];exact .eff h1 h2 h3 h4
 |ite h1 h2 h3 h4 h5=>intro vs;rw[y0y vs (j0d (x:=mkK _ _) (.inl h1))];exact .ite h1 h2 h3 h4 h5
 |loop h1 h2 h3 h4=>intro vs;rw[y0y vs (j0d (x:=mkK _ _) (.inr h1))];exact .loop h1 h2 h3 h4
theorem yb9:∀(l:List Nd)(vs:List Int),∀x∈(z0s vs l).1,z1y x=true
 |[],_,x,h=>by simp[z0s]at h
 |y::r,vs,x,h=>by
  unfold z0s at h;split at h
  ·rename_i hy;split at h
   ·exact yb9 r _ x h
   ·rcases Aj.1 h with rfl|h
    ·exact hy
    ·exact yb9 r _ x h
  ·simp at h
theorem HR.adds:∀{A H:List Nd}{k c:Nat}{l l':List Nd},(∀x∈A,z1y x=true)->l≠[]->HR (A++H) (k+A.length) (c+hcs A) l l'->HR H k c l (A++l')
 |[],_,_,_,_,_,_,_,h=>h
 |x::A,H,k,c,l,l',hA,hl,h=>by
  refine .add (hA x (.head _)) hl (HR.adds (A:=A) (λy hy=>hA y (.tail _ hy)) hl ?_);have e1:k+1+A.length=k+(x::A).length:=by simp;omega
  have e2:c+hc x+hcs A=c+hcs (x::A):=by simp[hcs];omega
  rw[e1,e2];exact h.mono λy hy=>by
   rcases Aj.1 hy with rfl|hy
   ·exact B7 _ (.head _)
   ·rcases Ax.1 hy with hy|hy
    ·exact Au _ hy
    ·exact B7 _ (.tail _ hy)
theorem y72{x:Nd}(h0:x.kids=[])(h11:x.kind≠11):z4x x=[x]:=by
 have e:(x.kind==11)=false:=by simpa using h11
 rw[zx4,h0];unfold hOut;rw[e]
 cases x
 simp only[Nd.kids]at h0;subst h0;simp[z4b,Nd.kind,Nd.op,Nd.n,Nd.name,Nd.args,Nd.outs,Nd.params]
theorem hNode_if{x:Nd}{a b:List Nd}(hk:x.kind=10)(h:x.kids=[a,b]):z4x x=[mkK x [z0z a,z0z b]]:=by
 rw[zx4,h];unfold hOut;rw[hk];simp[z4b,mkK,hk]
theorem yq3{x:Nd}{q:List Nd}(hk:x.kind=11)(h:x.kids=[q]):z4x x=(z0s x.params (z0z q)).1++[mkK x [(z0s x.params (z0z q)).2]]:=by
 rw[zx4,h];unfold hOut;rw[hk];simp[z4b,mkK,hk]
theorem y0h(u:Un)(f:Fl):∀(N:Nat)(l:List Nd),SizeOf.sizeOf l<N->∀(deep:Int)(w:Wh)(S:List Int),vGo u f deep w S l=true->HR [] 0 0 l (z0z l)
 |0,_,h,_,_,_,_=>absurd h (Al _)
 |N+1,[],_,_,_,_,_=>by simp only[z0z];exact .nil
 |N+1,x::l,hN,deep,w,S,hv=>by
  unfold vGo at hv;simp only[A0,Av]at hv;obtain⟨⟨⟨_,v2⟩,v3⟩,v4⟩:=hv;have hsl:SizeOf.sizeOf l<N:=by have:SizeOf.sizeOf (x::l)=1+SizeOf.sizeOf x+SizeOf.sizeOf l:=rfl;omega
  have ihl:=y0h u f N l hsl deep w _ v4;have hb:=z2l u f deep w S v2;have hkid:∀q∈x.kids,SizeOf.sizeOf q<N:=λq hq=>Bc (z9t (l:=x::l) (.head _) rfl hq) (C1 hN);have e:z0z (x::l)=z4x x++z0z l:=by simp only[z0z]
  rw[e]
  by_cases h10:x.kind=10
  ·obtain⟨q0,q1,hk⟩:=z3v hb h10;rw[z5v u f deep w S hb h10 hk]at v2;simp only[A0,z3k]at v2;rw[hNode_if h10 hk];exact .ite h10 hk (y0h u f N q0 (hkid q0 (by rw[hk];simp)) _ _ _ v2.1.1.1.2.2) (y0h u f N q1 (hkid q1 (by rw[hk];simp)) _ _ _ v2.1.1.2.2) ihl
  by_cases h11:x.kind=11
  ·obtain⟨q,hk⟩:=z25 hb h11;rw[z3i u f deep w S hb h11 hk]at v2;simp only[A0,z3k]at v2;rw[yq3 h11 hk,C9];have ihq:=part_HR (y0h u f N q (hkid q (by rw[hk];simp)) _ _ _ v2.1.1.2.2) x.params;exact HR.adds (yb9 _ _) (E5 _ _) (.loop h11 hk ihq (ihl.mono λy hy=>by simp at hy))
  ·have e10:(x.kind==10)=false:=by simpa using h10
   have e11:(x.kind==11)=false:=by simpa using h11
   rw[y72 (z8o hb e10 e11) h11]
   cases hm:z1y x with
   |true =>
    have hc:=(za7 hm).2.2.1;rw[hc]at v3
    exact .keep hm (by intro e;rw[e]at v3;cases v3) ihl
   |false=>exact .eff hm h10 h11 ihl
end Go.Proofs.YtcnjamphfjnflaaGreatDoor
