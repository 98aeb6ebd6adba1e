/- PART 2 of 9 of a proof: see the last part. -/
import Derived.Test.YtjlaalpfpecikaaGreatDoorSl1
set_option maxRecDepth 20000
set_option maxHeartbeats 8000000
set_option linter.unusedSimpArgs false
set_option linter.unusedVariables false
set_option linter.unusedSectionVars false
namespace Go.Proofs.YtjlaalpfpecikaaGreatDoor
open Go
section
variable {P:Program} {c:Cx} {R1:Nat->Prop} {o:Oper} {fr:Fr} {hp:Hp} {σ:Heap'} {Q:Exit->Fr->Heap'->Prop}
theorem RepP.keepIt{own:Nat->Prop}{w w':World}{b0:Nat}{p:PV}{v:Value}(h:RepP own w p v)(hs:w.heap.size<=w'.heap.size)(h0:∀off sp,w.cell? ⟨b0,off,sp⟩=none)
 (hk:∀b,b≠b0->w'.heap[b]?=w.heap[b]?):RepP own w' p v:=by
 have key:∀(b off:Nat)(x:Value),w.cell? ⟨b,off,none⟩=some x->w'.cell? ⟨b,off,none⟩=some x:=by
  intro b off x hx
  by_cases e:b=b0
  ·subst e;rw[h0]at hx;cases hx
  ·rw[<- hx];exact Dj (a:=⟨b,off,none⟩) (hk b e)
 induction h with
 |val v=>exact .val v
 |seq els a cap b off u ha hb hl hm hc _ ih=>exact .seq els a cap b off u ha (λhne=>⟨(hb hne).1,Bb (hb hne).2 hs⟩) hl hm (λi el hi j c hj=>key _ _ _ (hc i el hi j c hj)) ih
 |agg cs vs u hl hv _ ih=>exact .agg cs vs u hl hv ih
 |ept cs off b o u hb hc _ ih=>exact .ept cs off b o u ⟨hb.1,Bb hb.2 hs⟩ (λj c hj=>key _ _ _ (hc j c hj)) ih
theorem RepI.mapP{F:Nat->Prop}{ρ:Loc}{w w':World}{x:IV}{v:Value}(hk:∀p v,RepP (owned F ρ) w p v->RepP (owned F ρ) w' p v)(h:RepI F ρ σ w x v):RepI F ρ σ w' x v:=by
 induction h with
 |pv p v h=>exact .pv p v (hk _ _ h)
 |ptr k off v h=>exact .ptr k off v h
 |sl k len v h=>exact .sl k len v h
 |rpt k len off v h=>exact .rpt k len off v h
 |sp k n len v h=>exact .sp k n len v h
 |bs k n v h=>exact .bs k n v h
 |mp k v h=>exact .mp k v h
 |tnil k T v h=>exact .tnil k T v h
 |agg cs vs u hl hv _ ih=>exact .agg cs vs u hl hv ih
 |tup cs vs u hl hv _ ih=>exact .tup cs vs u hl hv ih
 |fn f xs ys vs ws u t hl hv _ hl' hv' _ ih ih'=>exact .fn f xs ys vs ws u t hl hv ih hl' hv' ih'
theorem RepO.mapP{F:Nat->Prop}{ρ:Loc}{w w':World}{b cc:Nat}{o:HO}(hb:w'.heap[b]?=w.heap[b]?)(hk:∀p v,RepP (owned F ρ) w p v->RepP (owned F ρ) w' p v)(h:RepO F ρ σ w b cc o):RepO F ρ σ w' b cc o:=by
 cases h with
 |box cs e a u h hl hv hr=>exact .box cs e a u (hb.trans h) hl hv λj x hj=>(hr j x hj).mapP hk
 |row s els a u h hs hl hm hw hv hr=>exact .row s els a u (hb.trans h) hs hl hm hw hv λi el hi j x hj=>hk _ _ (hr i el hi j x hj)
 |map es a t u h hl hv hr=>exact .map es a t u (hb.trans h) hl hv λi k p hi=>hk _ _ (hr i k p hi)
theorem zt4{w:World}{b0:Nat}{s:ByteArray}{k:Nat}(h:w.heap[b0]?=some (.stringIter s k)):∀off sp,w.cell? ⟨b0,off,sp⟩=none:=by
 intro off sp;simp[World.cell?,h]
theorem All.iterSet{ρ:Loc}{w:World}{a:Act}{b0 k k':Nat}{s:ByteArray}(h:All c ρ σ w fr a)(hit:w.heap[b0]?=some (.stringIter s k))(hge:c.w.heap.size<=b0)(hun:∀j cc,ρ j≠some (b0,cc)) :
 All c ρ σ { w with heap:=w.heap.setIfInBounds b0 (.stringIter s k') } fr a:=by
 have hlt:b0<w.heap.size:=(C7.1 hit).1;have hoth:∀b,b≠b0->(w.heap.setIfInBounds b0 (Obj.stringIter s k'))[b]?=w.heap[b]?:=λb hb=>by simp[C0 hb]
 have hP:∀p v,RepP (owned c.F ρ) w p v->RepP (owned c.F ρ) { w with heap:=w.heap.setIfInBounds b0 (.stringIter s k') } p v:=λp v hp=>hp.keepIt sI0 (zt4 hit) hoth;refine⟨⟨h.rel.inj,h.rel.apart,λb hb=>by simpa using h.rel.old b hb,λj b cc hj=>?_,h.rel.real⟩,λt x hx=>?_,?_,h.df,h.sz,h.kk⟩
 ·obtain⟨o,h1,h2⟩:=h.rel.obj j b cc hj;exact⟨o,h1,h2.mapP (hoth b λe=>hun j cc (e▸hj)) hP⟩
 ·obtain⟨v,hv,hr⟩:=h.fr t x hx;exact⟨v,hv,hr.mapP hP⟩
 ·have t:=h.tr;exact { t with
   size:=by simpa using t.size
   blk:=λb hb hall=>(hoth b oM0).trans (t.blk b hb hall) }
theorem All.rebase{ρ:Loc}{w:World}{a:Act}(h:All c ρ σ w fr a):All ⟨c.F,c.R,ρ,σ,w,c.n⟩ ρ σ w fr a:=⟨h.rel,h.fr,.refl _ _ _ _ _,h.df,h.sz,h.kept⟩
theorem All.unbase{ρ ρ':Loc}{σ':Heap'}{w w':World}{fr':Fr}{a a':Act}(h:All c ρ σ w fr a)(h':All ⟨c.F,c.R,ρ,σ,w,c.n⟩ ρ' σ' w' fr' a')(hc:∀k,σ k=none->c.σ k=none):All c ρ' σ' w' fr' a' :=
 ⟨h'.rel,h'.fr,h.tr.trans h'.tr (λ_ h=>h) (λk h1 _=>hc k h1),h'.df,h'.sz,h.kk⟩
abbrev itv(b0:Nat):IV:=.pv (.val (.pointer (some ⟨b0,0,none⟩)))
theorem yr4(s:ByteArray)(i:Nat):1<=(Utf8.decode s i).2:=by
 unfold Utf8.decode;simp only
 repeat' split
 all_goals simp
def itPos(w:World)(b0:Nat):Nat:=match w.heap[b0]? with
 |some (.stringIter _ k)=>k
 |_=>0
theorem Sub.cons{fr':Fr}{d:Nat}{x:IV}(h:Sub σ fr fr'):Sub σ ((d,x)::fr) ((d,x)::fr'):=by
 intro t y hy;simp only[Fr.get]at hy⊢
 cases hb:Nat.beq d t with
 |true=>rw[hb]at hy;cases hy;exact⟨_,rfl,λ_ _ _ _ h=>h⟩
 |false=>rw[hb]at hy;exact h t y hy
theorem Tr.strRange{id1 i2 bid:Nat}{ops1 ops2:Array Oper}{rest:Code}{m g nx ex:Oper}{d0 d1 e1 e2:Nat}{x0:Operand}{ty:TypeId}{s:ByteArray}
 (h1:ops1.toList=[m,g]) (hmo:m.op=.move x0) (hmd:m.dst=some d0) (hmg:m.guard=none) (hgo:g.op=.range ty (.tmp d0)) (hgd:g.dst=some d1) (hgg:g.guard=none)
 (hx0:fr.ev x0=some (iStr s)) (hty:P.underlying ty=some .string)
 (h2:ops2.toList=[nx,ex]) (hno:nx.op=.next (.tmp d1) true) (hnd:nx.dst=some e1) (hng:nx.guard=none) (heo:ex.op=.extract (.tmp e1) 0) (hed:ex.dst=some e2) (heg:ex.guard=none)
 (hb0:Nat.blt d0 c.n=true) (hb1:Nat.blt d1 c.n=true) (hb2:Nat.blt e1 c.n=true) (hb3:Nat.blt e2 c.n=true)
 (hcσ:∀k,σ k=none->c.σ k=none)
 (I:Nat->Fr->Prop) (h0:∃fr0,Sub σ ((d0,iStr s)::fr) fr0/\I 0 fr0)
 (hdone:∀b0 k fr',s.size<=k->I k fr'->Q .normal ((e2,iBool false)::(e1,.tup [iBool false])::(d1,itv b0)::fr') σ)
 (round:∀(ρ2:Loc)(w2:World)(b0 k:Nat)(fr':Fr),k<s.size->I k fr' ->
  Tr P ⟨c.F,c.R,ρ2,σ,w2,c.n⟩ rest ((e2,iBool true)::(e1,.tup [iBool true,iInt k,.pv (.val (.int .i32 (Utf8.decode s k).1))])::(d1,itv b0)::fr') σ (λe fr1 σ1=>match e with
   |.normal=>σ1=σ /\ ∃fr'',Sub σ fr1 ((d1,itv b0)::fr'')/\I (k+(Utf8.decode s k).2) fr''
   |.exit _=>False
   |e=>Q e fr1 σ1)) :
 Tr P c (.seq (.region id1 ops1 false) (.block bid (.loop (.seq (.region i2 ops2 false) (.seq (.cond (.tmp e2) .skip (.exit bid)) rest))))) fr σ Q:=by
 obtain⟨fr0,hs0,hI0⟩:=h0;intro ρ w a ha;refine wp_seq (G7 ?_);rw[h1];refine Er hmg λK hK=>?_;obtain⟨v1,hr1,hv1⟩:=(z2o (R1:=λ_=>True) hmo hx0) ρ w a ha;unfold Oper.wp;rw[hr1 w (.refl _ _ _ _),Co];refine hK _ _ ?_;clear hK K;have ha2:All c ρ σ w ((d0,iStr s)::fr) (a.put m.dst v1):=by
  have:=ha.put (d:=m.dst) hv1 (by rw[hmd];intro t ht;cases ht;simpa using hb0)
  rwa [hmd]at this⊢
 generalize a.put m.dst v1=a2 at ha2⊢;refine Er hgg λK2 hK2=>?_;have hevs:a2.eval (.tmp d0)=.string s:=z0v ha2 (show Fr.ev ((d0,iStr s)::fr) (.tmp d0)=_ by simp[Fr.ev,Fr.get]);have hrun:(execOp a2.eval g).run P w=.ok (.value (.pointer (some ⟨w.heap.size,0,none⟩))) (w.iter s 0):=by
  simp[execOp,hgo,hevs,Ac,run_range_string w ty s hty]
 unfold Oper.wp;rw[hrun,Co];refine hK2 _ _ ?_;obtain⟨ha3,_⟩:=ha2.push (.stringIter s 0);have hfresh:=ha2.fresh;have ha4:All c ρ σ (w.iter s 0) ((d1,itv w.heap.size)::(d0,iStr s)::fr) (a2.put g.dst (.pointer (some ⟨w.heap.size,0,none⟩))):=by
  have:=ha3.put (d:=g.dst) (z3b (.pointer (some ⟨w.heap.size,0,none⟩))) (by rw[hgd];intro t ht;cases ht;simpa using hb1)
  rwa [hgd]at this⊢
 have hge:c.w.heap.size<=w.heap.size:=ha2.tr.size;generalize hb:w.heap.size=b0 at *
 generalize a2.put g.dst (.pointer (some ⟨b0,0,none⟩))=a4 at ha4⊢;show(Code.block _ _).wp P _ a4 (w.iter s 0);refine wp_block ?_;refine wp_loop (λa' w'=>∃k ρ' fr',All c ρ' σ w' ((d1,itv b0)::fr') a'/\I k fr'/\w'.heap[b0]?=some (.stringIter s k)/\∀j cc,ρ' j≠some (b0,cc)) (λ_ w'=>s.size-itPos w' b0) ⟨0,ρ,fr0,ha4.sub (hs0.cons),hI0,by rw[<- hb];exact World.iter_heap w s 0,λj cc hj=>by first|exact hfresh (.inr ⟨j,cc,hj⟩)|exact hfresh (by rw[hb];exact .inr ⟨j,cc,hj⟩)⟩ ?_;rintro a5 w5 ⟨k,ρ5,fr',ha5,hI,hit,hun⟩;refine wp_seq (G7 ?_);rw[h2];have hevp:a5.eval (.tmp d1)=.pointer (some ⟨b0,0,none⟩):=z0v ha5 (show Fr.ev ((d1,itv b0)::fr') (.tmp d1)=_ by simp[Fr.ev,Fr.get]);have hpos:itPos w5 b0=k:=by simp[itPos,hit]
 have hlt0:b0<w5.heap.size:=(C7.1 hit).1
 by_cases hk:k<s.size
 ·have hrun5:(execOp a5.eval nx).run P w5=.ok (.value (.tuple #[.bool true,.int .i64 k,.int .i32 (Utf8.decode s k).1])) { w5 with heap:=w5.heap.setIfInBounds b0 (.stringIter s (k+(Utf8.decode s k).2)) }:=by
   simp[execOp,hno,hevp,Instr.next,getObj,setObj,Ac,Sem.run,hit,hk,goInt,Result.andThen]
  refine Er hng λK3 hK3=>?_;unfold Oper.wp;rw[hrun5,Co];refine hK3 _ _ ?_;have ha6:=ha5.iterSet (k':=k+(Utf8.decode s k).2) hit (by rw[<- hb]at hge⊢;exact hge) hun;have htup:RepI c.F ρ5 σ { w5 with heap:=w5.heap.setIfInBounds b0 (.stringIter s (k+(Utf8.decode s k).2)) } (.tup [iBool true,iInt k,.pv (.val (.int .i32 (Utf8.decode s k).1))]) (.tuple #[.bool true,.int .i64 k,.int .i32 (Utf8.decode s k).1]):=y27 (z3b _) (z3b _) (z3b _);have ha7:All c ρ5 σ { w5 with heap:=w5.heap.setIfInBounds b0 (.stringIter s (k+(Utf8.decode s k).2)) } ((e1,.tup [iBool true,iInt k,.pv (.val (.int .i32 (Utf8.decode s k).1))])::(d1,itv b0)::fr') (a5.put nx.dst (.tuple #[.bool true,.int .i64 k,.int .i32 (Utf8.decode s k).1])):=by
   have:=ha6.put (d:=nx.dst) htup (by rw[hnd];intro t ht;cases ht;simpa using hb2)
   rwa [hnd]at this⊢
  generalize a5.put nx.dst (.tuple #[.bool true,.int .i64 k,.int .i32 (Utf8.decode s k).1])=a7 at ha7⊢;generalize hw7:({ w5 with heap:=w5.heap.setIfInBounds b0 (.stringIter s (k+(Utf8.decode s k).2)) }:World)=w7 at ha7⊢;have hit7:w7.heap[b0]?=some (.stringIter s (k+(Utf8.decode s k).2)):=by rw[<- hw7];simp[hlt0]
  refine Er heg λK4 hK4=>?_;obtain⟨v8,hr8,hv8⟩:=(z8z (R1:=λ_=>True) (vs:=[iBool true,iInt k,.pv (.val (.int .i32 (Utf8.decode s k).1))]) (z:=iBool true) heo (show Fr.ev ((e1,_)::_) (.tmp e1)=_ by simp[Fr.ev,Fr.get]) rfl) ρ5 w7 a7 ha7;unfold Oper.wp;rw[hr8 w7 (.refl _ _ _ _),Co];refine hK4 _ _ ?_;have ha8:All c ρ5 σ w7 ((e2,iBool true)::(e1,.tup [iBool true,iInt k,.pv (.val (.int .i32 (Utf8.decode s k).1))])::(d1,itv b0)::fr') (a7.put ex.dst v8):=by
   have:=ha7.put (d:=ex.dst) hv8 (by rw[hed];intro t ht;cases ht;simpa using hb3)
   rwa [hed]at this⊢
  generalize a7.put ex.dst v8=a8 at ha8⊢;show(Code.seq _ _).wp P _ a8 w7;refine wp_seq ?_;refine wp_cond (t:=true) (z0v ha8 (show Fr.ev ((e2,iBool true)::_) (.tmp e2)=_ by simp[Fr.ev,Fr.get])) ?_;rw[if_pos rfl];refine wp_skip ?_;show rest.wp P _ a8 w7;refine Gc (round ρ5 w7 b0 k fr' hk hI ρ5 w7 a8 ha8.rebase) ?_;rintro e a9 w9 ⟨ρ9,σ9,fr9,ha9,hq⟩;have hlt7:b0<w7.heap.size:=(C7.1 hit7).1
  cases e with
  |normal =>
   obtain⟨rfl,fr2,hsub,hI2⟩:=hq;have hit9:w9.heap[b0]?=some (.stringIter s (k+(Utf8.decode s k).2)):=(ha9.tr.blk b0 hlt7 λj cc hj=>absurd hj (hun j cc)).trans hit7;refine⟨⟨_,ρ9,fr2,(ha8.unbase ha9 hcσ).sub hsub,hI2,hit9,λj cc hj=>(ha9.tr.own j b0 cc hj hlt7).elim (hun j cc) λ⟨k0,c0,g,_⟩=>hun k0 c0 g⟩,?_⟩;have:=yr4 s k;rw[hpos];simp only[itPos,hit9]
   omega
  |exit id=>exact hq.elim
  |_=>exact⟨ρ9,σ9,fr9,ha8.unbase ha9 hcσ,hq⟩
 ·have hrun5:(execOp a5.eval nx).run P w5=.ok (.value (.tuple #[.bool false])) w5:=by
   simp[execOp,hno,hevp,Instr.next,getObj,Ac,Sem.run,hit,hk,Result.andThen]
  refine Er hng λK3 hK3=>?_;unfold Oper.wp;rw[hrun5,Co];refine hK3 _ _ ?_;have htup:RepI c.F ρ5 σ w5 (.tup [iBool false]) (.tuple #[.bool false]):=.tup _ _ (λ_=>.bool false) rfl (λj x hj=>by
   match j,hj with
   |0,_=>rfl
   |j+1,hj=>simp at hj) λj x hj=>by
   match j,hj with
   |0,hj=>cases hj;exact z3b _
   |j+1,hj=>simp at hj
  have ha7:All c ρ5 σ w5 ((e1,.tup [iBool false])::(d1,itv b0)::fr') (a5.put nx.dst (.tuple #[.bool false])):=by
   have:=ha5.put (d:=nx.dst) htup (by rw[hnd];intro t ht;cases ht;simpa using hb2)
   rwa [hnd]at this⊢
  generalize a5.put nx.dst (.tuple #[.bool false])=a7 at ha7⊢;refine Er heg λK4 hK4=>?_;obtain⟨v8,hr8,hv8⟩:=(z8z (R1:=λ_=>True) (vs:=[iBool false]) (z:=iBool false) heo (show Fr.ev ((e1,_)::_) (.tmp e1)=_ by simp[Fr.ev,Fr.get]) rfl) ρ5 w5 a7 ha7;unfold Oper.wp;rw[hr8 w5 (.refl _ _ _ _),Co];refine hK4 _ _ ?_;have ha8:All c ρ5 σ w5 ((e2,iBool false)::(e1,.tup [iBool false])::(d1,itv b0)::fr') (a7.put ex.dst v8):=by
   have:=ha7.put (d:=ex.dst) hv8 (by rw[hed];intro t ht;cases ht;simpa using hb3)
   rwa [hed]at this⊢
  generalize a7.put ex.dst v8=a8 at ha8⊢;show(Code.seq _ _).wp P _ a8 w5;refine wp_seq ?_;refine wp_cond (t:=false) (z0v ha8 (show Fr.ev ((e2,iBool false)::_) (.tmp e2)=_ by simp[Fr.ev,Fr.get])) ?_;rw[if_neg sI0];refine wp_exit ?_;show(if bid=bid then _ else _);rw[if_pos rfl];exact⟨ρ5,σ,_,ha8,hdone b0 k fr' oM0 hI⟩
end
section
variable {P:Program} {c:Cx} {R1:Nat->Prop} {o:Oper} {fr:Fr} {hp:Hp} {σ:Heap'} {Q:Exit->Fr->Heap'->Prop}
theorem ys8{t e:TypeId}{x:Operand}(ho:o.op=.call { callee:=.builtin .cap,args:=#[x],argTypes:=#[t] })(hx:fr.ev x=some (.pv (.val (.slice none 0 0))))(hu:P.underlying t=some (.slice e)):OkV P c R1 o fr σ (iInt 0):=by
 intro ρ w a h;refine⟨.int .i64 0,λw2 _=>?_,z3b _⟩;simp[execOp,ho,z0v h hx,resolve,Ac,invoke,builtin,Builtin.cap_,B4 hu,goInt]
theorem All.freezeCell{ρ:Loc}{w:World}{a:Act}{k k2 j n:Nat}{s:RT}{els:List (List PV)}{cs:List IV}(h:All c ρ (look hp) w fr a)(hk:look hp k=some (.row s els))(hn:els.length=n)(hk2:look hp k2=some (.box cs))(hj:cs[j]?=some (.sl k n))(hne:k≠k2) :
 All c (z16 ρ k none) (look ((k2,some (.box (cs.set j (.pv (.seq els)))))::(k,none)::hp)) w fr a:=by
 have h':=h.drop (k:=k);have hown:∀b,owned c.F (z16 ρ k none) b->owned c.F ρ b:=λb hb=>by
  rcases hb with hb|⟨i,cc,hi⟩
  ·exact .inl hb
  ·by_cases e:i=k
   ·subst e;rw[z09]at hi;cases hi
   ·rw[z2t (C0 e)]at hi;exact .inr ⟨i,cc,hi⟩
 have hlk:∀i,i≠k2->look ((k2,some (.box (cs.set j (.pv (.seq els)))))::(k,none)::hp) i=look ((k,none)::hp) i:=λi hi=>z1l (C0 hi);have hlk2:look ((k2,some (.box (cs.set j (.pv (.seq els)))))::(k,none)::hp) k2=some (.box (cs.set j (.pv (.seq els)))):=z1f;have hk2':look ((k,none)::hp) k2=some (.box cs):=yb5 hne hk2;have hnew:∀v,RepI c.F ρ (look hp) w (.sl k n) v->RepP (owned c.F (z16 ρ k none)) w (.seq els) v:=by
  intro v hv
  cases hv with
  |sl _ _ _ hv =>
   obtain⟨_,h2⟩:=hv s els hk;rcases h2 hn with⟨b,cc,hρ,rfl⟩|⟨_,hz,rfl⟩
   ·obtain⟨o1,h3,h4⟩:=h.rel.obj k b cc hρ;rw[hk]at h3;cases h3
    cases h4 with
    |row _ _ r u h3 hs hl hm hwe hcells hu =>
     rw[<- hn];refine .seq els _ cc b 0 u (λ_=>rfl) (λ_=>⟨λho=>?_,h.rel.lt hρ⟩) oM0 hm (λi el hi q x hq=>?_) λi el hi q x hq=>(hu i el hi q x hq).own hown
     ·rcases ho with ho|⟨i,cc',hi⟩
      ·exact h.rel.apart _ _ _ hρ ho
      ·by_cases e:i=k
       ·subst e;rw[z09]at hi;cases hi
       ·rw[z2t (C0 e)]at hi;exact e (h.rel.inj _ _ _ _ _ hi hρ)
     ·rw[z4v h3,Bu,hwe el (A9 hi)];exact hcells i el hi q x hq
   ·have hnil:els=[]:=Au oM0;subst hnil;exact .seq [] none 0 0 0 (λ_ _=>undef) sI0 sI0 sI0 (by simp[maxLen]) sI0 sI0
 have hconv:∀x v,RepI c.F (z16 ρ k none) (look ((k,none)::hp)) w x v->RepI c.F (z16 ρ k none) (look ((k2,some (.box (cs.set j (.pv (.seq els)))))::(k,none)::hp)) w x v:=by
  intro x v hx
  induction hx with
  |pv p v hp=>exact .pv p v hp
  |ptr i off v hi =>
   refine .ptr i off v λcs' h2=>?_
   by_cases e:i=k2
   ·subst e;exact hi _ hk2'
   ·rw[hlk i e]at h2;exact hi _ h2
  |sl i len v hi =>
   refine .sl i len v λs' els' h2=>?_
   by_cases e:i=k2
   ·subst e;rw[hlk2]at h2;cases h2
   ·rw[hlk i e]at h2;exact hi _ _ h2
  |sp i n len v hi =>
   refine .sp i n len v λs' els' h2=>?_
   by_cases e:i=k2
   ·subst e;rw[hlk2]at h2;cases h2
   ·rw[hlk i e]at h2;exact hi _ _ h2
  |rpt i len off v hi =>
   refine .rpt i len off v λs' els' h2=>?_
   by_cases e:i=k2
   ·subst e;rw[hlk2]at h2;cases h2
   ·rw[hlk i e]at h2;exact hi _ _ h2
  |bs i n v hi =>
   refine .bs i n v λcs' h2=>?_
   by_cases e:i=k2
   ·subst e;exact hi _ hk2'
   ·rw[hlk i e]at h2;exact hi _ h2
  |mp i v hi =>
   refine .mp i v λes h2=>?_
   by_cases e:i=k2
   ·subst e;rw[hlk2]at h2;cases h2
   ·rw[hlk i e]at h2;exact hi _ h2
  |tnil i T v hi =>
   refine .tnil i T v λcs' h2=>?_
   by_cases e:i=k2
   ·subst e;exact hi _ hk2'
   ·rw[hlk i e]at h2;exact hi _ h2
  |agg cs vs u hl hv _ ih=>exact .agg cs vs u hl hv ih
  |tup cs vs u hl hv _ ih=>exact .tup cs vs u hl hv ih
  |fn f xs ys vs ws u t hl hv _ hl' hv' _ ih ih'=>exact .fn f xs ys vs ws u t hl hv ih hl' hv' ih'
 refine⟨⟨h'.rel.inj,h'.rel.apart,h'.rel.old,λi b cc hi=>?_,λi o h1 h2=>?_⟩,λt x hx=>?_,?_,h'.df,h'.sz,h.kk⟩
 ·obtain⟨o1,h1,h2⟩:=h'.rel.obj i b cc hi
  by_cases e:i=k2
  ·subst e;rw[hk2']at h1;cases h1
   refine⟨_,hlk2,?_⟩;have hρi:ρ i=some (b,cc):=by rwa [z2t hne]at hi
   obtain⟨o3,h3,h4⟩:=h.rel.obj i b cc hρi;rw[hk2]at h3;cases h3
   cases h2 with
   |box _ e' r u h5 hl hv hr =>
    cases h4 with
    |box _ e2 r2 u2 h6 hl2 hv2 hr2 =>
     rw[h5]at h6;cases h6
     refine .box _ e' r u h5 (by simpa using hl) (λq x hq=>?_) λq x hq=>?_
     ·by_cases eq:q=j
      ·subst eq;exact hv q _ hj
      ·rw[Bk (C0 eq)]at hq;exact hv q x hq
     ·by_cases eq:q=j
      ·subst eq;have hlt:q<cs.length:=(A4.1 hj).1;rw[Bl hlt]at hq;cases hq
       have e3:u q=u2 q:=by
        have a1:=hv q _ hj;have a2:=hv2 q _ hj;rw[a1]at a2;exact Bv a2
       rw[e3];exact .pv _ _ (hnew _ (hr2 q _ hj))
      ·rw[Bk (C0 eq)]at hq;exact hconv _ _ (hr q x hq)
  ·refine⟨o1,(hlk i e).trans h1,?_⟩
   cases h2 with
   |box cs' e' r u h hl hv hr=>exact .box cs' e' r u h hl hv λq x hq=>hconv _ _ (hr q x hq)
   |row s' els' r u h hs hl hm hw hv hr=>exact .row s' els' r u h hs hl hm hw hv hr
   |map es r t u h hl hv hr=>exact .map es r t u h hl hv hr
 ·by_cases e:i=k2
  ·subst e;rw[z2t hne]at h2;obtain⟨s',h3⟩:=h.rel.real i _ hk2 h2
   cases h3
  ·rw[hlk i e]at h1;exact h'.rel.real i o h1 h2
 ·obtain⟨v,hv,hr⟩:=h'.fr t x hx;exact⟨v,hv,hconv _ _ hr⟩
 ·have t:=h'.tr;refine⟨t.os,t.tape,t.output,t.size,t.blk,t.own,λi a1 a2 e1 e2=>?_,λi a1 a2 e1 e2=>?_,λi s1 s2 a1 a2 e1 e2 hl=>?_,λi s1 s2 a1 a2 e1 e2=>?_,λi a2 e2=>?_,λi a2 e2=>?_,λi s1 a2 e2=>?_⟩
  all_goals by_cases e:i=k2
  ·subst e;exact t.box i _ _ e1 hk2'
  ·rw[hlk i e]at e2;exact t.box i _ _ e1 e2
  ·subst e;rw[hlk2]at e2;cases e2
  ·rw[hlk i e]at e2;exact t.map i _ _ e1 e2
  ·subst e;rw[hlk2]at e2;cases e2
  ·rw[hlk i e]at e2;exact t.row i _ _ _ _ e1 e2 hl
  ·subst e;rw[hlk2]at e2;cases e2
  ·rw[hlk i e]at e2;exact t.grow i _ _ _ _ e1 e2
  ·subst e;exact t.kindB i _ hk2'
  ·rw[hlk i e]at e2;exact t.kindB i _ e2
  ·subst e;rw[hlk2]at e2;cases e2
  ·rw[hlk i e]at e2;exact t.kindM i _ e2
  ·subst e;rw[hlk2]at e2;cases e2
  ·rw[hlk i e]at e2;exact t.kindR i _ _ e2
theorem Tr.freezeCell{x:Code}{k k2 j n:Nat}{s:RT}{els:List (List PV)}{cs:List IV}(hk:look hp k=some (.row s els))(hn:els.length=n)(hk2:look hp k2=some (.box cs))(hj:cs[j]?=some (.sl k n))(hne:k≠k2)
 (h:Tr P c x fr (look ((k2,some (.box (cs.set j (.pv (.seq els)))))::(k,none)::hp)) Q):Tr P c x fr (look hp) Q:=λ_ w a ha=>h _ w a (ha.freezeCell hk hn hk2 hj hne)
theorem SC.sameR{f:FuncId}{args:List IV}{pre post:List (Nat×HO)}{R R':Nat->Prop}{r:IV}(h:SC P f args pre R r post)(hR:∀k,look (up pre) k≠none->R' k->R k):SC P f args pre R' r post:=by
 intro F ρ w vs hkept hrel hargs;refine(h F ρ w vs hkept hrel hargs).mono ?_;rintro e w' ⟨ρ',v,he,hv,hrel',t⟩;refine⟨ρ',v,he,hv,hrel',{ t with blk:=λb hb hall=>t.blk b hb λk cc hk=>hR k ?_ (hall k cc hk),own:=λk b cc hk hb=>(t.own k b cc hk hb).elim .inl λ⟨k0,c0,g,gn⟩=>.inr ⟨k0,c0,g,λr=>gn (hR k0 (by obtain⟨o,ho,_⟩:=hrel.obj _ _ _ g;rw[ho];simp) r)⟩ }⟩;obtain⟨o,ho,_⟩:=hrel.obj k b cc hk;rw[ho];simp
theorem Tr.growCell{x:Code}{k k2 j:Nat}{cs:List IV}(s:RT)(hk2:look hp k2=some (.box cs))(hj:cs[j]?=some (.pv (.val (.slice none 0 0))))(hσ:look hp k=none)(hc:c.σ k=none)(hfr:nmFr k fr=false)(hhp:nmHp k hp=false)
 (h:Tr P c x fr (look ((k2,some (.box (cs.set j (.sl k 0))))::(k,some (.row s []))::hp)) Q):Tr P c x fr (look hp) Q:=by
 intro ρ w a ha;obtain⟨hk,h'⟩:=ha.ghost hσ hc hfr hhp s;refine h ρ w a ?_;have hne:k≠k2:=λe=>by subst e;rw[hσ]at hk2;cases hk2
 have hk2':look ((k,some (.row s []))::hp) k2=some (.box cs):=yb5 hne hk2;have hlk:∀i,i≠k2->look ((k2,some (.box (cs.set j (.sl k 0))))::(k,some (.row s []))::hp) i=look ((k,some (.row s []))::hp) i:=λi hi=>z1l (C0 hi);have hlk2:look ((k2,some (.box (cs.set j (.sl k 0))))::(k,some (.row s []))::hp) k2=some (.box (cs.set j (.sl k 0))):=z1f;have hconv:∀x v,RepI c.F ρ (look ((k,some (.row s []))::hp)) w x v->RepI c.F ρ (look ((k2,some (.box (cs.set j (.sl k 0))))::(k,some (.row s []))::hp)) w x v:=by
  intro x v hx
  induction hx with
  |pv p v hp=>exact .pv p v hp
  |ptr i off v hi =>
   refine .ptr i off v λcs' h2=>?_
   by_cases e:i=k2
   ·subst e;exact hi _ hk2'
   ·rw[hlk i e]at h2;exact hi _ h2
  |sl i len v hi =>
   refine .sl i len v λs' els' h2=>?_
   by_cases e:i=k2
   ·subst e;rw[hlk2]at h2;cases h2
   ·rw[hlk i e]at h2;exact hi _ _ h2
  |sp i n len v hi =>
   refine .sp i n len v λs' els' h2=>?_
   by_cases e:i=k2
   ·subst e;rw[hlk2]at h2;cases h2
   ·rw[hlk i e]at h2;exact hi _ _ h2
  |rpt i len off v hi =>
   refine .rpt i len off v λs' els' h2=>?_
   by_cases e:i=k2
   ·subst e;rw[hlk2]at h2;cases h2
   ·rw[hlk i e]at h2;exact hi _ _ h2
  |bs i n v hi =>
   refine .bs i n v λcs' h2=>?_
   by_cases e:i=k2
   ·subst e;exact hi _ hk2'
   ·rw[hlk i e]at h2;exact hi _ h2
  |mp i v hi =>
   refine .mp i v λes h2=>?_
   by_cases e:i=k2
   ·subst e;rw[hlk2]at h2;cases h2
   ·rw[hlk i e]at h2;exact hi _ h2
  |tnil i T v hi =>
   refine .tnil i T v λcs' h2=>?_
   by_cases e:i=k2
   ·subst e;exact hi _ hk2'
   ·rw[hlk i e]at h2;exact hi _ h2
  |agg cs vs u hl hv _ ih=>exact .agg cs vs u hl hv ih
  |tup cs vs u hl hv _ ih=>exact .tup cs vs u hl hv ih
  |fn f xs ys vs ws u t hl hv _ hl' hv' _ ih ih'=>exact .fn f xs ys vs ws u t hl hv ih hl' hv' ih'
 refine⟨⟨h'.rel.inj,h'.rel.apart,h'.rel.old,λi b cc hi=>?_,λi o h1 h2=>?_⟩,λt x hx=>?_,?_,h'.df,h'.sz,h'.kk⟩
 ·obtain⟨o1,h1,h2⟩:=h'.rel.obj i b cc hi
  by_cases e:i=k2
  ·subst e;rw[hk2']at h1;cases h1
   refine⟨_,hlk2,?_⟩
   cases h2 with
   |box _ e' r u h5 hl hv hr =>
    refine .box _ e' r u h5 (by simpa using hl) (λq x hq=>?_) λq x hq=>?_
    ·by_cases eq:q=j
     ·subst eq;exact hv q _ hj
     ·rw[Bk (C0 eq)]at hq;exact hv q x hq
    ·by_cases eq:q=j
     ·subst eq;have hlt:q<cs.length:=(A4.1 hj).1;rw[Bl hlt]at hq;cases hq
      have hnil:=(hr q _ hj).val;rw[hnil];refine .sl _ _ _ λs1 els1 h1=>?_;rw[hlk _ hne,z1f]at h1
      cases h1
      exact⟨Ab _,λ_=>.inr ⟨hk,rfl,rfl⟩⟩
     ·rw[Bk (C0 eq)]at hq;exact hconv _ _ (hr q x hq)
  ·refine⟨o1,(hlk i e).trans h1,?_⟩
   cases h2 with
   |box cs' e' r u h hl hv hr=>exact .box cs' e' r u h hl hv λq x hq=>hconv _ _ (hr q x hq)
   |row s' els' r u h hs hl hm hw hv hr=>exact .row s' els' r u h hs hl hm hw hv hr
   |map es r t u h hl hv hr=>exact .map es r t u h hl hv hr
 ·by_cases e:i=k2
  ·subst e;obtain⟨s',h3⟩:=h'.rel.real i _ hk2' h2
   cases h3
  ·rw[hlk i e]at h1;exact h'.rel.real i o h1 h2
 ·obtain⟨v,hv,hr⟩:=h'.fr t x hx;exact⟨v,hv,hconv _ _ hr⟩
 ·have t:=h'.tr;refine⟨t.os,t.tape,t.output,t.size,t.blk,t.own,λi a1 a2 e1 e2=>?_,λi a1 a2 e1 e2=>?_,λi s1 s2 a1 a2 e1 e2 hl=>?_,λi s1 s2 a1 a2 e1 e2=>?_,λi a2 e2=>?_,λi a2 e2=>?_,λi s1 a2 e2=>?_⟩
  all_goals by_cases e:i=k2
  ·subst e;exact t.box i _ _ e1 hk2'
  ·rw[hlk i e]at e2;exact t.box i _ _ e1 e2
  ·subst e;rw[hlk2]at e2;cases e2
  ·rw[hlk i e]at e2;exact t.map i _ _ e1 e2
  ·subst e;rw[hlk2]at e2;cases e2
  ·rw[hlk i e]at e2;exact t.row i _ _ _ _ e1 e2 hl
  ·subst e;rw[hlk2]at e2;cases e2
  ·rw[hlk i e]at e2;exact t.grow i _ _ _ _ e1 e2
  ·subst e;exact t.kindB i _ hk2'
  ·rw[hlk i e]at e2;exact t.kindB i _ e2
  ·subst e;rw[hlk2]at e2;cases e2
  ·rw[hlk i e]at e2;exact t.kindM i _ e2
  ·subst e;rw[hlk2]at e2;cases e2
  ·rw[hlk i e]at e2;exact t.kindR i _ _ e2
theorem tup2_sub{F:Nat->Prop}{ρ:Loc}{w:World}{x x' y:IV}{v:Value}(hx:∀v,RepI F ρ σ w x v->RepI F ρ σ w x' v)(h:RepI F ρ σ w (.tup [x,y]) v):RepI F ρ σ w (.tup [x',y]) v:=by
 cases h with
 |tup _ vs u hl hv hr =>
  refine .tup _ vs u hl (λj z hj=>?_) λj z hj=>?_
  ·match j,hj with
   |0,_=>exact hv 0 x rfl
   |1,hj=>exact hv 1 y rfl
   |j+2,hj=>simp at hj
  ·match j,hj with
   |0,hj=>cases hj;exact hx _ (hr 0 x rfl)
   |1,hj=>cases hj;exact hr 1 y rfl
   |j+2,hj=>simp at hj
end
theorem tZ3:((Tryz.prog.info? 3).bind (·.zero))=some (.int .i64 (0)):=by kernel_rfl
theorem ent121:z6m Tryz.prog 121:=⟨Tryz.f121,Tryz.func121,by kernel_rfl,by kernel_rfl⟩
theorem ent122:z6m Tryz.prog 122:=⟨Tryz.f122,Tryz.func122,by kernel_rfl,by kernel_rfl⟩
theorem ent123:z6m Tryz.prog 123:=⟨Tryz.f123,Tryz.func123,by kernel_rfl,by kernel_rfl⟩
theorem ent171:z6m Tryz.prog 171:=⟨Tryz.f171,Tryz.func171,by kernel_rfl,by kernel_rfl⟩
def rowI(l:List Int):HO:=.row ⟨3,1⟩ (l.map eInt)
def endv(e:Rend):PV:=.agg [vInt e.1,ints e.2]
theorem j42{v v':List Int}{x y:Int}(h:setV v x y=some v'):0<=x/\x.toNat<(v.map eInt).length/\v'=v.set x.toNat y:=by
 unfold setV at h;split at h
 ·rename_i hx;exact⟨hx.1,by simpa using hx.2,by cases h;rfl⟩
 ·cases h
theorem zc7{v v':List Int}{x:Int}{r n:List Int}(h:mSet v (x::r) n=some v'):∃y n' v1,n=y::n'/\setV v x y=some v1/\mSet v1 r n'=some v':=by
 cases n with
 |nil=>cases h
 |cons y n' =>
  simp only[mSet,Ah]at h;obtain⟨v1,h1,h2⟩:=h;exact⟨y,n',v1,rfl,h1,h2⟩
def r8op(x:Nd):Bool:=x.kind==3||x.kind==4
def r8num(x:Nd):Bool:=x.kind==1||x.kind==2
def ym5(x:Nd):Bool:=x.kind==5||x.kind==6||x.kind==7
def r8kn(x:Nd):Int:=if x.kind==11 then 1 else if x.kind==10 then 2 else 0
def z1k(x:Nd):Bool:=(r8op x||x.op==0)&&(r8num x||x.n==0)&&(ym5 x||x.name.toList==[])&&(x.kids.length:Int)==r8kn x&&(x.kind==11||(x.params.length:Int)==0)
def zf7(b:Bool):List PV:=[vBool b]
def z95(tys seen:List Int)(v w:Int):Bool:=!(decide (v<0)||decide (v≥tys.length) || !seen.contains v||(w != 0&&(tys.getD v.toNat 0 != w)))
def z14(tys seen:List Int):List Int->List Int->Bool
 |v::r,w::ws=>z95 tys seen v w&&z14 tys seen r ws
 |_,_=>true
def z08(tys seen l want:List Int):Bool:=(l.length:Int)==want.length&&z14 tys seen l want
def z9r(tys:List Int)(set:List Bool)(v w:Int):Bool:=decide (v<0)||decide (v≥tys.length)||set.getD v.toNat false||(w != 0&&(tys.getD v.toNat 0 != w))
def z2g(tys:List Int):List Bool->List Int->List Int->Bool×List Bool
 |set,v::r,w::ws=>if z9r tys set v w then(false,set)else z2g tys (set.set v.toNat true) r ws
 |set,_,_=>(true,set)
def z1u(tys:List Int)(set:List Bool)(l want:List Int):Bool×List Bool :=
 if (l.length:Int)==want.length then z2g tys set l want else(false,set)
theorem zd4(tys:List Int):∀(l want:List Int)(set:List Bool),(z2g tys set l want).2.length=set.length
 |[],_,_=>by simp[z2g]
 |_::_,[],_=>by simp[z2g]
 |v::r,w::ws,set=>by
  simp only[z2g];split
  ·rfl
  ·rw[zd4 tys r ws];simp
theorem z7b(tys:List Int)(set:List Bool)(l want:List Int):(z1u tys set l want).2.length=set.length:=by
 unfold z1u;split
 ·exact zd4 ..
 ·rfl
def zr4(tys:List Int)(v:Int):Bool:=decide (0<=v)&&decide (v<tys.length)
def r8of(tys l:List Int):List Int:=if l.all (zr4 tys)then l.map λv=>tys.getD v.toNat 0 else[]
structure Wh where
 If:Bool
 Loop:Bool
 Yield:List Int
 Next:List Int
 Left:List Int
abbrev whv(w:Wh):PV:=.agg [vBool w.If,vBool w.Loop,ints w.Yield,ints w.Next,ints w.Left]
def y4t(u:Un)(f:Fl)(n:Nat):List IV:=[.pv (arrs u.arrays),.pv (flws u.flows),iStr f.name,iInt f.ty,iInt f.params,.pv (ints f.types),.pv (z2e f.body),.sl 4 n]
def ckHp(u:Un)(f:Fl)(bt:TypeId)(set:List Bool):List (Nat×HO):=[(3,.box (y4t u f (set.map zf7).length)),(4,.row ⟨bt,1⟩ (set.map zf7))]
def z2u(op:Int):Bool:=decide (op≥20)&&decide (op<=28)
def z3q(op:Int):Bool:=decide (op≥1)&&decide (op<=17)
def z0f(op:Int):Int×Int :=
 if op==18||op==19||op==22 then(2,2)else if op==16||op==17 then(0,2)
 else if decide (op≥12)&&decide (op<=15)then(1,2)else(1,1)
def andS(b:Bool)(set:List Bool)(r:Bool×List Bool):Bool×List Bool:=if b then r else(false,set)
def zd3(u:Un)(f:Fl)(set:List Bool)(x:Nd)(seen:List Int):Bool×List Bool :=
 if decide (z06 x.name u.flows 0≥0)=true then
  match u.flows[(z06 x.name u.flows 0).toNat]? with
  |some g=>andS (z08 f.types seen x.args (g.types.take g.params.toNat)) set (z1u f.types set x.outs [g.ty])
  |none=>(false,set)
 else(false,set)
def z1i(u:Un)(f:Fl)(set:List Bool)(x:Nd)(seen:List Int)(w:Wh):Bool×List Bool :=
 if x.kind==1 then andS (z08 f.types seen x.args []) set (z1u f.types set x.outs [1])
 else if x.kind==2 then andS ((x.n==0||x.n==1)&&z08 f.types seen x.args []) set (z1u f.types set x.outs [2])
 else if x.kind==3 then andS (z2u x.op&&z08 f.types seen x.args [(z0f x.op).1]) set (z1u f.types set x.outs [(z0f x.op).2])
 else if x.kind==4 then andS (z3q x.op&&z08 f.types seen x.args [(z0f x.op).1,(z0f x.op).1]&&f.types.getD (x.args.getD 0 0).toNat 0==f.types.getD (x.args.getD 1 0).toNat 0) set (z1u f.types set x.outs [(z0f x.op).2])
 else if x.kind==5 then andS (decide (z0i x.name u.arrays 0≥0)&&z08 f.types seen x.args [1]) set (z1u f.types set x.outs [1])
 else if x.kind==6 then(decide (z0i x.name u.arrays 0≥0)&&z08 f.types seen x.args [1,1]&&(x.outs.length:Int)==0,set)
 else if x.kind==7 then zd3 u f set x seen
 else if x.kind==8 then andS ((x.args.length:Int)==0) set (z1u f.types set x.outs [1])
 else if x.kind==9 then(z08 f.types seen x.args [1]&&(x.outs.length:Int)==0,set)
 else if x.kind==12 then(w.If&&z08 f.types seen x.args w.Yield&&(x.outs.length:Int)==0,set)
 else if x.kind==13 then(w.Loop&&z08 f.types seen x.args w.Next&&(x.outs.length:Int)==0,set)
 else if x.kind==14 then(w.Loop&&z08 f.types seen x.args w.Left&&(x.outs.length:Int)==0,set)
 else if x.kind==15 then(z08 f.types seen x.args [f.ty]&&(x.outs.length:Int)==0,set)
 else(false,set)
theorem zv7(name:ByteArray):∀(l:List Fl)(i:Int),z06 name l i ≠ -1->i≥0->i<=z06 name l i/\∃g,l[(z06 name l i-i).toNat]?=some g/\eqS g.name name=true
 |[],i,h,_=>absurd rfl h
 |g::r,i,h,h0=>by
  simp only[z06]at h⊢;split
  ·rename_i hq;exact⟨D8 _,g,by simp,hq⟩
  ·rename_i hq;rw[if_neg hq]at h;obtain⟨h1,g',h2,h3⟩:=zv7 name r (i+1) h oM0;refine⟨by omega,g',?_,h3⟩;rw[show(z06 name r (i+1)-i).toNat=(z06 name r (i+1)-(i+1)).toNat+1 by omega];simpa using h2
theorem ze5{name:ByteArray}{l:List Fl}(h:z06 name l 0≥0):∃g,l[(z06 name l 0).toNat]?=some g/\eqS g.name name=true:=by
 obtain⟨_,g,h2,h3⟩:=zv7 name l 0 oM0 oM0;exact⟨g,by simpa using h2,h3⟩
theorem zi6{tys seen:List Int}{v w:Int}(h:z95 tys seen v w=true):0<=v/\v.toNat<tys.length:=by
 simp[z95]at h;omega
theorem yd4{tys seen l:List Int}{t1 t2:Int}(h:z08 tys seen l [t1,t2]=true):∃a b,l=[a,b]/\0<=a/\a.toNat<tys.length/\0<=b/\b.toNat<tys.length:=by
 match l with
 |[]=>simp[z08]at h
 |[a]=>simp[z08]at h
 |[a,b] =>
  simp[z08,z14]at h;have h1:=zi6 h.1;have h2:=zi6 h.2
  exact⟨a,b,rfl,h1.1,h1.2,h2.1,h2.2⟩
 |a::b::c::r=>simp[z08]at h;omega
def andT(r:Bool×List Bool)(k:List Bool->Bool×List Bool):Bool×List Bool:=if r.1 then k r.2 else(false,r.2)
def ne(l:List Nd)(r:Bool×List Bool):Bool×List Bool:=if l.isEmpty then(false,r.2)else r
mutual
def ndW:Nd->Nat
 |.mk _ _ _ _ args outs params kids=>1+args.length+outs.length+params.length+kdW kids
def lsW:List Nd->Nat
 |[]=>0
 |x::r=>ndW x+lsW r
def kdW:List (List Nd)->Nat
 |[]=>0
 |l::r=>1+lsW l+kdW r
end
def zg3(f:Fl)(x:Nd)(set:List Bool):Bool×List Bool :=
 andS ((x.outs.length:Int)==0 || !z05 x) set (z1u f.types set x.outs (List.replicate x.outs.length 0))
mutual
def z4z(u:Un)(f:Fl)(deep:Int)(w:Wh)(seen:List Int)(set:List Bool):Nd->Bool×List Bool
 |.mk kind op n name args outs params kids =>
  if !z1k (.mk kind op n name args outs params kids)then(false,set)
  else if kind==10 then
   if z08 f.types seen args [2]then
    match kids with
    |a::b::_ =>
     andT (ne a (r8go u f (deep+1) ⟨true,w.Loop,r8of f.types outs,w.Next,w.Left⟩ seen set a)) λs1 =>
     andT (ne b (r8go u f (deep+1) ⟨true,w.Loop,r8of f.types outs,w.Next,w.Left⟩ seen s1 b)) λs2 =>
     zg3 f (.mk kind op n name args outs params kids) s2
    |_=>(false,set)
   else(false,set)
  else if kind==11 then
   if z08 f.types seen args (r8of f.types params)then
    andT (z1u f.types set params (List.replicate params.length 0)) λs1 =>
    match kids with
    |a::_ =>
     andT (ne a (r8go u f (deep+1) ⟨false,true,[],r8of f.types params,r8of f.types outs⟩ (seen++params) s1 a)) λs2 =>
     zg3 f (.mk kind op n name args outs params kids) s2
    |_=>(false,s1)
   else(false,set)
  else z1i u f set (.mk kind op n name args outs params kids) seen w
def r8go(u:Un)(f:Fl)(deep:Int)(w:Wh)(all:List Int)(set:List Bool):List Nd->Bool×List Bool
 |[]=>(true,set)
 |x::r =>
  if deep > 100 then(false,set)
  else andT (z4z u f deep w all set x) λs1 =>
   if z05 x != r.isEmpty then(false,s1)
   else r8go u f deep w (all++x.outs) s1 r
end
def z2m(u:Un)(f:Fl)(deep:Int)(w:Wh)(all:List Int)(set:List Bool)(l:List Nd):Bool×List Bool:=ne l (r8go u f deep w all set l)
theorem zz8{b:Bool}{set:List Bool}{r:Bool×List Bool}{n:Nat}(h1:set.length=n)(h2:r.2.length=n):(andS b set r).2.length=n:=by unfold andS;split<;>assumption
theorem z7l{r:Bool×List Bool}{k:List Bool->Bool×List Bool}{n:Nat}(h1:r.2.length=n)(h2:∀s,s.length=n->(k s).2.length=n):(andT r k).2.length=n:=by
 unfold andT;split
 ·exact h2 _ h1
 ·exact h1
theorem zm1{l:List Nd}{r:Bool×List Bool}{n:Nat}(h:r.2.length=n):(ne l r).2.length=n:=by unfold ne;split<;>exact h
theorem ys2{p:Prop}[Decidable p]{a b:Bool×List Bool}{n:Nat}(h1:a.2.length=n)(h2:b.2.length=n):(if p then a else b).2.length=n:=by split<;>assumption
theorem y15(u:Un)(f:Fl)(set:List Bool)(x:Nd)(seen:List Int)(w:Wh):(z1i u f set x seen w).2.length=set.length:=by
 have hS:∀b l t,(andS b set (z1u f.types set l t)).2.length=set.length:=λb l t=>zz8 rfl (z7b ..);unfold z1i zd3
 repeat' (first|exact hS _ _ _|exact rfl|refine ys2 ?_ ?_|split)
theorem zv8{f:Fl}{x:Nd}{set:List Bool}{n:Nat}(h:set.length=n):(zg3 f x set).2.length=n:=zz8 h ((z7b ..).trans h)
mutual
theorem z9t(u:Un)(f:Fl):∀(x:Nd)(deep:Int)(w:Wh)(seen:List Int)(set:List Bool),(z4z u f deep w seen set x).2.length=set.length
 |.mk kind op n name args outs params kids,deep,w,seen,set=>by
  unfold z4z;split
  ·rfl
  split
  ·split
   ·match kids with
    |[]=>rfl
    |[_]=>rfl
    |a::b::_ =>
     refine z7l (zm1 (z7t u f a ..)) λs hs=>z7l (zm1 ((z7t u f b ..).trans hs)) λs hs=>zv8 hs
   ·rfl
  split
  ·split
   ·refine z7l (z7b ..) λs hs=>?_
    match kids with
    |[]=>exact hs
    |a::_=>exact z7l (zm1 ((z7t u f a ..).trans hs)) λs hs=>zv8 hs
   ·rfl
  ·exact y15 ..
theorem z7t(u:Un)(f:Fl):∀(l:List Nd)(deep:Int)(w:Wh)(all:List Int)(set:List Bool),(r8go u f deep w all set l).2.length=set.length
 |[],_,_,_,_=>by simp[r8go]
 |x::r,deep,w,all,set=>by
  unfold r8go;split
  ·rfl
  ·refine z7l (z9t u f x ..) λs hs=>?_;split
   ·exact hs
   ·exact(z7t u f r ..).trans hs
end
theorem z9s(u:Un)(f:Fl)(deep:Int)(w:Wh)(all:List Int)(set:List Bool)(l:List Nd):(z2m u f deep w all set l).2.length=set.length:=zm1 (z7t ..)
theorem ck_lend{u:Un}{f:Fl}{bt:TypeId}{set set':List Bool}(h:set'.length=set.length):∀k ob,look (up (ckHp u f bt set')) k=some ob->y3m ob=true∨(k=3/\look (up (ckHp u f bt set)) k=some ob):=by
 intro k ob hk;have hm:=z1m hk;simp only[ckHp,Am,C5,Gb,Dx]at hm;rcases hm with⟨rfl,rfl⟩|⟨rfl,rfl⟩
 ·exact .inr ⟨rfl,by simp[ckHp,up,look,h]⟩
 ·refine .inl ?_;simp[y3m,zf7,j1x]
theorem zi3{x:Nd}(h:z1k x=true):(x.kids.length:Int)=r8kn x:=by
 simp only[z1k,A0,Ak]at h;exact h.1.2
theorem z3f{x:Nd}(h:z1k x=true)(hk:x.kind=10):∃a b,x.kids=[a,b]:=by
 have:=zi3 h;simp[r8kn,hk]at this
 match hx:x.kids with
 |[]=>simp[hx]at this
 |[a]=>simp[hx]at this
 |[a,b]=>exact⟨a,b,rfl⟩
 |a::b::c::r=>simp[hx]at this;omega
theorem z25{x:Nd}(h:z1k x=true)(hk:x.kind=11):∃a,x.kids=[a]:=by
 have:=zi3 h;simp[r8kn,hk]at this
 match hx:x.kids with
 |[]=>simp[hx]at this
 |[a]=>exact⟨a,rfl⟩
 |a::b::r=>simp[hx]at this;omega
theorem zi4(u:Un)(f:Fl)(deep:Int)(w:Wh)(seen:List Int)(set:List Bool){x:Nd}(h:z1k x=false):z4z u f deep w seen set x=(false,set):=by
 cases x;unfold z4z;simp[h]
theorem y14(u:Un)(f:Fl)(deep:Int)(w:Wh)(seen:List Int)(set:List Bool){x:Nd}{a b:List Nd}(h:z1k x=true)(hk:x.kind=10)(hx:x.kids=[a,b]) :
 z4z u f deep w seen set x=if z08 f.types seen x.args [2]then
  andT (z2m u f (deep+1) ⟨true,w.Loop,r8of f.types x.outs,w.Next,w.Left⟩ seen set a) λs1 =>
  andT (z2m u f (deep+1) ⟨true,w.Loop,r8of f.types x.outs,w.Next,w.Left⟩ seen s1 b) λs2=>zg3 f x s2
  else(false,set):=by
 cases x;simp only[Nd.kind,Nd.kids,Nd.args,Nd.outs]at *;subst hk hx;unfold z4z;simp[h,z2m];rfl
theorem zi5(u:Un)(f:Fl)(deep:Int)(w:Wh)(seen:List Int)(set:List Bool){x:Nd}{a:List Nd}(h:z1k x=true)(hk:x.kind=11)(hx:x.kids=[a]) :
 z4z u f deep w seen set x=if z08 f.types seen x.args (r8of f.types x.params)then
  andT (z1u f.types set x.params (List.replicate x.params.length 0)) λs1 =>
  andT (z2m u f (deep+1) ⟨false,true,[],r8of f.types x.params,r8of f.types x.outs⟩ (seen++x.params) s1 a) λs2=>zg3 f x s2
  else(false,set):=by
 cases x;simp only[Nd.kind,Nd.kids,Nd.args,Nd.outs,Nd.params]at *;subst hk hx;unfold z4z;simp[h,z2m];rfl
theorem z9u(u:Un)(f:Fl)(deep:Int)(w:Wh)(seen:List Int)(set:List Bool){x:Nd}(h:z1k x=true)(h1:(x.kind==10)=false)(h2:(x.kind==11)=false) :
 z4z u f deep w seen set x=z1i u f set x seen w:=by
 cases x;simp only[Nd.kind]at *;unfold z4z;simp[h,h1,h2]
theorem z87(x:Nd):ndW x=1+x.args.length+x.outs.length+x.params.length+kdW x.kids:=by cases x;simp[ndW,Nd.args,Nd.outs,Nd.params,Nd.kids]
section
def z5x(s:Rs):Rs:={ s with cost:=w64 (s.cost+1) }
theorem zz3{v v':List Int}{x y:Int}(h:setV v x y=some v'):v'.length=v.length:=by
 rw[(j42 h).2.2,E3]
theorem z3p:∀{l n v v':List Int},mSet v l n=some v'->v'.length=v.length
 |[],_,_,_,h=>by cases h;rfl
 |_::_,_,_,_,h=>by
  obtain⟨y,n',v1,rfl,h1,h2⟩:=zc7 h;rw[z3p h2,zz3 h1]
theorem y7o{rec:List Nd->List Int->Rs->Option Rres}{recLoop:Nd->List Int->List Int->Rs->Option Rres}{recSum:Nd->List Int->Rs->Option (Int×Rs)}{x:Nd}{a v:List Int}{s:Rs}{r:Rres}
 (hr:∀q v s r,rec q v s=some r->r.2.1.length=v.length) (hl:∀x v a s r,recLoop x v a s=some r->r.2.1.length=v.length) (h:z5m rec recLoop recSum x a v s=some r):r.2.1.length=v.length:=by
 unfold z5m at h;split at h
 ·simp only[Ah,A1]at h;obtain⟨o,_,v',h1,rfl⟩:=h;exact zz3 h1
 split at h
 ·cases h;rfl
 split at h
 ·simp only[Ah]at h;obtain⟨a0,_,q,_,r1,h1,h2⟩:=h;have h3:=hr _ _ _ _ h1;split at h2
  ·simp only[A1]at h2;obtain⟨v',h4,rfl⟩:=h2;exact(z3p h4).trans h3
  ·cases h2;exact h3
 split at h
 ·exact hl _ _ _ _ _ h
 ·simp only[Ah]at h;obtain⟨r1,h1,h2⟩:=h;split at h2
  ·simp only[Ah,A1]at h2;obtain⟨o,_,v',h4,rfl⟩:=h2;exact zz3 h4
  ·cases h2;rfl
theorem zi1(u:Un):∀d,(∀l v s r,z1v u d l v s=some r->r.2.1.length=v.length)/\∀x v a s r,z3h u d x v a s=some r->r.2.1.length=v.length
 |0=>⟨λ_ _ _ _ h=>by simp[z1v]at h,λ_ _ _ _ _ h=>by simp[z3h]at h⟩
 |d+1=>by
  obtain⟨i1,i2⟩:=zi1 u d;refine⟨λl v s r h=>?_,λx v a s r h=>?_⟩
  ·cases l with
   |nil=>simp only[z1v]at h;cases h;rfl
   |cons x l =>
    rw[z1v]at h;split at h
    ·cases h;rfl
    ·simp only[Ah]at h;obtain⟨a,_,r1,h1,h2⟩:=h;have h3:=y7o i1 i2 h1;split at h2
     ·cases h2;exact h3
     ·exact(i1 _ _ _ _ h2).trans h3
  ·rw[z3h]at h;simp only[Ah]at h;obtain⟨v1,hv1,q,_,r1,h1,h2⟩:=h;have h3:=(i1 _ _ _ _ h1).trans (z3p hv1);split at h2
   ·cases h2;exact h3
   split at h2
   ·simp only[A1]at h2;obtain⟨v',h4,rfl⟩:=h2;exact(z3p h4).trans h3
   ·exact(i2 _ _ _ _ _ h2).trans h3
theorem z6p{u:Un}{d:Nat}{l:List Nd}{v:List Int}{s:Rs}{r:Rres}(h:z1v u d l v s=some r):r.2.1.length=v.length:=(zi1 u d).1 _ _ _ _ h
theorem z4m{u:Un}{d:Nat}{x:Nd}{v a:List Int}{s:Rs}{r:Rres}(h:z3h u d x v a s=some r):∃d1 v2 q r1,d=d1+1/\mSet v x.params a=some v2/\x.kids[0]?=some q/\z1v u d1 q v2 s=some r1 /\
 (if z0z r1.2.2||r1.1.1==15 then some r1 else if r1.1.1==14 then(mSet r1.2.1 x.outs r1.1.2).map λv=>((0,[]),v,r1.2.2)else z3h u d1 x r1.2.1 r1.1.2 r1.2.2)=some r:=by
 cases d with
 |zero=>simp[z3h]at h
 |succ d =>
  rw[z3h]at h;simp only[Ah]at h;obtain⟨v2,h1,q,h2,r1,h3,h4⟩:=h;exact⟨d,v2,q,r1,rfl,h1,h2,h3,h4⟩
theorem z7g{u:Un}{d:Nat}{x:Nd}{l:List Nd}{v:List Int}{s s2:Rs}{r:Rres}(hs2:(z9o s).2=s2)(h:z1v u d (x::l) v s=some r):∃d1,d=d1+1/\(((z9o s).1=false/\r=((0,[]),v,s2)) ∨
 ((z9o s).1=true/\∃a r1,mOf v x.args=some a/\z5m (z1v u d1) (z3h u d1) (mSum u d1) x a v s2=some r1/\(if z0z r1.2.2||r1.1.1 != 0 then some r1 else z1v u d1 l r1.2.1 r1.2.2)=some r)):=by
 cases d with
 |zero=>simp[z1v]at h
 |succ d =>
  refine⟨d,rfl,?_⟩;subst hs2;rw[z1v]at h;split at h
  ·rename_i s' e;cases h;exact .inl ⟨by rw[e],by rw[e]⟩
  ·rename_i s' e;simp only[Ah]at h;obtain⟨a,h1,r1,h2,h3⟩:=h;exact .inr ⟨by rw[e],a,r1,h1,by rw[e];exact h2,h3⟩
section
variable {rec:List Nd->List Int->Rs->Option Rres} {recLoop:Nd->List Int->List Int->Rs->Option Rres} {recSum:Nd->List Int->Rs->Option (Int×Rs)} {x:Nd} {a v:List Int} {s:Rs} {r:Rres}
theorem z6q(h:z5m rec recLoop recSum x a v s=some r)(hk:(x.kind==1||x.kind==2)=true):∃o v2,x.outs[0]?=some o/\setV v o x.n=some v2/\r=((0,[]),v2,s):=by
 unfold z5m at h;rw[if_pos hk]at h;simp only[Ah,A1]at h;obtain⟨o,h1,v2,h2,rfl⟩:=h;exact⟨o,v2,h1,h2,rfl⟩
theorem z3d(h:z5m rec recLoop recSum x a v s=some r)(hk:(x.kind==12||x.kind==13||x.kind==14||x.kind==15)=true):r=((x.kind,a),v,s):=by
 unfold z5m at h;rw[if_neg (by simp only[B7,Ak]at hk⊢;omega),if_pos hk]at h
 cases h;rfl
theorem ze3(h:z5m rec recLoop recSum x a v s=some r)(hk:(x.kind==10)=true):∃a0 q r1,a[0]?=some a0/\x.kids[if a0 != 0 then 0 else 1]?=some q/\rec q v s=some r1 /\
 (if !z0z r1.2.2&&r1.1.1==12 then(mSet r1.2.1 x.outs r1.1.2).map λv'=>((0,[]),v',r1.2.2)else some r1)=some r:=by
 unfold z5m at h;rw[if_neg (by simp only[B7,Ak]at hk⊢;omega),if_neg (by simp only[B7,Ak]at hk⊢;omega),if_pos hk]at h;simp only[Ah]at h;obtain⟨a0,h1,q,h2,r1,h3,h4⟩:=h;exact⟨a0,q,r1,h1,h2,h3,h4⟩
theorem z66(h:z5m rec recLoop recSum x a v s=some r)(hk:(x.kind==11)=true):recLoop x v a s=some r:=by
 unfold z5m at h;rw[if_neg (by simp only[B7,Ak]at hk⊢;omega),if_neg (by simp only[B7,Ak]at hk⊢;omega),if_neg (by simp only[Ak]at hk⊢;omega),if_pos hk]at h;exact h
theorem z6r(h:z5m rec recLoop recSum x a v s=some r)(h1:(x.kind==1||x.kind==2)=false)(h2:(x.kind==12||x.kind==13||x.kind==14||x.kind==15)=false)(h3:(x.kind==10)=false)(h4:(x.kind==11)=false):∃r1,recSum x a s=some r1 /\
 (if !z0z r1.2&&decide (0<x.outs.length)then(x.outs[0]?).bind λo=>(setV v o r1.1).map λv'=>((0,[]),v',r1.2)else some ((0,[]),v,r1.2))=some r:=by
 unfold z5m at h;rw[h1,h2,h3,h4]at h;simp only[Aj,Br,Ah]at h;exact h
end
theorem z65{u:Un}{d:Nat}{k:Int}{a:List Int}{s:Rs}{r:Int×Rs}(h:z40 u d k a s=some r):∃d1 f r1,d=d1+1/\0<=k/\u.flows[k.toNat]?=some f/\a.length<=f.types.length/\f.types.length<=1073741824 /\
 z1v u d1 f.body (a++List.replicate (f.types.length-a.length) 0) s=some r1/\r=(if z0z r1.2.2 then 0 else r1.1.2.headD 0,r1.2.2):=by
 cases d with
 |zero=>simp[z40]at h
 |succ d =>
  rw[z40]at h;split at h
  ·rename_i hk;simp only[Ah]at h;obtain⟨f,hf,h⟩:=h;split at h
   ·rename_i hl;simp only[Ah]at h;obtain⟨r1,h1,h2⟩:=h;refine⟨d,f,r1,rfl,hk,hf,hl.1,hl.2,h1,?_⟩;split at h2<;>cases h2<;>simp_all
   ·cases h
  ·cases h
variable {u:Un} {d:Nat} {x:Nd} {a:List Int} {s:Rs} {r:Int×Rs}
theorem z6g(h:mSum u d x a s=some r):∃d',d=d'+1:=by
 cases d with
 |zero=>simp[mSum]at h
 |succ d=>exact⟨d,rfl⟩
theorem z9p(h:mSum u (d+1) x a s=some r)(hk:(x.kind==3)=true):∃a0,a[0]?=some a0/\r=(mOne x.op a0,z5x s):=by
 simp only[mSum,hk,C2,A1]at h;obtain⟨a0,h1,rfl⟩:=h;exact⟨a0,h1,rfl⟩
theorem z86(h:mSum u (d+1) x a s=some r)(hk:(x.kind==4)=true):∃a0 a1,a[0]?=some a0/\a[1]?=some a1/\r=((mTwo x.op a0 a1).1,if (mTwo x.op a0 a1).2 then z5x s else { z5x s with st:=2 }):=by
 have h3:(x.kind==3)=false:=by have:=eq_of_beq hk;rw[this];rfl
 simp only[mSum,h3,hk,C2,Aj,Br,A1,Ah]at h;obtain⟨a0,h1,a1,h2,rfl⟩:=h;exact⟨a0,a1,h1,h2,rfl⟩
theorem zc8(h:mSum u (d+1) x a s=some r)(hk:(x.kind==7)=true):z40 u d (z06 x.name u.flows 0) a (z5x s)=some r:=by
 have e:=eq_of_beq hk;simp only[mSum,e]at h;exact h
theorem z7i(h:mSum u (d+1) x a s=some r)(hk:(x.kind==9)=true):∃a0,a[0]?=some a0/\s.out.length<1073741824/\r=(0,{ z5x s with out:=s.out++[a0] }):=by
 have e:=eq_of_beq hk;simp only[mSum,e]at h;simp only[show((9:Int)==3)=false from rfl,show((9:Int)==4)=false from rfl,show((9:Int)==5)=false from rfl,show((9:Int)==6)=false from rfl,show((9:Int)==7)=false from rfl,show((9:Int)==9)=true from rfl,C2,Aj,Br,Ah]at h;obtain⟨a0,h1,h2⟩:=h;split at h2
 ·rename_i h3;cases h2;exact⟨a0,h1,h3,rfl⟩
 ·cases h2
theorem z8w(h:mSum u (d+1) x a s=some r)(hk:(x.kind==8)=true):(s.ins=[]/\r=(0,{ z5x s with st:=4 }))∨∃y q,s.ins=y::q/\r=(y,{ z5x s with ins:=q }):=by
 have e:=eq_of_beq hk;simp only[mSum,e]at h;simp only[show((8:Int)==3)=false from rfl,show((8:Int)==4)=false from rfl,show((8:Int)==5)=false from rfl,show((8:Int)==6)=false from rfl,show((8:Int)==7)=false from rfl,show((8:Int)==9)=false from rfl,show((8:Int)==8)=true from rfl,C2,Aj,Br]at h;split at h
 ·rename_i h1;cases h;exact .inl ⟨h1,rfl⟩
 ·rename_i y q h1;cases h;exact .inr ⟨y,q,h1,rfl⟩
theorem z8v(h:mSum u (d+1) x a s=some r)(h3:(x.kind==3)=false)(h4:(x.kind==4)=false)(h5:(x.kind==5)=false)(h6:(x.kind==6)=false)(h7:(x.kind==7)=false)(h9:(x.kind==9)=false)(h8:(x.kind==8)=false):r=(0,z5x s):=by
 simp only[mSum,h3,h4,h5,h6,h7,h8,h9,Aj,Br]at h
 cases h;rfl
end
def arI:List (List Int)->IV
 |[]=>.pv (.val (.slice none 0 0))
 |[_]=>.bs 1003 1
 |_::_::_=>.bs 1013 2
def arH:List (List Int)->List (Nat×HO)
 |[]=>[]
 |[r]=>[(1003,.box [.sl 1004 (r.map eInt).length]),(1004,rowI r)]
 |r::r2::_=>[(1013,.box [.sl 1004 (r.map eInt).length,.sl 1014 (r2.map eInt).length]),(1004,rowI r),(1014,rowI r2)]
def rBox(u:Un)(s:Rs):HO:=.box [.pv (arrs u.arrays),.pv (flws u.flows),.pv (ints s.ins),arI s.ar,iInt s.st,iInt s.code,.sl 1002 (s.out.map eInt).length,iInt s.cost,iInt s.fuel,iBool s.spent]
def rH(u:Un)(s:Rs):List (Nat×HO):=(1001,rBox u s)::(1002,rowI s.out)::arH s.ar
def rHV(u:Un)(s:Rs)(v:List Int):List (Nat×HO):=(1001,rBox u s)::(1002,rowI s.out)::(510,rowI v)::arH s.ar
theorem z3x:PSub (.agg [vInt 0,.val (.slice none 0 0)]) (endv (0,[])):=PSub.agg (ps:=[vInt 0,.val (.slice none 0 0)]) (qs:=[vInt 0,.seq []]) (And.intro (PSub.refl _) (And.intro PSub.nil trivial))
theorem z8s{v v':List Int}{o x:Int}(h:setV v o x=some v'):0<=o/\o.toNat<v.length/\v'=v.set o.toNat x:=by
 unfold setV at h;split at h
 ·rename_i h1;cases h;exact⟨h1.1,h1.2,rfl⟩
 ·cases h
theorem y3e{u:Un}{d:Nat}{v:List Int}{s:Rs}{r:Rres}(h:z1v u d [] v s=some r):r=((0,[]),v,s):=by
 cases d with
 |zero=>simp[z1v]at h
 |succ d=>simp only[z1v]at h;cases h;rfl
theorem y3d{s s':Rs}{k n:Int}(h:zc6 s k n=some (true,s')):s'=s/\0<=n/\0<=k/\∃row,s.ar[k.toNat]?=some row/\n<row.length:=by
 unfold zc6 at h;split at h
 ·cases h
 ·split at h
  ·obtain⟨row,h1,h2⟩:=Ah.1 h;split at h2
   ·cases h2
   ·cases h2
    exact⟨rfl,by omega,by omega,row,h1,by omega⟩
  ·cases h
theorem zl8{s:Rs}{k n:Int}{q:Bool×Rs}(h:zc6 s k n=some q):q.2.ar.length=s.ar.length:=by
 unfold zc6 at h;split at h
 ·cases h;rfl
 ·split at h
  ·obtain⟨row,h1,h2⟩:=Ah.1 h;split at h2<;>cases h2<;>rfl
  ·cases h
theorem two_ar{s:Rs}{k:Int}{row:List Int}(h1:s.ar.length<=2)(hk:0<=k)(h:s.ar[k.toNat]?=some row):(k=((0:Nat):Int)/\s.ar=[row])∨(k=((0:Nat):Int)/\∃r2,s.ar=[row,r2])∨(k=((1:Nat):Int)/\∃r1,s.ar=[r1,row]):=by
 have h2:=(A4.1 h).1
 match hs:s.ar,h,h1,h2 with
 |[],h,_,_=>cases h
 |[r],h,_,h2 =>
  have h3:k.toNat=0:=by simp at h2;omega
  rw[h3]at h;cases h
  exact .inl ⟨by omega,rfl⟩
 |[r,r2],h,_,h2 =>
  simp at h2;rcases(show k.toNat=0∨k.toNat=1 by omega)with h3|h3
  ·rw[h3]at h;cases h
   exact .inr (.inl ⟨by omega,r2,rfl⟩)
  ·rw[h3]at h;cases h
   exact .inr (.inr ⟨by omega,r,rfl⟩)
 |_::_::_::_,_,h1,_=>simp at h1
theorem z7h{u:Un}{d:Nat}{x:Nd}{a:List Int}{s:Rs}{r:Int×Rs}(h:mSum u (d+1) x a s=some r)(hk:x.kind=5):∃a0 b s',a[0]?=some a0/\zc6 (z5x s) (z0i x.name u.arrays 0) a0=some (b,s') /\
 ((b=false/\r=(0,s'))∨(b=true/\∃row y,(z5x s).ar[(z0i x.name u.arrays 0).toNat]?=some row/\row[a0.toNat]?=some y/\r=(y,z5x s))):=by
 simp only[mSum,hk,show((5:Int)==3)=false from rfl,show((5:Int)==4)=false from rfl,show((5:Int)==5)=true from rfl,C2,Aj,Br,Ah]at h;obtain⟨a0,h1,⟨b,s'⟩,h2,h5⟩:=h;refine⟨a0,b,s',h1,h2,?_⟩
 cases b with
 |false=>exact .inl ⟨rfl,by simpa using h5.symm⟩
 |true =>
  simp only[C2,Ah,A1]at h5;obtain⟨row,h6,y,h7,h8⟩:=h5;exact .inr ⟨rfl,row,y,h6,h7,h8.symm⟩
theorem z67{u:Un}{d:Nat}{x:Nd}{a:List Int}{s:Rs}{r:Int×Rs}(h:mSum u (d+1) x a s=some r)(hk:x.kind=6):∃a0 b s',a[0]?=some a0/\zc6 (z5x s) (z0i x.name u.arrays 0) a0=some (b,s') /\
 ((b=false/\r=(0,s'))∨(b=true/\∃row y,(z5x s).ar[(z0i x.name u.arrays 0).toNat]?=some row/\a[1]?=some y/\r=(0,{ z5x s with ar:=(z5x s).ar.set (z0i x.name u.arrays 0).toNat (row.set a0.toNat y) }))):=by
 simp only[mSum,hk,show((6:Int)==3)=false from rfl,show((6:Int)==4)=false from rfl,show((6:Int)==5)=false from rfl,show((6:Int)==6)=true from rfl,C2,Aj,Br,Ah]at h;obtain⟨a0,h1,⟨b,s'⟩,h2,h5⟩:=h;refine⟨a0,b,s',h1,h2,?_⟩
 cases b with
 |false=>exact .inl ⟨rfl,by simpa using h5.symm⟩
 |true =>
  simp only[C2,Ah,A1]at h5;obtain⟨y,h6,row,h7,h8⟩:=h5;exact .inr ⟨rfl,row,y,h7,h6,h8.symm⟩
theorem ba_sz(s:ByteArray):s.data.toList.length=s.size:=rfl
theorem j00(s:ByteArray):∀(n i:Nat)(acc:List UInt8),s.size-i=n->ByteArray.toList.loop s i acc=acc.reverse++s.data.toList.drop i
 |0,i,acc,h=>by
  rw[ByteArray.toList.loop];have:¬i<s.size:=by omega
  rw[if_neg this,A8 (by rw[ba_sz];omega)]
  simp
 |n+1,i,acc,h=>by
  rw[ByteArray.toList.loop];have hi:i<s.size:=by omega
  rw[if_pos hi,j00 s n (i+1) _ oM0];have hi2:i<s.data.toList.length:=by rw[ba_sz];exact hi
  rw[D4 hi2];have hget:s.get! i=s.data.toList[i]:=by
   show s.data[i]! = _;rw[getElem!_pos s.data i hi];rfl
  simp[hget]
theorem z2d(s:ByteArray):s.toList=s.data.toList:=by
 rw[ByteArray.toList,j00 s _ 0 [] rfl];simp
theorem y02(s:ByteArray):s.toList.length=s.size:=by rw[z2d];rfl
theorem y2t{s:ByteArray}{i:Nat}(h:i<s.toList.length):s[i]?=some (s.toList[i]):=by
 have h2:i<s.size:=by rwa [y02]at h
 rw[getElem?_pos s i h2]
 congr 1
 simp only[z2d];rfl
def z4l(n:Int):Bool:=(decide (n≥97)&&decide (n<=122))||(decide (n≥65)&&decide (n<=90))||n==95
def z3z(n:Int):Bool:=decide (n≥48)&&decide (n<=57)
def isLD(b:UInt8):Bool:=z4l b.toNat||z3z b.toNat
def z1j(s:ByteArray):Bool:=s.toList==ByteArray.toList ⟨#[105,110,116]⟩||s.toList==ByteArray.toList ⟨#[98,111,111,108]⟩||s.toList==ByteArray.toList ⟨#[105,102]⟩||s.toList==ByteArray.toList ⟨#[101,108,115,101]⟩||s.toList==ByteArray.toList ⟨#[119,104,105,108,101]⟩||s.toList==ByteArray.toList ⟨#[98,114,101,97,107]⟩||s.toList==ByteArray.toList ⟨#[99,111,110,116,105,110,117,101]⟩||s.toList==ByteArray.toList ⟨#[114,101,116,117,114,110]⟩||s.toList==ByteArray.toList ⟨#[112,114,105,110,116]⟩||s.toList==ByteArray.toList ⟨#[114,101,97,100]⟩||s.toList==ByteArray.toList ⟨#[116,114,117,101]⟩||s.toList==ByteArray.toList ⟨#[102,97,108,115,101]⟩||s.toList==ByteArray.toList ⟨#[105,56]⟩||s.toList==ByteArray.toList ⟨#[105,49,54]⟩||s.toList==ByteArray.toList ⟨#[105,51,50]⟩||s.toList==ByteArray.toList ⟨#[117,56]⟩||s.toList==ByteArray.toList ⟨#[117,49,54]⟩||s.toList==ByteArray.toList ⟨#[117,51,50]⟩
def z0m(s:ByteArray):Bool:=!(s.toList==[])&&decide ((s.size:Int)<=20)&&z4l (s.toList.headD 0).toNat && !z1j s&&s.toList.all isLD
mutual
def wtN:Nd->Nat
 |.mk _ _ _ name args outs params kids=>args.length+outs.length+params.length+name.size+wtK kids
def wtL:List Nd->Nat
 |[]=>0
 |x::r=>wtN x+wtL r
def wtK:List (List Nd)->Nat
 |[]=>0
 |l::r=>1+(l.length+wtL l)+wtK r
end
def z0y(l:List Nd):Nat:=l.length+wtL l
def wtA:List Ar->Nat
 |[]=>0
 |a::r=>a.name.size+wtA r
def wtF:List Fl->Nat
 |[]=>0
 |f::r=>f.name.size+f.types.length+z0y f.body+wtF r
def z0h(u:Un):Nat:=u.arrays.length+u.flows.length+wtA u.arrays+wtF u.flows
def z0u:ByteArray:=⟨#[109,97,105,110]⟩
def gArr(u:Un)(a:Ar)(i:Int):Bool:=z0m a.name && !decide (a.size<1) && !decide (a.size > 1000)&&(z0i a.name u.arrays 0==i) && !decide (z06 a.name u.flows 0≥0)
def r8gA(u:Un):List Ar->Int->Bool
 |[],_=>true
 |a::r,i=>gArr u a i&&r8gA u r (i+1)
def gFlw(u:Un)(f:Fl)(i:Int):Bool:=z0m f.name&&(z06 f.name u.flows 0==i)&&(f.ty==1||f.ty==2) && !decide (f.params<0) && !decide (f.params > f.types.length)
def r8gF(u:Un):List Fl->Int->Bool
 |[],_=>true
 |f::r,i=>gFlw u f i&&r8gF u r (i+1)
def y78:Fl:=⟨⟨#[]⟩,0,0,[],[]⟩
def zb3(u:Un):Bool:=decide (z06 z0u u.flows 0≥0)&&(u.flows.getD (z06 z0u u.flows 0).toNat y78).ty==1&&(u.flows.getD (z06 z0u u.flows 0).toNat y78).params==0
def z1g(u:Un):Bool:=r8gA u u.arrays 0&&r8gF u u.flows 0&&zb3 u
theorem zr3(name:ByteArray):∀(l:List Fl)(i:Int),0<=i->z06 name l i≥0->∃k:Nat,z06 name l i=i+k/\k<l.length
 |[],i,_,h=>by simp[z06]at h
 |f::r,i,hi,h=>by
  unfold z06 at h⊢;split
  ·exact⟨0,by simp,by simp⟩
  ·rename_i hne;rw[if_neg hne]at h;obtain⟨k,h1,h2⟩:=zr3 name r (i+1) oM0 h;exact⟨k+1,by omega,by simpa using h2⟩
theorem ym4{u:Un}:∀{l:List Fl}{i:Int},r8gF u l i=true->∀g∈l,0<=g.params/\g.params<=g.types.length
 |[],_,_,g,hg=>by simp at hg
 |f::r,i,h,g,hg=>by
  simp only[r8gF,A0]at h;rcases Am.1 hg with rfl|hg
  ·have:=h.1;simp only[gFlw,A0,Bf,Cc]at this;omega
  ·exact ym4 h.2 g hg
theorem z6x{u:Un}(h:z1g u=true):∀g∈u.flows,0<=g.params/\g.params<=g.types.length:=by
 simp only[z1g,A0]at h;exact ym4 h.1.2
def z43:Wh:=⟨false,false,[],[],[]⟩
def iota(n:Nat):List Int:=(List.range n).map λ(i:Nat)=>(i:Int)
def z5e(k n:Nat):List Bool:=List.replicate k true++List.replicate (n-k) false
def z5g(u:Un)(f:Fl):Bool:=!decide (f.params<0) && !decide (f.params > 8) && !decide (f.params > f.types.length) && !decide ((f.types.length:Int) > 20000)&&f.types.all (λt=>t==1||t==2) &&
 (z2m u f 1 z43 (iota f.params.toNat) (z5e f.params.toNat f.types.length) f.body).1
theorem j0x(n:Nat):iota n++[(n:Int)]=iota (n+1):=by simp[iota,List.range_succ]
theorem y0l(n:Nat):(iota n).length=n:=by simp[iota]
theorem z4k{k n:Nat}(h:k<=n):(z5e k n).length=n:=by simp[z5e];omega
theorem yr8{k n:Nat}(h:k<n):(z5e k n).set k true=z5e (k+1) n:=by
 unfold z5e;rw[De _ _ sI0,Ec,Nat.sub_self];have:n-k=(n-(k+1))+1:=by omega
 rw[this,Fc,Fi,List.replicate_succ',Ce];rfl
def z5p(u:Un):List Fl->Int->Int×Int
 |[],_=>(0,0)
 |f::r,i=>if z5g u f then z5p u r (i+1)else(80,i)
def z18(u:Un):Int×Int:=if z1g u then z5p u u.flows 0 else(1,0)
mutual
theorem ndW_le:∀x:Nd,ndW x<=1+wtN x
 |.mk k o n s a t p ks=>by
  have:=kdW_le ks;simp only[ndW,wtN];omega
theorem y7n:∀l:List Nd,lsW l<=l.length+wtL l
 |[]=>by simp[lsW]
 |x::r=>by
  have h1:=ndW_le x;have h2:=y7n r;simp only[lsW,wtL,Al];omega
theorem kdW_le:∀l:List (List Nd),kdW l<=wtK l
 |[]=>by simp[kdW]
 |x::r=>by
  have h1:=y7n x;have h2:=kdW_le r;simp only[kdW,wtK];omega
end
theorem yh9:∀{l:List Fl}{f:Fl},f∈l->z0y f.body<=wtF l
 |g::r,f,h=>by
  rcases Am.1 h with rfl|h
  ·simp only[wtF];omega
  ·have:=yh9 h;simp only[wtF];omega
def idxP{α:Type}(p:α -> Bool):List α -> Int->Int
 |[],_=>-1
 |x::r,i=>if p x then i else idxP p r (i+1)
theorem z6f{α:Type}(p:α -> Bool):∀(l:List α)(i:Int),0<=i->decide (idxP p l i≥0)=l.any p
 |[],_,_=>rfl
 |x::r,i,hi=>by
  unfold idxP
  cases hx:p x with
  |true=>simp[hx,hi]
  |false=>simp[hx,z6f p r (i+1) oM0]
def eqGo{S:Type}(p:S->Int->Int->Bool×S):S->List Int->List Int->Bool×S
 |s,x::a,y::b=>if (p s x y).1 then eqGo p (p s x y).2 a b else(false,(p s x y).2)
 |s,_,_=>(true,s)
def eqf{S:Type}(p:S->Int->Int->Bool×S)(s:S)(a b:List Int):Bool×S:=if (a.length:Int)=b.length then eqGo p s a b else(false,s)
theorem zv6:∀l:List Nd,z0k l=l.any z2l
 |[]=>rfl
 |x::r=>by simp[z0k,zv6 r]
theorem zm6:∀l:List (List Nd),z38 l=l.any z0k
 |[]=>rfl
 |x::r=>by simp[z38,zm6 r]
def z8d(l:List Nd):Bool:=match l.getLast? with
 |some x=>x.kind==12
 |none=>false
theorem y21(l:List Nd):(z2v l != 12) = !z8d l:=by
 unfold z2v z8d
 cases l.getLast? with
 |none=>rfl
 |some x =>
  simp only[z0x]
  by_cases h:x.kind=12
  ·simp[h]
  ·have hb:(x.kind==12)=false:=by simpa using h
   by_cases h2:(decide (x.kind≥12)&&decide (x.kind<=15))=true
   ·simp only[h2,C2,bne,hb]
   ·simp[h2,h]
theorem y37(name:ByteArray):∀(l:List Fl)(i:Int),idxP (λf:Fl=>f.name.toList==name.toList) l i=z06 name l i
 |[],_=>rfl
 |f::r,i=>by
  unfold idxP z06 eqS;rw[y37 name r]
theorem y13(name:ByteArray):∀(l:List Ar)(i:Int),0<=i->decide (z0i name l i≥0)=l.any (λa:Ar=>a.name.toList==name.toList)
 |[],_,_=>rfl
 |f::r,i,hi=>by
  have ih:=y13 name r (i+1) oM0;rw[Ga,<- ih];rw[show z0i name (f::r) i=if (f.name.toList==name.toList)=true then i else z0i name r (i+1)from rfl]
  by_cases h:(f.name.toList==name.toList)=true
  ·rw[if_pos h,h];simp[hi]
  ·rw[if_neg h,(by simpa using h:(f.name.toList==name.toList)=false)];simp
def isTy(t:Int):Bool:=t==1||t==2
def z39(op:Int):Int×Int :=
 if op==22 then(2,2)else if op==16||op==17 then(0,2)else if decide (op≥12)&&decide (op<=15)then(1,2)else(1,1)
def wSigns:List ByteArray:=[⟨#[]⟩,⟨#[43]⟩,⟨#[45]⟩,⟨#[42]⟩,⟨#[47]⟩,⟨#[37]⟩,⟨#[38]⟩,⟨#[124]⟩,⟨#[94]⟩,⟨#[60,60]⟩,⟨#[62,62]⟩,⟨#[62,62,62]⟩,⟨#[60]⟩,⟨#[60,61]⟩,⟨#[62]⟩,⟨#[62,61]⟩,⟨#[61,61]⟩,⟨#[33,61]⟩,⟨#[38,38]⟩,⟨#[124,124]⟩,⟨#[45]⟩,⟨#[126]⟩,⟨#[33]⟩,⟨#[105,56]⟩,⟨#[105,49,54]⟩,⟨#[105,51,50]⟩,⟨#[117,56]⟩,⟨#[117,49,54]⟩,⟨#[117,51,50]⟩]
def zp2(op:Int):ByteArray:=if op<0||op≥29 then⟨#[]⟩else wSigns.getD op.toNat ⟨#[]⟩
def levelTab:List Int:=[0,9,9,10,10,10,5,3,4,8,8,8,7,7,7,7,6,6,2,1,0,0,0,0,0,0,0,0,0]
def z4j(op:Int):Int:=if op<0||op≥29 then 0 else levelTab.getD op.toNat 0
theorem j02{op:Int}(h0:0<=op)(h1:op<29):op=0∨op=1∨op=2∨op=3∨op=4∨op=5∨op=6∨op=7∨op=8∨op=9∨op=10∨op=11∨op=12∨op=13∨op=14∨op=15∨op=16∨op=17∨op=18∨op=19∨op=20∨op=21∨op=22∨op=23∨op=24∨op=25∨op=26∨op=27∨op=28:=by omega
def ckS(u:Un)(f:Fl)(it:TypeId)(st:List Int):List (Nat×HO):=[(3,.box (y4t u f (st.map eInt).length)),(4,.row ⟨it,1⟩ (st.map eInt))]
def z9b(tys:List Int)(v t:Int):Bool:=decide (0<=v)&&decide (v<tys.length)&&(t==0||tys.getD v.toNat 0==t)
def zs8(tys:List Int)(st:List Int)(v t:Int):Bool×List Int:=(z9b tys v t&&st.getD v.toNat 0==1,st)
def z5w(tys:List Int)(st:List Int)(v t:Int):Bool×List Int:=if z9b tys v t&&st.getD v.toNat 0==0 then(true,st.set v.toNat 1)else(false,st)
def z0w(tys st l want:List Int):Bool:=(eqf (zs8 tys) st l want).1
def z1q(tys st l want:List Int):Bool×List Int:=eqf (z5w tys) st l want
def z3k(st l:List Int):List Int:=l.foldl (λs v=>s.set v.toNat 2) st
theorem za3(tys st:List Int)(v t:Int):(z5w tys st v t).2.length=st.length:=by
 unfold z5w;split<;>simp
theorem zh1(tys:List Int):∀(a b st:List Int),(eqGo (z5w tys) st a b).2.length=st.length
 |[],_,st=>by simp[eqGo]
 |_::_,[],st=>by simp[eqGo]
 |x::a,y::b,st=>by
  simp only[eqGo];split
  ·rw[zh1 tys a b,za3]
  ·exact za3 ..
theorem z2b(tys st a b:List Int):(z1q tys st a b).2.length=st.length:=by
 unfold z1q eqf;split
 ·exact zh1 ..
 ·rfl
theorem z4q:∀(l st:List Int),(z3k st l).length=st.length
 |[],st=>rfl
 |v::r,st=>by
  have:=z4q r (st.set v.toNat 2);simpa[z3k]using this
theorem y4g(tys:List Int):∀(a b st:List Int),a.length=b.length->(eqGo (z5w tys) st a b).1=true->∀v∈a,0<=v/\v<tys.length
 |[],_,st,_,_,v,hv=>by simp at hv
 |_::_,[],_,hl,_,_,_=>by simp at hl
 |x::a,y::b,st,hl,h,v,hv=>by
  simp only[eqGo]at h;split at h
  ·rename_i h1;rcases Am.1 hv with rfl|hv
   ·unfold z5w at h1;split at h1
    ·rename_i h2;simp only[z9b,A0,B6]at h2;exact⟨h2.1.1.1,h2.1.1.2⟩
    ·cases h1
   ·exact y4g tys a b _ (by simpa using hl) h v hv
  ·cases h
theorem y1y{tys st a b:List Int}(h:(z1q tys st a b).1=true):∀v∈a,0<=v/\v<tys.length:=by
 unfold z1q eqf at h;split at h
 ·exact y4g tys a b st oM0 h
 ·cases h
def ckSp(u:Un)(f:Fl)(it:TypeId)(q:Nat)(st:List Int):List (Nat×HO):=(q,.box [.ptr 3 0])::ckS u f it st
def andP{S:Type}(b:Bool)(s:S)(r:Bool×S):Bool×S:=if b then r else(false,s)
def andQ{S:Type}(r:Bool×S)(k:S->Bool×S):Bool×S:=if r.1 then k r.2 else(false,r.2)
theorem yx7{tys st a b:List Int}(h:z0w tys st a b=true):a.length=b.length:=by
 unfold z0w eqf at h;split at h
 ·omega
 ·cases h
theorem yx8{tys st l:List Int}{t:Int}(h:z0w tys st l [t,t]=true):∃a b,l=[a,b]/\a=(a.toNat:Int)/\a.toNat<tys.length/\b=(b.toNat:Int)/\b.toNat<tys.length:=by
 have hl:=yx7 h
 match l,hl with
 |[a,b],_ =>
  unfold z0w eqf at h;simp only[Al,Az,C2,eqGo]at h;split at h
  ·rename_i h1;split at h
   ·rename_i h2;simp only[zs8,z9b,A0,B6]at h1 h2;exact⟨a,b,rfl,by omega,by omega,by omega,by omega⟩
   ·cases h
  ·cases h
def y96(f:Fl)(st:List Int)(x:Nd):Bool×List Int :=
 if x.kind==3 then andP (z2u x.op&&z0w f.types st x.args [(z39 x.op).1]) st (z1q f.types st x.outs [(z39 x.op).2])
 else andP (decide (z4j x.op > 0)&&decide (x.op<=17)&&z0w f.types st x.args [(z39 x.op).1,(z39 x.op).1]&&f.types.getD (x.args.getD 0 0).toNat 0==f.types.getD (x.args.getD 1 0).toNat 0) st (z1q f.types st x.outs [(z39 x.op).2])
def y93(f:Fl)(st:List Int)(x:Nd)(w:Wh):Bool :=
 if x.kind==12 then(x.outs.length:Int)==0&&w.If&&z0w f.types st x.args w.Yield
 else if x.kind==13 then(x.outs.length:Int)==0&&w.Loop&&z0w f.types st x.args w.Next
 else if x.kind==14 then(x.outs.length:Int)==0&&w.Loop&&z0w f.types st x.args w.Left
 else(x.outs.length:Int)==0&&z0w f.types st x.args [f.ty]
def zw5(u:Un)(f:Fl)(st:List Int)(x:Nd):Bool×List Int :=
 if z06 x.name u.flows 0<0 then(false,st)else
  match u.flows[(z06 x.name u.flows 0).toNat]? with
  |some g=>andP (z0w f.types st x.args (g.types.take g.params.toNat)) st (z1q f.types st x.outs [g.ty])
  |none=>(false,st)
def z2i(u:Un)(f:Fl)(st:List Int)(x:Nd):Bool×List Int :=
 if x.kind==1 then andP (z0w f.types st x.args []) st (z1q f.types st x.outs [1])
 else if x.kind==2 then andP ((x.n==0||x.n==1)&&z0w f.types st x.args []) st (z1q f.types st x.outs [2])
 else if x.kind==3||x.kind==4 then y96 f st x
 else if x.kind==5 then andP (decide (z0i x.name u.arrays 0≥0)&&z0w f.types st x.args [1]) st (z1q f.types st x.outs [1])
 else if x.kind==6 then andP (decide (z0i x.name u.arrays 0≥0)&&z0w f.types st x.args [1,1]) st (z1q f.types st x.outs [])
 else if x.kind==8 then andP (z0w f.types st x.args []) st (z1q f.types st x.outs [1])
 else if x.kind==9 then andP (z0w f.types st x.args [1]) st (z1q f.types st x.outs [])
 else if x.kind==7 then zw5 u f st x
 else(false,st)
theorem z9e{b:Bool}{st:List Int}{r:Bool×List Int}(h:r.2.length=st.length):(andP b st r).2.length=st.length:=by
 unfold andP;split
 ·exact h
 ·rfl
theorem y97(f:Fl)(st:List Int)(x:Nd):(y96 f st x).2.length=st.length:=by
 unfold y96;split<;>exact z9e (z2b ..)
theorem y6d(u:Un)(f:Fl)(st:List Int)(x:Nd):(zw5 u f st x).2.length=st.length:=by
 unfold zw5;split
 ·rfl
 ·split
  ·exact z9e (z2b ..)
  ·rfl
theorem y1z(u:Un)(f:Fl)(st:List Int)(x:Nd):(z2i u f st x).2.length=st.length:=by
 unfold z2i
 repeat' split
 all_goals first
  |exact z9e (z2b ..)
  |exact y97 ..
  |exact y6d ..
  |rfl
def z4g(f:Fl)(x:Nd)(st:List Int):Bool×List Int:=andP ((x.outs.length:Int)==0 || !z05 x) st (z1q f.types st x.outs (List.replicate x.outs.length 0))
def z4f(st:List Int)(l:List Nd):List Int:=l.foldl (λs x=>z3k s x.outs) st
def y94(l:List Nd)(s:List Int):Bool×List Int:=(decide ((l.length:Int) > 0),z4f s l)
mutual
def z60(u:Un)(f:Fl)(deep:Int)(w:Wh)(st:List Int):Nd->Bool×List Int
 |.mk kind op n name args outs params kids =>
  if !z1k (.mk kind op n name args outs params kids)then(false,st)
  else if kind==10 then
   match kids with
   |a::b::_ =>
    if z0w f.types st args [2]then
     andQ (andQ (shGo u f (deep+1) ⟨true,w.Loop,r8of f.types outs,w.Next,w.Left⟩ st a) (y94 a)) λs1 =>
     andQ (andQ (shGo u f (deep+1) ⟨true,w.Loop,r8of f.types outs,w.Next,w.Left⟩ s1 b) (y94 b)) λs2 =>
     z4g f (.mk kind op n name args outs params kids) s2
    else(false,st)
   |_=>(false,st)
  else if kind==11 then
   if z0w f.types st args (r8of f.types params)then
    andQ (z1q f.types st params (List.replicate params.length 0)) λs1 =>
    match kids with
    |a::_ =>
     andQ (andQ (shGo u f (deep+1) ⟨false,true,[],r8of f.types params,r8of f.types outs⟩ s1 a) (y94 a)) λs2 =>
     z4g f (.mk kind op n name args outs params kids) (z3k s2 params)
    |_=>(false,s1)
   else(false,st)
  else if z0x kind then(y93 f st (.mk kind op n name args outs params kids) w,st)
  else z2i u f st (.mk kind op n name args outs params kids)
def shGo(u:Un)(f:Fl)(deep:Int)(w:Wh)(st:List Int):List Nd->Bool×List Int
 |[]=>(true,st)
 |x::r =>
  if deep > 100 then(false,st)
  else andQ (z60 u f deep w st x) λs1 =>
   if z05 x != r.isEmpty then(false,s1)
   else shGo u f deep w s1 r
end
def z22(u:Un)(f:Fl)(deep:Int)(w:Wh)(st:List Int)(l:List Nd):Bool×List Int:=andQ (shGo u f deep w st l) (y94 l)
theorem z3n{r:Bool×List Int}{k:List Int->Bool×List Int}{n:Nat}(h1:r.2.length=n)(h2:∀s,s.length=n->(k s).2.length=n):(andQ r k).2.length=n:=by
 unfold andQ;split
 ·exact h2 _ h1
 ·exact h1
theorem z70:∀(l:List Nd)(st:List Int),(z4f st l).length=st.length
 |[],_=>rfl
 |x::r,st=>by
  have:=z70 r (z3k st x.outs);rw[z4q]at this;simpa[z4f]using this
theorem zn9{f:Fl}{x:Nd}{st:List Int}{n:Nat}(h:st.length=n):(z4g f x st).2.length=n:=(z9e (z2b ..)).trans h
theorem z8c{l:List Nd}{s:List Int}{n:Nat}(h:s.length=n):(y94 l s).2.length=n:=(z70 l s).trans h
mutual
theorem zn8(u:Un)(f:Fl):∀(x:Nd)(deep:Int)(w:Wh)(st:List Int),(z60 u f deep w st x).2.length=st.length
 |.mk kind op n name args outs params kids,deep,w,st=>by
  unfold z60;split
  ·rfl
  split
  ·match kids with
   |[]=>rfl
   |[_]=>rfl
   |a::b::_ =>
    simp only;split
    ·exact z3n (z3n (z7z u f a ..) λs hs=>z8c hs) λs hs=>z3n (z3n ((z7z u f b ..).trans hs) λs hs=>z8c hs) λs hs=>zn9 hs
    ·rfl
  split
  ·split
   ·refine z3n (z2b ..) λs hs=>?_
    match kids with
    |[]=>exact hs
    |a::_=>exact z3n (z3n ((z7z u f a ..).trans hs) λs hs=>z8c hs) λs hs=>zn9 ((z4q ..).trans hs)
   ·rfl
  split
  ·rfl
  ·exact y1z ..
theorem z7z(u:Un)(f:Fl):∀(l:List Nd)(deep:Int)(w:Wh)(st:List Int),(shGo u f deep w st l).2.length=st.length
 |[],_,_,_=>by simp[shGo]
 |x::r,deep,w,st=>by
  unfold shGo;split
  ·rfl
  ·refine z3n (zn8 u f x ..) λs hs=>?_;split
   ·exact hs
   ·exact(z7z u f r ..).trans hs
end
theorem za1(u:Un)(f:Fl)(deep:Int)(w:Wh)(st:List Int)(l:List Nd):(z22 u f deep w st l).2.length=st.length:=z3n (z7z ..) λ_ h=>z8c h
theorem zj7(u:Un)(f:Fl)(deep:Int)(w:Wh)(st:List Int){x:Nd}(h:z1k x=false):z60 u f deep w st x=(false,st):=by
 cases x;unfold z60;simp[h]
theorem y1x(u:Un)(f:Fl)(deep:Int)(w:Wh)(st:List Int){x:Nd}{a b:List Nd}(h:z1k x=true)(hk:x.kind=10)(hx:x.kids=[a,b]) :
 z60 u f deep w st x=if z0w f.types st x.args [2]then andQ (z22 u f (deep+1) ⟨true,w.Loop,r8of f.types x.outs,w.Next,w.Left⟩ st a) (λs1=>andQ (z22 u f (deep+1) ⟨true,w.Loop,r8of f.types x.outs,w.Next,w.Left⟩ s1 b) λs2=>z4g f x s2)else(false,st):=by
 cases x
 simp only[Nd.kind,Nd.kids]at hk hx;subst hk hx;unfold z60;simp only[h,Fq,Aj,Br,Nd.args,Nd.outs];rfl
theorem zj8(u:Un)(f:Fl)(deep:Int)(w:Wh)(st:List Int){x:Nd}{a:List Nd}(h:z1k x=true)(hk:x.kind=11)(hx:x.kids=[a]) :
 z60 u f deep w st x=if z0w f.types st x.args (r8of f.types x.params)then andQ (z1q f.types st x.params (List.replicate x.params.length 0)) (λs1=>andQ (z22 u f (deep+1) ⟨false,true,[],r8of f.types x.params,r8of f.types x.outs⟩ s1 a) λs2=>z4g f x (z3k s2 x.params))else(false,st):=by
 cases x
 simp only[Nd.kind,Nd.kids]at hk hx;subst hk hx;unfold z60;simp only[h,Fq,Aj,Br,Nd.args,Nd.outs,Nd.params];rfl
theorem zs7(u:Un)(f:Fl)(deep:Int)(w:Wh)(st:List Int){x:Nd}(h:z1k x=true)(h1:(x.kind==10)=false)(h2:(x.kind==11)=false)(h3:z0x x.kind=true):z60 u f deep w st x=(y93 f st x w,st):=by
 cases x
 simp only[Nd.kind]at h1 h2 h3;unfold z60;simp[h,h1,h2,h3]
theorem za2(u:Un)(f:Fl)(deep:Int)(w:Wh)(st:List Int){x:Nd}(h:z1k x=true)(h1:(x.kind==10)=false)(h2:(x.kind==11)=false)(h3:z0x x.kind=false):z60 u f deep w st x=z2i u f st x:=by
 cases x
 simp only[Nd.kind]at h1 h2 h3;unfold z60;simp[h,h1,h2,h3]
theorem y6t{S:Type}{b:Bool}{s:S}{r:Bool×S}(h:(andP b s r).1=true):b=true/\r.1=true:=by
 unfold andP at h;split at h
 ·rename_i hb;exact⟨hb,h⟩
 ·cases h
theorem zb7{S:Type}{r:Bool×S}{k:S->Bool×S}(h:(andQ r k).1=true):r.1=true/\(k r.2).1=true:=by
 unfold andQ at h;split at h
 ·rename_i hb;exact⟨hb,h⟩
 ·cases h
theorem y20{f:Fl}{x:Nd}{st:List Int}(h:(z4g f x st).1=true):∀v∈x.outs,0<=v/\v<f.types.length:=y1y (y6t h).2
theorem y6f{u:Un}{f:Fl}{st:List Int}{x:Nd}(h:(z2i u f st x).1=true):∀v∈x.outs,0<=v/\v<f.types.length:=by
 unfold z2i y96 zw5 at h
 repeat' split at h
 all_goals first
  |exact y1y (y6t h).2
  |cases h
theorem yx6{f:Fl}{st:List Int}{x:Nd}{w:Wh}(h:y93 f st x w=true):x.outs=[]:=by
 unfold y93 at h;have key:∀b:Bool,((x.outs.length:Int)==0&&b)=true->x.outs=[]:=λb hb=>by
  simp only[A0,Ak]at hb;exact Au oM0
 repeat' split at h
 all_goals first
  |exact key _ h
  |(rw[E9]at h;exact key _ h)
theorem yg1{u:Un}{f:Fl}{deep:Int}{w:Wh}{st:List Int}{x:Nd}(h:(z60 u f deep w st x).1=true):∀v∈x.outs,0<=v/\v<f.types.length:=by
 cases hb:z1k x with
 |false=>rw[zj7 _ _ _ _ _ hb]at h;cases h
 |true =>
  by_cases h10:x.kind=10
  ·obtain⟨a,b,hk⟩:=z3f hb h10;rw[y1x _ _ _ _ _ hb h10 hk]at h;split at h
   ·exact y20 (zb7 (zb7 h).2).2
   ·cases h
  ·by_cases h11:x.kind=11
   ·obtain⟨a,hk⟩:=z25 hb h11;rw[zj8 _ _ _ _ _ hb h11 hk]at h;split at h
    ·exact y20 (zb7 (zb7 h).2).2
    ·cases h
   ·have e10:(x.kind==10)=false:=by simpa using h10
    have e11:(x.kind==11)=false:=by simpa using h11
    cases he:z0x x.kind with
    |true=>rw[zs7 _ _ _ _ _ hb e10 e11 he]at h;intro v hv;rw[yx6 h]at hv;simp at hv
    |false=>rw[za2 _ _ _ _ _ hb e10 e11 he]at h;exact y6f h
theorem y95{u:Un}{f:Fl}{deep:Int}{w:Wh}:∀{l:List Nd}{st:List Int},(shGo u f deep w st l).1=true->∀x∈l,∀v∈x.outs,0<=v/\v<f.types.length
 |[],_,_,x,hx=>by simp at hx
 |y::r,st,h,x,hx=>by
  unfold shGo at h;split at h
  ·cases h
  ·obtain⟨h1,h2⟩:=zb7 h;split at h2
   ·cases h2
   ·rcases Am.1 hx with rfl|hx
    ·exact yg1 h1
    ·exact y95 h2 x hx
theorem y0q:∀{l:List Nd}{x:Nd},x∈l->ndW x<=lsW l
 |y::r,x,h=>by
  rcases Am.1 h with rfl|h
  ·simp only[lsW];omega
  ·have:=y0q h;simp only[lsW];omega
theorem z7n:∀{ks:List (List Nd)} {q:List Nd},q∈ks->lsW q<=kdW ks
 |y::r,x,h=>by
  rcases Am.1 h with rfl|h
  ·simp only[kdW];omega
  ·have:=z7n h;simp only[kdW];omega
def zn6(k n:Nat):List Int:=List.replicate k 1++List.replicate (n-k) 0
def y1w(u:Un)(f:Fl):Bool:=!(decide (f.params > 8)||decide ((f.types.length:Int) > 20000)||f.types.any (λt=>!isTy t))&&(z22 u f 1 z43 (zn6 f.params.toNat f.types.length) f.body).1
theorem zw4{k n:Nat}(h:k<=n):(zn6 k n).length=n:=by simp[zn6];omega
theorem j3z{k n:Nat}(h:k<n):(zn6 k n).set k 1=zn6 (k+1) n:=by
 unfold zn6;rw[De _ _ sI0,Ec,Nat.sub_self];have:n-k=(n-(k+1))+1:=by omega
 rw[this,Fc,Fi,List.replicate_succ',Ce];rfl
def bump(s:ByteArray)(es:List (Value×PV)):List (Value×PV) :=
 mput (.string s) (match z1z (.string s) es with|some (.val (.int .i64 n))=>.val (.int .i64 (IntKind.i64.wrap (n+1)))|_=>.val (.int .i64 1)) es
def zx3(a:Ar):Bool:=z0m a.name && !decide (a.size<1) && !decide (a.size > 1000)
def zn7(f:Fl):Bool:=z0m f.name&&isTy f.ty && !decide (f.params<0) && !decide (f.params > f.types.length)
def y05(es:List (Value×PV))(l:List Ar):List (Value×PV):=l.foldl (λe a=>bump a.name e) es
def y2x(es:List (Value×PV))(l:List Fl):List (Value×PV):=l.foldl (λe a=>bump a.name e) es
def z9a(u:Un):Bool:=u.arrays.all zx3&&u.flows.all zn7&&((y2x (y05 [] u.arrays) u.flows).length:Int)==u.arrays.length+u.flows.length&&zb3 u
def za4(u:Un):List Fl->Int->Int×Int
 |[],_=>(0,0)
 |f::r,i=>if y1w u f then za4 u r (i+1)else(80,i)
def z4x(u:Un):Int×Int:=if z9a u then za4 u u.flows 0 else(1,0)
theorem y6e{u:Un}(h:z9a u=true):∀g∈u.flows,0<=g.params/\g.params<=g.types.length:=by
 simp only[z9a,A0,Bg]at h;intro g hg;have:=h.1.1.2 g hg;simp only[zn7,A0,Bf,Cc]at this;omega
theorem zo4{α:Type}{p:α -> Bool}:∀{l:List α}{k:Nat}{x:α},(l.take k).all p=true->l[k]?=some x->p x=false->(l.takeWhile p).length=k/\l.all p=false
 |[],k,x,_,h,_=>by simp at h
 |a::r,0,x,_,h,hx=>by
  simp only[D0,Ck]at h;subst h
  simp[hx]
 |a::r,k+1,x,h,hg,hx=>by
  simp only[Fd,D9,A0]at h;obtain⟨h1,h2⟩:=zo4 h.2 (by simpa using hg) hx;simp[h.1,h1,h2]
def yu4(s:ByteArray):ByteArray:=if s.toList.all isLD then s else s.extract 0 (s.toList.takeWhile isLD).length
theorem runOf_at{s:ByteArray}{k:Nat}{b:UInt8}(h:(s.toList.take k).all isLD=true)(hb:s.toList[k]?=some b)(hn:isLD b=false):yu4 s=s.extract 0 k:=by
 obtain⟨h1,h2⟩:=zo4 h hb hn;simp[yu4,h1,h2]
theorem runOf_eq(s:ByteArray):((yu4 s).toList==s.toList)=s.toList.all isLD:=by
 unfold yu4
 cases h:s.toList.all isLD with
 |true=>simp
 |false =>
  simp only[Aj,Br];have hlt:(s.toList.takeWhile isLD).length<s.toList.length:=by
   rcases Ef (s.toList.takeWhile isLD).length s.toList.length with h1|h1
   ·exact h1
   ·have hp:=F4 (l:=s.toList) isLD;have he:=hp.eq_of_length_le h1;have:s.toList.all isLD=true:=by rw[<- he];exact List.all_takeWhile
    rw[h]at this;cases this
  have hne:(s.extract 0 (s.toList.takeWhile isLD).length).toList≠s.toList:=by
   intro he;have:=Aa List.length he;rw[y02,Cm,y02]at this;rw[y02]at hlt;omega
  simpa using hne
theorem yr3{s:ByteArray}{k:Nat}(h:k<s.toList.length):((s.toList[k]).toNat<128->Utf8.decode s k=((s.toList[k]).toNat,1))/\(128<=(s.toList[k]).toNat->128<=(Utf8.decode s k).1):=by
 have hk:k<s.size:=by rwa [y02]at h
 have e0:s.get! (k+0)=s.toList[k]:=by
  have h2:=y2t h;rw[getElem?_pos s k hk]at h2;rw[<- Bv h2];show s.get! k=_;simp[ByteArray.get!,getElem!_pos,hk];rfl
 refine⟨λhb=>?_,λhb=>?_⟩
 ·simp only[Utf8.decode,e0,hb,C2]
 ·have hn:¬(s.toList[k]).toNat<128:=by omega
  simp only[Utf8.decode,e0];rw[if_neg (by simpa using hn)]
  repeat' split
  all_goals first
   |(simp[Utf8.runeError];done)
   |(rename_i hc;simp only[ge_iff_le,A0,B6]at hc;simp only;omega)
def y2g(r:Int):Bool:=z4l r||z3z r
theorem y7i{r:Int}(h:y2g r=true):r<128:=by
 simp only[y2g,z4l,z3z,B7,A0,B6,Ak]at h;omega
theorem y07{s:ByteArray}{k:Nat}(h:k<s.toList.length):(y2g (Utf8.decode s k).1=true->(Utf8.decode s k).2=1/\isLD s.toList[k]=true)/\(y2g (Utf8.decode s k).1=false->isLD s.toList[k]=false):=by
 obtain⟨h1,h2⟩:=yr3 h
 by_cases hb:(s.toList[k]).toNat<128
 ·rw[h1 hb];exact⟨λh=>⟨rfl,h⟩,λh=>h⟩
 ·have h3:=h2 oM0;refine⟨λhl=>?_,λ_=>?_⟩
  ·have:=y7i hl;omega
  ·cases hd:isLD s.toList[k]with
   |false=>rfl
   |true=>have:=y7i (r:=((s.toList[k]).toNat:Int)) hd;omega
def Cnt(es:List (Value×PV)):Prop:=(∀e∈es,z1y .string e.1=true)/\∀e∈es,∃n,e.2=vInt n
theorem z56{k:Value}{v:PV}:∀{es:List (Value×PV)} {e:Value×PV},e∈mput k v es->e=(k,v)∨e∈es
 |[],e,h=>by simp[mput]at h;exact .inl h
 |(a,p)::r,e,h=>by
  simp only[mput]at h;split at h
  ·rcases Am.1 h with rfl|h
   ·exact .inl rfl
   ·exact .inr (.tail _ h)
  ·rcases Am.1 h with rfl|h
   ·exact .inr (.head _)
   ·rcases z56 h with h|h
    ·exact .inl h
    ·exact .inr (.tail _ h)
theorem z8x{k:Value}{p:PV}:∀{es:List (Value×PV)},z1z k es=some p->∃a,(a,p)∈es
 |(a,q)::r,h=>by
  simp only[z1z]at h;split at h
  ·cases h;exact⟨a,.head _⟩
  ·obtain⟨b,hb⟩:=z8x h;exact⟨b,.tail _ hb⟩
theorem Cnt.find{es:List (Value×PV)}(h:Cnt es)(k:Value):∃n,(z1z k es).getD (.val (.int .i64 0))=vInt n:=by
 cases hf:z1z k es with
 |none=>exact⟨0,rfl⟩
 |some p=>obtain⟨a,ha⟩:=z8x hf;obtain⟨n,hn⟩:=h.2 _ ha;exact⟨n,hn⟩
theorem zh3{es:List (Value×PV)}{s:ByteArray}{n:Int}(h:(z1z (.string s) es).getD (.val (.int .i64 0))=vInt n):bump s es=mput (.string s) (vInt (IntKind.i64.wrap (n+1))) es:=by
 unfold bump
 cases hf:z1z (.string s) es with
 |none =>
  rw[hf]at h;simp only[Option.getD_none,vInt,PV.val.injEq,Value.int.injEq,true_and]at h;subst h
  rfl
 |some p =>
  rw[hf]at h;simp only[Cf]at h;subst h;rfl
theorem Cnt.bump{es:List (Value×PV)}(h:Cnt es)(s:ByteArray):Cnt (bump s es):=by
 obtain⟨n,hn⟩:=h.find (.string s);rw[zh3 hn];refine⟨λe he=>?_,λe he=>?_⟩
 ·rcases z56 he with rfl|he
  ·rfl
  ·exact h.1 e he
 ·rcases z56 he with rfl|he
  ·exact⟨_,rfl⟩
  ·exact h.2 e he
theorem Cnt.nil:Cnt []:=⟨λ_ h=>by simp at h,λ_ h=>by simp at h⟩
structure Rl(n:Nat)(st:List Int)(set:List Bool)(seen:List Int):Prop where
 l1:st.length=n
 l2:set.length=n
 s:∀v:Nat,v<n->set.getD v false = !(st.getD v 0==0)
 u:∀v:Nat,v<n->seen.contains (v:Int)=(st.getD v 0==1)
theorem zl0{α:Type}{l:List α}{i j:Nat}{a d:α}:(l.set i a).getD j d=if i=j/\i<l.length then a else l.getD j d:=by
 simp only[At,List.getElem?_set]
 by_cases h:i=j
 ·subst h
  by_cases h2:i<l.length
  iterate 2 simp[h2]
 ·simp[h]
theorem use_rl{tys st:List Int}{set:List Bool}{seen:List Int}(h:Rl tys.length st set seen)(v w:Int):z95 tys seen v w=(zs8 tys st v w).1:=by
 unfold z95 zs8 z9b
 by_cases h0:0<=v
 ·by_cases h1:v<tys.length
  ·have hv:v=(v.toNat:Int):=by omega
   have hu:=h.u v.toNat oM0;rw[<- hv]at hu;have e1:decide (v<0)=false:=by simpa using h0
   have e2:decide (v≥tys.length)=false:=by simpa using h1
   have e3:decide (0<=v)=true:=by simpa using h0
   have e4:decide (v<tys.length)=true:=by simpa using h1
   simp only[e1,e2,e3,e4,hu,C9,B0];clear hv e1 e2 e3 e4
   cases hw:(w==0)<;>cases ht:(tys.getD v.toNat 0==w)<;>cases hs:(st.getD v.toNat 0==1)<;>simp_all[bne]
  ·have e2:decide (v≥tys.length)=true:=by simp;omega
   have e4:decide (v<tys.length)=false:=by simp;omega
   simp[e2,e4]
 ·have e1:decide (v<0)=true:=by simp;omega
  have e3:decide (0<=v)=false:=by simp;omega
  simp[e1,e3]
theorem y9e{tys st:List Int}{set:List Bool}{seen:List Int}(h:Rl tys.length st set seen):∀(a b:List Int),z14 tys seen a b=(eqGo (zs8 tys) st a b).1
 |[],_=>by simp[z14,eqGo]
 |_::_,[]=>by simp[z14,eqGo]
 |x::a,y::b=>by
  simp only[z14,eqGo,use_rl h x y];have h2:(zs8 tys st x y).2=st:=rfl
  cases hx:(zs8 tys st x y).1 with
  |true=>simp[h2,y9e h a b]
  |false=>simp
theorem yh3{tys st:List Int}{set:List Bool}{seen:List Int}(h:Rl tys.length st set seen)(a b:List Int):z08 tys seen a b=z0w tys st a b:=by
 unfold z08 z0w eqf
 by_cases hl:(a.length:Int)=b.length
 ·rw[if_pos hl];have:((a.length:Int)==b.length)=true:=by simpa using hl
  rw[this,B0,y9e h]
 ·rw[if_neg hl];have:((a.length:Int)==b.length)=false:=by simpa using hl
  rw[this,Cy]
theorem set1_rl{tys st:List Int}{set:List Bool}{seen:List Int}(h:Rl tys.length st set seen)(v w:Int) :
 z9r tys set v w = !(z5w tys st v w).1/\((z5w tys st v w).1=true->Rl tys.length (z5w tys st v w).2 (set.set v.toNat true) (seen++[v])/\0<=v/\v<tys.length/\seen.contains v=false):=by
 unfold z9r z5w z9b
 by_cases h0:0<=v
 ·by_cases h1:v<tys.length
  ·have hv:v=(v.toNat:Int):=by omega
   have hn:v.toNat<tys.length:=by omega
   have hs:=h.s v.toNat hn;have hu:=h.u v.toNat hn;rw[<- hv]at hu;have e1:decide (v<0)=false:=by simpa using h0
   have e2:decide (v≥tys.length)=false:=by simpa using h1
   have e3:decide (0<=v)=true:=by simpa using h0
   have e4:decide (v<tys.length)=true:=by simpa using h1
   simp only[e1,e2,e3,e4,hs,C9,B0];refine⟨by clear hv e1 e2 e3 e4;cases hw:(w==0)<;>cases ht:(tys.getD v.toNat 0==w)<;>cases hz:(st.getD v.toNat 0==0)<;>simp_all[bne],λhc=>?_⟩;split at hc
   ·rename_i hif;rw[if_pos hif];simp only[A0]at hif;have hz:st.getD v.toNat 0=0:=by simpa using hif.2
    refine⟨⟨by simpa using h.l1,by simpa using h.l2,λj hj=>?_,λj hj=>?_⟩,h0,h1,by rw[hu,hz];rfl⟩
    ·rw[zl0,zl0]
     by_cases e:v.toNat=j
     ·subst e;simp[h.l1,h.l2,hn]
     ·simp only[e,false_and,Br];exact h.s j hj
    ·rw[zl0];simp only[Cg,Et,List.contains_nil,Es]
     by_cases e:v.toNat=j
     ·subst e;have:((v.toNat:Int)==v)=true:=by simpa using hv.symm
      rw[this,Bh,if_pos ⟨rfl,by rw[h.l1];exact hn⟩];rfl
     ·have:((j:Int)==v)=false:=by simp;omega
      simp only[e,false_and,Br,this,Es];exact h.u j hj
   ·cases hc
  ·have e2:decide (v≥tys.length)=true:=by simp;omega
   have e4:decide (v<tys.length)=false:=by simp;omega
   simp[e2,e4]
 ·have e1:decide (v<0)=true:=by simp;omega
  have e3:decide (0<=v)=false:=by simp;omega
  simp[e1,e3]
theorem y90{tys:List Int}:∀(a b st:List Int)(set:List Bool)(seen:List Int),a.length=b.length->Rl tys.length st set seen ->
 (z2g tys set a b).1=(eqGo (z5w tys) st a b).1/\((eqGo (z5w tys) st a b).1=true->Rl tys.length (eqGo (z5w tys) st a b).2 (z2g tys set a b).2 (seen++a)/\∀v∈a,0<=v/\v<tys.length/\seen.contains v=false)
 |[],_,st,set,seen,_,h=>by simp[z2g,eqGo];exact h
 |_::_,[],_,_,_,hl,_=>by simp at hl
 |x::a,y::b,st,set,seen,hl,h=>by
  obtain⟨h1,h2⟩:=set1_rl h x y;simp only[z2g,eqGo,h1]
  cases hx:(z5w tys st x y).1 with
  |false=>simp
  |true =>
   obtain⟨h3,h4,h5,h6⟩:=h2 hx;obtain⟨ih1,ih2⟩:=y90 a b _ _ _ (by simpa using hl) h3;simp only[Fq,Aj,Br,C2];refine⟨ih1,λhc=>?_⟩;obtain⟨h7,h8⟩:=ih2 hc;refine⟨by simpa using h7,λv hv=>?_⟩;rcases Am.1 hv with rfl|hv
   ·exact⟨h4,h5,h6⟩
   ·obtain⟨g1,g2,g3⟩:=h8 v hv;refine⟨g1,g2,?_⟩;rw[Cg,Bm]at g3;exact g3.1
theorem j43{tys st:List Int}{set:List Bool}{seen:List Int}(h:Rl tys.length st set seen)(a b:List Int) :
 (z1u tys set a b).1=(z1q tys st a b).1/\((z1q tys st a b).1=true->Rl tys.length (z1q tys st a b).2 (z1u tys set a b).2 (seen++a)/\∀v∈a,0<=v/\v<tys.length/\seen.contains v=false):=by
 unfold z1u z1q eqf
 by_cases hl:(a.length:Int)=b.length
 ·have e:((a.length:Int)==b.length)=true:=by simpa using hl
  rw[if_pos hl,if_pos e];exact y90 a b st set seen oM0 h
 ·have e:¬((a.length:Int)==b.length)=true:=by simpa using hl
  rw[if_neg hl,if_neg e];simp
theorem j0u{n:Nat}:∀(l st:List Int)(set:List Bool)(seen rest:List Int),(∀v∈l,0<=v/\v<n/\rest.contains v=false)->(∀v∈l,st.getD v.toNat 0≠0)->st.length=n->set.length=n ->
 (∀v:Nat,v<n->set.getD v false = !(st.getD v 0==0))->(∀v:Nat,v<n->l.contains (v:Int)=false->rest.contains (v:Int)=(st.getD v 0==1))->Rl n (z3k st l) set rest
 |[],st,set,_,rest,_,_,h1,h2,h3,h4=>⟨h1,h2,h3,λv hv=>h4 v hv rfl⟩
 |x::l,st,set,seen,rest,hin,hnz,h1,h2,h3,h4=>by
  obtain⟨hx0,hx1,hx2⟩:=hin x (.head _);have hxn:x.toNat<n:=by omega
  show Rl n (z3k (st.set x.toNat 2) l) set rest;have hg:∀j,(st.set x.toNat 2).getD j 0=if x.toNat=j then 2 else st.getD j 0:=λj=>by
   rw[zl0];simp[h1,hxn]
  -- hidden values are no more among the seen
  have key:∀v:Nat,v<n->l.contains (v:Int)=false->rest.contains (v:Int)=((st.set x.toNat 2).getD v 0==1):=by
   intro v hv hl;rw[hg]
   by_cases e:x.toNat=v
   ·have hv2:(v:Int)=x:=by omega
    rw[if_pos e,hv2,hx2];rfl
   ·rw[if_neg e];refine h4 v hv ?_;have:((v:Int)==x)=false:=by simp;omega
    rw[Et,this,hl];rfl
  refine j0u l (st.set x.toNat 2) set seen rest (λv hv=>hin v (.tail _ hv)) (λv hv=>?_) (by simpa using h1) h2 (λv hv=>?_) key
  ·rw[hg];split
   ·decide
   ·exact hnz v (.tail _ hv)
  ·rw[hg,h3 v hv];split
   ·rename_i e;have:=hnz x (.head _);rw[e]at this;have hb:(st.getD v 0==0)=false:=by simpa using this
    rw[hb];rfl
   ·rfl
def PR(n:Nat)(seen outs:List Int)(r:Bool×List Int)(q:Bool×List Bool):Prop :=
 q.1=r.1/\(r.1=true->Rl n r.2 q.2 (seen++outs)/\∀v∈outs,0<=v/\v<n/\seen.contains v=false)
theorem PR.no{n:Nat}{seen outs:List Int}{st:List Int}{set:List Bool}:PR n seen outs (false,st) (false,set):=⟨rfl,λh=>by cases h⟩
theorem zu2{tys st:List Int}{set:List Bool}{seen:List Int}(h:Rl tys.length st set seen){b b':Bool}(hb:b=b')(outs want:List Int):PR tys.length seen outs (andP b st (z1q tys st outs want)) (andS b' set (z1u tys set outs want)):=by
 subst hb
 cases b with
 |false=>exact .no
 |true=>exact j43 h outs want
theorem nil_rl{tys st:List Int}{set:List Bool}{seen:List Int}(h:Rl tys.length st set seen){b b':Bool}(hb:b=b')(outs:List Int):PR tys.length seen outs (andP b st (z1q tys st outs [])) (b'&&(outs.length:Int)==0,set):=by
 subst hb
 cases b with
 |false=>exact .no
 |true =>
  cases outs with
  |nil=>exact⟨rfl,λ_=>⟨by rw[Cu];exact h,λv hv=>by simp at hv⟩⟩
  |cons v r =>
   have e:¬(((v::r).length:Int)=(([]:List Int).length:Int)):=by simp;omega
   have e2:(((v::r).length:Int)==0)=false:=by simp;omega
   simp only[andP,C2,z1q,eqf,if_neg e,e2,Dk];exact .no
theorem yj3{n:Nat}{st:List Int}{set:List Bool}{seen:List Int}(h:Rl n st set seen){b b':Bool}(hb:b=b'){outs:List Int}(ho:b=true->outs=[]):PR n seen outs (b,st) (b',set):=by
 subst hb;refine⟨rfl,λhb=>?_⟩;rw[ho hb];exact⟨by simpa using h,λv hv=>by simp at hv⟩
theorem yc9{op:Int}(h:z3q op=true):z39 op=z0f op:=by
 simp only[z3q,A0,B6]at h;have h18:(op==18)=false:=by simp;omega
 have h19:(op==19)=false:=by simp;omega
 have h22:(op==22)=false:=by simp;omega
 simp only[z39,z0f,h18,h19,h22,Es,Aj,Br]
theorem yc8{op:Int}(h:z2u op=true):z39 op=z0f op:=by
 simp only[z2u,A0,B6]at h;have h18:(op==18)=false:=by simp;omega
 have h19:(op==19)=false:=by simp;omega
 simp only[z39,z0f,h18,h19,C9]
theorem j17(op:Int):(decide (z4j op > 0)&&decide (op<=17))=z3q op:=by
 by_cases h0:op<0
 ·have:z4j op=0:=by simp[z4j,h0]
  have h2:z3q op=false:=by simp[z3q];omega
  rw[this,h2];rfl
 ·by_cases h1:op≥29
  ·have:z4j op=0:=by simp[z4j,h1]
   have h2:z3q op=false:=by simp[z3q];omega
   rw[this,h2];rfl
  ·rcases j02 (op:=op) oM0 oM0 with rfl|rfl|rfl|rfl|rfl|rfl|rfl|rfl|rfl|rfl|rfl|rfl|rfl|rfl|rfl|rfl|rfl|rfl|rfl|rfl|rfl|rfl|rfl|rfl|rfl|rfl|rfl|rfl|rfl<;>rfl
theorem j48(u:Un)(f:Fl){st:List Int}{set:List Bool}{seen:List Int}(h:Rl f.types.length st set seen)(x:Nd)(w:Wh) :
 PR f.types.length seen x.outs (if z0x x.kind then(y93 f st x w,st)else z2i u f st x) (z1i u f set x seen w):=by
 have U:=λwant=>(yh3 h x.args want).symm;have hlen:∀b,z0w f.types st x.args []=b->((x.args.length:Int)==0)=b:=λb hb=>by
  rw[<- hb];unfold z0w eqf
  cases x.args with
  |nil=>rfl
  |cons a r =>
   have e:¬(((a::r).length:Int)=(([]:List Int).length:Int)):=by simp;omega
   have e2:(((a::r).length:Int)==0)=false:=by simp;omega
   rw[if_neg e,e2]
 unfold z1i z2i y93 y96 zw5 zd3
 by_cases k1:x.kind=1
 ·simp only[k1,z0x];exact zu2 h (U _) _ _
 by_cases k2:x.kind=2
 ·simp only[k2,z0x];exact zu2 h (by rw[U]) _ _
 by_cases k3:x.kind=3
 ·simp only[k3,z0x]
  cases ho:z2u x.op with
  |false=>exact .no
  |true=>rw[yc8 ho];exact zu2 h (by rw[U]) _ _
 by_cases k4:x.kind=4
 ·simp only[k4,z0x,j17]
  cases ho:z3q x.op with
  |false=>exact .no
  |true=>rw[yc9 ho];exact zu2 h (by rw[U]) _ _
 by_cases k5:x.kind=5
 ·simp only[k5,z0x];exact zu2 h (by rw[U]) _ _
 by_cases k6:x.kind=6
 ·simp only[k6,z0x];exact nil_rl h (by rw[U]) _
 by_cases k7:x.kind=7
 ·simp only[k7,z0x]
  by_cases hp:z06 x.name u.flows 0<0
  ·have e:¬(decide (z06 x.name u.flows 0≥0))=true:=by simp;omega
   simp only[if_pos hp,if_neg e];exact .no
  ·have e:(decide (z06 x.name u.flows 0≥0))=true:=by simp;omega
   simp only[if_neg hp,if_pos e]
   cases u.flows[(z06 x.name u.flows 0).toNat]? with
   |none=>exact .no
   |some g=>exact zu2 h (U _) _ _
 by_cases k8:x.kind=8
 ·simp only[k8,z0x];exact zu2 h (hlen _ rfl).symm _ _
 by_cases k9:x.kind=9
 ·simp only[k9,z0x];exact nil_rl h (U _) _
 have out0:∀c:Bool,((x.outs.length:Int)==0&&c)=true->x.outs=[]:=λc hc=>by
  simp only[A0,Ak]at hc;exact Au oM0
 by_cases k12:x.kind=12
 ·simp only[k12,z0x];show PR _ _ _ ((x.outs.length:Int)==0&&w.If&&z0w f.types st x.args w.Yield,st) (w.If&&z08 f.types seen x.args w.Yield&&(x.outs.length:Int)==0,set);exact yj3 h (by rw[<- U];cases(w.If)<;>cases((x.outs.length:Int)==0)<;>simp) (λhb=>by rw[E9]at hb;exact out0 _ hb)
 by_cases k13:x.kind=13
 ·simp only[k13,z0x];show PR _ _ _ ((x.outs.length:Int)==0&&w.Loop&&z0w f.types st x.args w.Next,st) (w.Loop&&z08 f.types seen x.args w.Next&&(x.outs.length:Int)==0,set);exact yj3 h (by rw[<- U];cases(w.Loop)<;>cases((x.outs.length:Int)==0)<;>simp) (λhb=>by rw[E9]at hb;exact out0 _ hb)
 by_cases k14:x.kind=14
 ·simp only[k14,z0x];show PR _ _ _ ((x.outs.length:Int)==0&&w.Loop&&z0w f.types st x.args w.Left,st) (w.Loop&&z08 f.types seen x.args w.Left&&(x.outs.length:Int)==0,set);exact yj3 h (by rw[<- U];cases(w.Loop)<;>cases((x.outs.length:Int)==0)<;>simp) (λhb=>by rw[E9]at hb;exact out0 _ hb)
 by_cases k15:x.kind=15
 ·simp only[k15,z0x];show PR _ _ _ ((x.outs.length:Int)==0&&z0w f.types st x.args [f.ty],st) (z08 f.types seen x.args [f.ty]&&(x.outs.length:Int)==0,set);exact yj3 h (by rw[<- U];exact Bool.and_comm _ _) (λhb=>out0 _ hb)
 have e1:(x.kind==1)=false:=by simpa using k1
 have e2:(x.kind==2)=false:=by simpa using k2
 have e3:(x.kind==3)=false:=by simpa using k3
 have e4:(x.kind==4)=false:=by simpa using k4
 have e5:(x.kind==5)=false:=by simpa using k5
 have e6:(x.kind==6)=false:=by simpa using k6
 have e7:(x.kind==7)=false:=by simpa using k7
 have e8:(x.kind==8)=false:=by simpa using k8
 have e9:(x.kind==9)=false:=by simpa using k9
 have e12:(x.kind==12)=false:=by simpa using k12
 have e13:(x.kind==13)=false:=by simpa using k13
 have e14:(x.kind==14)=false:=by simpa using k14
 have e15:(x.kind==15)=false:=by simpa using k15
 have ee:z0x x.kind=false:=by simp[z0x];omega
 simp only[e1,e2,e3,e4,e5,e6,e7,e8,e9,e12,e13,e14,e15,ee,Aj,Br,Es];exact .no
theorem y36:∀(l:List Nd)(st:List Int),z4f st l=z3k st (l.flatMap Nd.outs)
 |[],_=>rfl
 |x::r,st=>by
  have:=y36 r (z3k st x.outs);simp only[z4f,Dz,Ey,z3k,Dm]at this⊢;exact this
theorem y7e{n:Nat}{st:List Int}{set:List Bool}{all l:List Int}(h:Rl n st set (all++l))(hl:∀v∈l,0<=v/\v<n/\all.contains v=false):Rl n (z3k st l) set all:=by
 refine j0u l st set [] all hl (λv hv=>?_) h.l1 h.l2 h.s (λv hv hc=>?_)
 ·obtain⟨h0,h1,_⟩:=hl v hv;have hu:=h.u v.toNat oM0;have hc:(all++l).contains ((v.toNat:Nat):Int)=true:=by
   rw[show((v.toNat:Nat):Int)=v by omega];simp[hv]
  rw[hc]at hu;have:st.getD v.toNat 0=1:=by simpa using hu.symm
  rw[this];decide
 ·have hu:=h.u v hv;rw[Cg,hc,Es]at hu;exact hu
def LR(u:Un)(f:Fl)(l:List Nd):Prop:=∀(deep:Int)(w:Wh)(st:List Int)(set:List Bool)(seen:List Int),Rl f.types.length st set seen ->
 (z2m u f deep w seen set l).1=(z22 u f deep w st l).1/\((z22 u f deep w st l).1=true->Rl f.types.length (z22 u f deep w st l).2 (z2m u f deep w seen set l).2 seen)
theorem zz9{n:Nat}{seen outs:List Int}{r:Bool×List Int}{q:Bool×List Bool}{k:List Int->Bool×List Int}{k':List Bool->Bool×List Bool}(h:q.1=r.1)(hk:r.1=true->PR n seen outs (k r.2) (k' q.2)):PR n seen outs (andQ r k) (andT q k'):=by
 unfold andQ andT;rw[h]
 cases hr:r.1 with
 |false=>exact .no
 |true=>exact hk hr
theorem j4l{f:Fl}{x:Nd}{st:List Int}{set:List Bool}{seen:List Int}(h:Rl f.types.length st set seen):PR f.types.length seen x.outs (z4g f x st) (zg3 f x set):=zu2 h rfl _ _
theorem node_rl(u:Un)(f:Fl)(x:Nd)(ih:∀q∈x.kids,LR u f q)(deep:Int)(w:Wh){st:List Int}{set:List Bool}{seen:List Int}(h:Rl f.types.length st set seen) :
 PR f.types.length seen x.outs (z60 u f deep w st x) (z4z u f deep w seen set x):=by
 cases hb:z1k x with
 |false=>rw[zj7 _ _ _ _ _ hb,zi4 _ _ _ _ _ _ hb];exact .no
 |true =>
  by_cases h10:x.kind=10
  ·obtain⟨a,b,hk⟩:=z3f hb h10;rw[y1x _ _ _ _ _ hb h10 hk,y14 _ _ _ _ _ _ hb h10 hk,yh3 h];split
   ·obtain⟨h1,h2⟩:=ih a (by rw[hk];simp) (deep+1) ⟨true,w.Loop,r8of f.types x.outs,w.Next,w.Left⟩ st set seen h;refine zz9 h1 λht=>?_;obtain⟨h3,h4⟩:=ih b (by rw[hk];simp) (deep+1) ⟨true,w.Loop,r8of f.types x.outs,w.Next,w.Left⟩ _ _ seen (h2 ht);exact zz9 h3 λht2=>j4l (h4 ht2)
   ·exact .no
  ·by_cases h11:x.kind=11
   ·obtain⟨a,hk⟩:=z25 hb h11;rw[zj8 _ _ _ _ _ hb h11 hk,zi5 _ _ _ _ _ _ hb h11 hk,yh3 h];split
    ·obtain⟨h1,h2⟩:=j43 h x.params (List.replicate x.params.length 0);refine zz9 h1 λht=>?_;obtain⟨h3,h4⟩:=h2 ht;obtain⟨h5,h6⟩:=ih a (by rw[hk];simp) (deep+1) ⟨false,true,[],r8of f.types x.params,r8of f.types x.outs⟩ _ _ _ h3;exact zz9 h5 λht2=>j4l (y7e (h6 ht2) h4)
    ·exact .no
   ·have e10:(x.kind==10)=false:=by simpa using h10
    have e11:(x.kind==11)=false:=by simpa using h11
    rw[z9u _ _ _ _ _ _ hb e10 e11];have hs:=j48 u f h x w
    cases he:z0x x.kind with
    |true=>rw[zs7 _ _ _ _ _ hb e10 e11 he];rw[if_pos he]at hs;exact hs
    |false=>rw[za2 _ _ _ _ _ hb e10 e11 he];rw[if_neg (by simp[he])]at hs;exact hs
theorem go_rl(u:Un)(f:Fl)(deep:Int)(w:Wh):∀(l:List Nd),(∀x∈l,∀q∈x.kids,LR u f q)->∀(st:List Int)(set:List Bool)(all:List Int),Rl f.types.length st set all ->
 PR f.types.length all (l.flatMap Nd.outs) (shGo u f deep w st l) (r8go u f deep w all set l)
 |[],_,st,set,all,h=>by
  unfold shGo r8go
  exact⟨rfl,λ_=>⟨by simpa using h,λv hv=>by simp at hv⟩⟩
 |x::r,ih,st,set,all,h=>by
  unfold shGo r8go
  by_cases hd:deep > 100
  ·rw[if_pos hd,if_pos hd];exact .no
  ·rw[if_neg hd,if_neg hd];obtain⟨h1,h2⟩:=node_rl u f x (ih x (.head _)) deep w h;refine zz9 h1 λht=>?_;obtain⟨h3,h4⟩:=h2 ht
   by_cases hc:(z05 x != r.isEmpty)=true
   ·rw[if_pos hc,if_pos hc];exact .no
   ·rw[if_neg hc,if_neg hc];obtain⟨h5,h6⟩:=go_rl u f deep w r (λy hy=>ih y (.tail _ hy)) _ _ _ h3;refine⟨h5,λht2=>?_⟩;obtain⟨h7,h8⟩:=h6 ht2;refine⟨by simpa using h7,λv hv=>?_⟩;rw[Ey,Aw]at hv;rcases hv with hv|hv
    ·exact h4 v hv
    ·obtain⟨g1,g2,g3⟩:=h8 v hv;rw[Cg,Bm]at g3;exact⟨g1,g2,g3.1⟩
theorem j18(u:Un)(f:Fl):∀(N:Nat)(l:List Nd),SizeOf.sizeOf l<N->LR u f l
 |0,_,h=>absurd h (Ai _)
 |N+1,l,hN=>by
  intro deep w st set seen h;have ih:∀x∈l,∀q∈x.kids,LR u f q:=λx hx q hq=>j18 u f N q (Bb (zc4 hx rfl hq) (C3 hN));obtain⟨h1,h2⟩:=go_rl u f deep w l ih st set seen h;unfold z2m z22 ne andQ
  cases l with
  |nil =>
   simp only[List.isEmpty_nil,C2];unfold shGo
   simp[y94]
  |cons x r =>
   simp only[List.isEmpty_cons,Aj,Br];rw[h1]
   cases hg:(shGo u f deep w st (x::r)).1 with
   |false=>simp[hg]
   |true =>
    obtain⟨h3,h4⟩:=h2 hg;simp only[C2,y94];refine⟨by simp,λ_=>?_⟩;rw[y36];exact y7e h3 h4
theorem j46(u:Un)(f:Fl)(deep:Int)(w:Wh){st:List Int}{set:List Bool}{seen:List Int}(h:Rl f.types.length st set seen)(l:List Nd):(z22 u f deep w st l).1=(z2m u f deep w seen set l).1 :=
 ((j18 u f _ l (A7 _)) deep w st set seen h).1.symm
theorem start_rl{k n:Nat}(h:k<=n):Rl n (zn6 k n) (z5e k n) (iota k):=by
 refine⟨zw4 h,z4k h,λv hv=>?_,λv hv=>?_⟩
 ·simp only[z5e,zn6,At]
  by_cases e:v<k
  ·rw[An (by simpa using e),An (by simpa using e)];simp[E5,e]
  ·rw[Ay (by simpa using e),Ay (by simpa using e)];simp only[Ec,E5];rw[if_pos oM0,if_pos oM0];rfl
 ·have hc:(iota k).contains (v:Int)=decide (v<k):=by
   simp only[iota]
   by_cases e:v<k
   ·simp[e];exact⟨v,e,rfl⟩
   ·simp[e];intro x hx;omega
  rw[hc];simp only[zn6,At]
  by_cases e:v<k
  ·rw[An (by simpa using e)];simp[E5,e]
  ·rw[Ay (by simpa using e)];simp only[Ec,E5];rw[if_pos oM0];simp[e]
theorem yi8:∀l:List Int,l.any (λt=>!isTy t) = !l.all (λt=>t==1||t==2)
 |[]=>rfl
 |t::r=>by rw[Ga,D9,yi8 r,Bool.not_and];rfl
theorem j44(u:Un)(f:Fl)(h0:0<=f.params)(h1:f.params<=f.types.length):y1w u f=z5g u f:=by
 unfold y1w z5g;rw[j46 u f 1 z43 (start_rl (k:=f.params.toNat) oM0) f.body];have e1:decide (f.params<0)=false:=by simp;omega
 have e2:decide (f.params > f.types.length)=false:=by simp;omega
 have e3:=yi8 f.types;rw[e1,e2,e3]
 cases decide (f.params > 8)<;>cases decide ((f.types.length:Int) > 20000)<;>cases f.types.all (λt=>t==1||t==2)<;>simp
def nmA(l:List Ar):List (List UInt8):=l.map λa=>a.name.toList
def nmF(l:List Fl):List (List UInt8):=l.map λa=>a.name.toList
theorem y00(nm:ByteArray):∀(pre l:List Ar)(i:Int),(nm.toList∈nmA pre->i<=z0i nm (pre++l) i/\z0i nm (pre++l) i<i+pre.length)/\(nm.toList∉nmA pre->z0i nm (pre++l) i=z0i nm l (i+pre.length))
 |[],l,i=>by simp[nmA]
 |a::pre,l,i=>by
  obtain⟨h1,h2⟩:=y00 nm pre l (i+1);rw[B9,show z0i nm (a::(pre++l)) i=if (a.name.toList==nm.toList)=true then i else z0i nm (pre++l) (i+1)from rfl]
  by_cases e:a.name.toList=nm.toList
  ·have eb:(a.name.toList==nm.toList)=true:=by simpa using e
   rw[if_pos eb];refine⟨λ_=>⟨D8 _,by simp;omega⟩,λh=>absurd (by simp[nmA,e]) h⟩
  ·have eb:¬(a.name.toList==nm.toList)=true:=by simpa using e
   rw[if_neg eb];refine⟨λh=>?_,λh=>?_⟩
   ·have:nm.toList∈nmA pre:=by
     simp only[nmA,B3,Am]at h;exact h.resolve_left λh=>e h.symm
    have:=h1 this;simp only[Al];omega
   ·have:nm.toList∉nmA pre:=λhm=>h (by simp only[nmA,B3,Am];exact .inr hm);rw[h2 this]
    congr 1
    simp only[Al];omega
theorem zi2(nm:ByteArray):∀(pre l:List Fl)(i:Int),(nm.toList∈nmF pre->i<=z06 nm (pre++l) i/\z06 nm (pre++l) i<i+pre.length)/\(nm.toList∉nmF pre->z06 nm (pre++l) i=z06 nm l (i+pre.length))
 |[],l,i=>by simp[nmF]
 |a::pre,l,i=>by
  obtain⟨h1,h2⟩:=zi2 nm pre l (i+1);rw[B9,show z06 nm (a::(pre++l)) i=if (a.name.toList==nm.toList)=true then i else z06 nm (pre++l) (i+1)from rfl]
  by_cases e:a.name.toList=nm.toList
  ·have eb:(a.name.toList==nm.toList)=true:=by simpa using e
   rw[if_pos eb];refine⟨λ_=>⟨D8 _,by simp;omega⟩,λh=>absurd (by simp[nmF,e]) h⟩
  ·have eb:¬(a.name.toList==nm.toList)=true:=by simpa using e
   rw[if_neg eb];refine⟨λh=>?_,λh=>?_⟩
   ·have:nm.toList∈nmF pre:=by
     simp only[nmF,B3,Am]at h;exact h.resolve_left λh=>e h.symm
    have:=h1 this;simp only[Al];omega
   ·have:nm.toList∉nmF pre:=λhm=>h (by simp only[nmF,B3,Am];exact .inr hm);rw[h2 this]
    congr 1
    simp only[Al];omega
theorem j1w(nm:ByteArray)(l:List Fl):z06 nm l 0≥0↔nm.toList∈nmF l:=by
 obtain⟨h1,h2⟩:=zi2 nm l [] 0;rw[Cu]at h1 h2
 by_cases h:nm.toList∈nmF l
 ·exact⟨λ_=>h,λh=>(h1 h).1⟩
 ·refine⟨λh3=>?_,λh4=>absurd h4 h⟩;rw[h2 h]at h3;simp[z06]at h3
theorem array_at(nm:ByteArray)(pre r:List Ar)(a:Ar)(h:a.name.toList=nm.toList):z0i nm (pre++a::r) 0=pre.length↔nm.toList∉nmA pre:=by
 obtain⟨h1,h2⟩:=y00 nm pre (a::r) 0
 by_cases e:nm.toList∈nmA pre
 ·have:=h1 e;exact⟨λh=>by omega,λh=>absurd e h⟩
 ·refine⟨λ_=>e,λ_=>?_⟩;rw[h2 e];have eb:(a.name.toList==nm.toList)=true:=by simpa using h
  rw[show z0i nm (a::r) (0+pre.length)=if (a.name.toList==nm.toList)=true then(0+pre.length:Int)else z0i nm r (0+pre.length+1)from rfl,if_pos eb];omega
theorem place_at(nm:ByteArray)(pre r:List Fl)(a:Fl)(h:a.name.toList=nm.toList):z06 nm (pre++a::r) 0=pre.length↔nm.toList∉nmF pre:=by
 obtain⟨h1,h2⟩:=zi2 nm pre (a::r) 0
 by_cases e:nm.toList∈nmF pre
 ·have:=h1 e;exact⟨λh=>by omega,λh=>absurd e h⟩
 ·refine⟨λ_=>e,λ_=>?_⟩;rw[h2 e];have eb:(a.name.toList==nm.toList)=true:=by simpa using h
  rw[show z06 nm (a::r) (0+pre.length)=if (a.name.toList==nm.toList)=true then(0+pre.length:Int)else z06 nm r (0+pre.length+1)from rfl,if_pos eb];omega
theorem gA_iff(u:Un):∀(pre l:List Ar),u.arrays=pre++l->(r8gA u l pre.length=true↔(∀a∈l,zx3 a=true/\a.name.toList∉nmF u.flows/\a.name.toList∉nmA pre)/\(nmA l).Nodup)
 |pre,[],_=>by simp[r8gA,nmA]
 |pre,a::r,hu=>by
  have ih:=gA_iff u (pre++[a]) r (by simp[hu]);have hlen:(((pre++[a]).length:Nat):Int)=(pre.length:Int)+1:=by simp
  rw[hlen]at ih;rw[r8gA,A0,ih];have ha:gArr u a pre.length=true↔zx3 a=true/\a.name.toList∉nmA pre/\a.name.toList∉nmF u.flows:=by
   have h1:=array_at a.name pre r a rfl;have h2:=j1w a.name u.flows;rw[<- hu]at h1;unfold gArr zx3;simp only[A0,Bf,Cc,Ak,h1,h2];constructor
   ·rintro⟨⟨⟨⟨a1,a2⟩,a3⟩,a4⟩,a5⟩;exact⟨⟨⟨a1,a2⟩,a3⟩,a4,a5⟩
   ·rintro⟨⟨⟨a1,a2⟩,a3⟩,a4,a5⟩;exact⟨⟨⟨⟨a1,a2⟩,a3⟩,a4⟩,a5⟩
  rw[ha];constructor
  ·rintro⟨⟨b1,b2,b3⟩,b4,b5⟩;refine⟨λx hx=>?_,?_⟩
   ·rcases Am.1 hx with rfl|hx
    ·exact⟨b1,b3,b2⟩
    ·obtain⟨c1,c2,c3⟩:=b4 x hx;exact⟨c1,c2,λh=>c3 (by simp only[nmA,Cl,Aw];exact .inl h)⟩
   ·refine Ee.2 ⟨λh=>?_,b5⟩;obtain⟨x,hx,e⟩:=Bx.1 h;exact(b4 x hx).2.2 (by simp only[nmA,Cl,Aw,B3,Cs,Ag];exact .inr e)
  ·rintro⟨b1,b2⟩;have b3:=Ee.1 b2;obtain⟨c1,c2,c3⟩:=b1 a (.head _);refine⟨⟨c1,c3,c2⟩,λx hx=>?_,b3.2⟩;obtain⟨d1,d2,d3⟩:=b1 x (.tail _ hx);refine⟨d1,d2,λh=>?_⟩;simp only[nmA,Cl,Aw,B3,Cs,Ag]at h;rcases h with h|h
   ·exact d3 h
   ·exact b3.1 (Bx.2 ⟨x,hx,h⟩)
theorem gF_iff(u:Un):∀(pre l:List Fl),u.flows=pre++l->(r8gF u l pre.length=true↔(∀a∈l,zn7 a=true/\a.name.toList∉nmF pre)/\(nmF l).Nodup)
 |pre,[],_=>by simp[r8gF,nmF]
 |pre,a::r,hu=>by
  have ih:=gF_iff u (pre++[a]) r (by simp[hu]);have hlen:(((pre++[a]).length:Nat):Int)=(pre.length:Int)+1:=by simp
  rw[hlen]at ih;rw[r8gF,A0,ih];have ha:gFlw u a pre.length=true↔zn7 a=true/\a.name.toList∉nmF pre:=by
   have h1:=place_at a.name pre r a rfl;rw[<- hu]at h1;unfold gFlw zn7 isTy;simp only[A0,Bf,Cc,Ak,h1];constructor
   ·rintro⟨⟨⟨⟨a1,a2⟩,a3⟩,a4⟩,a5⟩;exact⟨⟨⟨⟨a1,a3⟩,a4⟩,a5⟩,a2⟩
   ·rintro⟨⟨⟨⟨a1,a3⟩,a4⟩,a5⟩,a2⟩;exact⟨⟨⟨⟨a1,a2⟩,a3⟩,a4⟩,a5⟩
  rw[ha];constructor
  ·rintro⟨⟨b1,b2⟩,b4,b5⟩;refine⟨λx hx=>?_,?_⟩
   ·rcases Am.1 hx with rfl|hx
    ·exact⟨b1,b2⟩
    ·obtain⟨c1,c3⟩:=b4 x hx;exact⟨c1,λh=>c3 (by simp only[nmF,Cl,Aw];exact .inl h)⟩
   ·refine Ee.2 ⟨λh=>?_,b5⟩;obtain⟨x,hx,e⟩:=Bx.1 h;exact(b4 x hx).2 (by simp only[nmF,Cl,Aw,B3,Cs,Ag];exact .inr e)
  ·rintro⟨b1,b2⟩;have b3:=Ee.1 b2;obtain⟨c1,c3⟩:=b1 a (.head _);refine⟨⟨c1,c3⟩,λx hx=>?_,b3.2⟩;obtain⟨d1,d3⟩:=b1 x (.tail _ hx);refine⟨d1,λh=>?_⟩;simp only[nmF,Cl,Aw,B3,Cs,Ag]at h;rcases h with h|h
   ·exact d3 h
   ·exact b3.1 (Bx.2 ⟨x,hx,h⟩)
def z2p(es:List (Value×PV)):List (List UInt8):=es.map λe=>match e.1 with
 |.string s=>s.toList
 |_=>[]
theorem y0p(s:ByteArray)(v:PV):∀(es:List (Value×PV)),Cnt es->(s.toList∈z2p es->z2p (mput (.string s) v es)=z2p es)/\(s.toList∉z2p es->z2p (mput (.string s) v es)=z2p es++[s.toList])
 |[],_=>by simp[z2p,mput]
 |(a,p)::r,h=>by
  have ha:=h.1 (a,p) (.head _);have hr:Cnt r:=⟨λe he=>h.1 e (.tail _ he),λe he=>h.2 e (.tail _ he)⟩;obtain⟨h1,h2⟩:=y0p s v r hr
  cases a with
  |string t =>
   simp only[mput]
   by_cases e:s.toList=t.toList
   ·have eb:keyB (.string s) (.string t)=true:=by simpa[keyB]using e
    rw[if_pos eb];exact⟨λ_=>by simp[z2p,e],λh=>absurd (by simp[z2p,e]) h⟩
   ·have eb:¬keyB (.string s) (.string t)=true:=by simpa[keyB]using e
    rw[if_neg eb];refine⟨λh=>?_,λh=>?_⟩
    ·have:s.toList∈z2p r:=by
      simp only[z2p,B3,Am]at h;exact h.resolve_left e
     have h3:=h1 this;simp only[z2p,B3]at h3⊢;rw[h3]
    ·have:s.toList∉z2p r:=λhm=>h (by simp only[z2p,B3,Am];exact .inr hm);have h3:=h2 this;simp only[z2p,B3,B9]at h3⊢
     rw[h3]
  |_=>simp[z1y]at ha
theorem y9v(s:ByteArray){es:List (Value×PV)}(h:Cnt es):(s.toList∈z2p es->z2p (bump s es)=z2p es)/\(s.toList∉z2p es->z2p (bump s es)=z2p es++[s.toList]):=by
 obtain⟨n,hn⟩:=h.find (.string s);rw[zh3 hn];exact y0p s _ es h
def y06(es:List (Value×PV))(l:List ByteArray):List (Value×PV):=l.foldl (λe s=>bump s e) es
def nmS(l:List ByteArray):List (List UInt8):=l.map ByteArray.toList
theorem y2y:∀(l:List ByteArray) (es:List (Value×PV)),Cnt es->(z2p (y06 es l)).length<=(z2p es).length+l.length /\
 ((z2p (y06 es l)).length=(z2p es).length+l.length↔(∀s∈l,s.toList∉z2p es)/\(nmS l).Nodup)
 |[],es,_=>by simp[y06,nmS]
 |s::r,es,h=>by
  obtain⟨ih1,ih2⟩:=y2y r (bump s es) (h.bump s);obtain⟨h1,h2⟩:=y9v s h;show(z2p (y06 (bump s es) r)).length<=_/\((z2p (y06 (bump s es) r)).length=_↔_)
  by_cases e:s.toList∈z2p es
  ·rw[h1 e]at ih1;refine⟨by simp only[Al];omega,λhl=>by simp only[Al]at hl;omega,λhb=>absurd e (hb.1 s (.head _))⟩
  ·have hk:=h2 e;rw[hk]at ih1 ih2;simp only[B5,Al,Az]at ih1 ih2⊢;refine⟨by omega,?_⟩;rw[show(z2p es).length+(r.length+1)=(z2p es).length+(0+1)+r.length by omega,ih2];constructor
   ·rintro⟨b1,b2⟩;refine⟨λx hx=>?_,Ee.2 ⟨λhm=>?_,b2⟩⟩
    ·rcases Am.1 hx with rfl|hx
     ·exact e
     ·exact λhm=>b1 x hx (Aw.2 (.inl hm))
    ·obtain⟨x,hx,he⟩:=Bx.1 hm;exact b1 x hx (by rw[he];simp)
   ·rintro⟨b1,b2⟩;have b3:=Ee.1 b2;refine⟨λx hx hm=>?_,b3.2⟩;rcases Aw.1 hm with hm|hm
    ·exact b1 x (.tail _ hx) hm
    ·exact b3.1 (Bx.2 ⟨x,hx,by simpa using hm⟩)
theorem j0e(u:Un):((y2x (y05 [] u.arrays) u.flows).length:Int)=u.arrays.length+u.flows.length↔(nmA u.arrays++nmF u.flows).Nodup:=by
 have e:y2x (y05 [] u.arrays) u.flows=y06 [] (u.arrays.map Ar.name++u.flows.map Fl.name):=by
  simp only[y2x,y05,y06,Dm,List.foldl_map]
 have hn:nmS (u.arrays.map Ar.name++u.flows.map Fl.name)=nmA u.arrays++nmF u.flows:=by
  simp only[nmS,nmA,nmF,Cl,Ed];rfl
 obtain⟨_,h2⟩:=y2y (u.arrays.map Ar.name++u.flows.map Fl.name) [] .nil;rw[e];simp only[z2p,A6,B5,Az,Bu]at h2;rw[<- hn];constructor
 ·intro h;exact(h2.1 oM0).2
 ·intro h;have:=h2.2 ⟨λs _=>by simp,h⟩;omega
theorem j45(u:Un):z9a u=z1g u:=by
 have hA:=gA_iff u [] u.arrays rfl;have hF:=gF_iff u [] u.flows rfl;simp only[Az]at hA hF;rw[D3];unfold z9a z1g;simp only[A0,Bg,Ak,j0e];rw[show((0:Nat):Int)=0 from rfl]at hA hF;rw[hA,hF,Cn];constructor
 ·rintro⟨⟨⟨a1,a2⟩,a3,a4,a5⟩,a6⟩;exact⟨⟨⟨λa ha=>⟨a1 a ha,λhm=>a5 _ (Bx.2 ⟨a,ha,rfl⟩) _ hm rfl,by simp[nmA]⟩,a3⟩,λf hf=>⟨a2 f hf,by simp[nmF]⟩,a4⟩,a6⟩
 ·rintro⟨⟨⟨a1,a3⟩,a2,a4⟩,a6⟩;refine⟨⟨⟨λa ha=>(a1 a ha).1,λf hf=>(a2 f hf).1⟩,a3,a4,λx hx y hy e=>?_⟩,a6⟩;obtain⟨a,ha,rfl⟩:=Bx.1 hx;exact(a1 a ha).2.1 (e▸hy)
theorem y4h(u:Un):∀(l:List Fl)(i:Int),(∀f∈l,0<=f.params/\f.params<=f.types.length)->za4 u l i=z5p u l i
 |[],_,_=>rfl
 |f::r,i,h=>by
  obtain⟨h1,h2⟩:=h f (.head _);simp only[za4,z5p,j44 u f h1 h2,y4h u r (i+1) (λf hf=>h f (.tail _ hf))]
theorem z99(u:Un):z4x u=z18 u:=by
 unfold z4x z18;rw[j45]
 cases h:z1g u with
 |false=>rfl
 |true=>simp only[C2];exact y4h u _ _ (z6x h)
def zg7(x:Nd):Bool:=x.kind==1||x.kind==2||x.kind==3||(x.kind==4&&x.op != 4&&x.op != 5)
def vKey(v:Int):Value:=.int .i64 v
theorem yj2(l:List Nd)(x:Nd):(l++[x]).map Nd.enc=l.map Nd.enc++[[vInt x.kind,vInt x.op,vInt x.n,vStr x.name,ints x.args,ints x.outs,ints x.params,kids x.kids]]:=by
 rw[Cl,B3,Cs,Nd.enc_eq,Nd.cells_eta]
theorem yk1:∀ks:List (List Nd),ks.length<=kdW ks
 |[]=>by simp
 |l::r=>by have:=yk1 r;simp only[kdW,Al];omega
def inR(n:Nat)(ds:List Int):Prop:=∀v∈ds,0<=v/\v<n
def Frs(set:List Bool)(ds:List Int):Prop:=ds.Nodup/\∀v∈ds,set.getD v.toNat false=false
def z34(set:List Bool)(ds:List Int):List Bool:=ds.foldl (λs v=>s.set v.toNat true) set
theorem z4c:∀(ds:List Int)(set:List Bool),(z34 set ds).length=set.length
 |[],_=>rfl
 |v::r,set=>by have:=z4c r (set.set v.toNat true);simpa[z34]using this
theorem zc9(set:List Bool)(a b:List Int):z34 set (a++b)=z34 (z34 set a) b:=by simp[z34]
theorem y0o{n:Nat}:∀(ds:List Int)(set:List Bool),set.length=n->inR n ds->∀v:Int,0<=v->v<n->(z34 set ds).getD v.toNat false=(ds.contains v||set.getD v.toNat false)
 |[],set,_,_,v,_,_=>by simp[z34]
 |d::r,set,hn,hr,v,h0,h1=>by
  have ih:=y0o r (set.set d.toNat true) (by simpa using hn) (λv hv=>hr v (.tail _ hv)) v h0 h1;obtain⟨d0,d1⟩:=hr d (.head _);show(z34 (set.set d.toNat true) r).getD v.toNat false=_;rw[ih,zl0,Et]
  by_cases e:v=d
  ·subst e;rw[if_pos ⟨rfl,by omega⟩];simp
  ·have e2:¬(d.toNat=v.toNat/\d.toNat<set.length):=by omega
   have e3:(v==d)=false:=by simpa using e
   rw[if_neg e2,e3,C9]
theorem y0f{n:Nat}{set:List Bool}{a b:List Int}(hn:set.length=n)(ha:inR n a)(hb:inR n b):Frs set (a++b)↔Frs set a/\Frs (z34 set a) b:=by
 unfold Frs;rw[Cn];constructor
 ·rintro⟨⟨h1,h2,h3⟩,h4⟩;refine⟨⟨h1,λv hv=>h4 v (by simp[hv])⟩,h2,λv hv=>?_⟩;rw[y0o a set hn ha v (hb v hv).1 (hb v hv).2,h4 v (by simp[hv])];have:a.contains v=false:=by
   rw[<- Du,List.contains_iff_mem];exact λhm=>h3 v hm v hv rfl
  rw[this];rfl
 ·rintro⟨⟨h1,h2⟩,h3,h4⟩;have hkey:∀v∈b,a.contains v=false/\set.getD v.toNat false=false:=λv hv=>by
   have:=h4 v hv;rw[y0o a set hn ha v (hb v hv).1 (hb v hv).2,Bm]at this;exact this
  refine⟨⟨h1,h3,λx hx y hy e=>?_⟩,λv hv=>?_⟩
  ·subst e;have:=(hkey x hy).1;rw[<- Du,List.contains_iff_mem]at this;exact this hx
  ·rcases Aw.1 hv with hv|hv
   ·exact h2 v hv
   ·exact(hkey v hv).2
def z5z(tys:List Int):List Int->List Int->Bool
 |[],[]=>true
 |v::r,w::ws=>z9b tys v w&&z5z tys r ws
 |_,_=>false
theorem z2x{tys:List Int}:∀{l want:List Int},z5z tys l want=true->inR tys.length l
 |[],[],_=>λv hv=>by simp at hv
 |[],_::_,h=>by simp[z5z]at h
 |_::_,[],h=>by simp[z5z]at h
 |x::r,w::ws,h=>by
  simp only[z5z,A0,z9b,B6]at h;intro v hv;rcases Am.1 hv with rfl|hv
  ·exact⟨h.1.1.1,h.1.1.2⟩
  ·exact z2x h.2 v hv
theorem zp0{tys:List Int}:∀{l want:List Int},z5z tys l want=true->l.length=want.length
 |[],[],_=>rfl
 |[],_::_,h=>by simp[z5z]at h
 |_::_,[],h=>by simp[z5z]at h
 |x::r,w::ws,h=>by
  simp only[z5z,A0]at h;simp[zp0 h.2]
theorem j01(tys:List Int)(set:List Bool)(v w:Int):z9r tys set v w=false↔z9b tys v w=true/\set.getD v.toNat false=false:=by
 unfold z9r z9b;simp only[Bm,Cc,A0,B6,B7];constructor
 ·rintro⟨⟨⟨h1,h2⟩,h3⟩,h4⟩;refine⟨⟨⟨by omega,by omega⟩,?_⟩,h3⟩
  cases hw:(w==0)with
  |true=>exact .inl rfl
  |false=>exact .inr (by simpa[bne,hw]using h4)
 ·rintro⟨⟨⟨h1,h2⟩,h4⟩,h3⟩;refine⟨⟨⟨by omega,by omega⟩,h3⟩,?_⟩;rcases h4 with h4|h4
  ·simp[bne,h4]
  ·rw[show(tys.getD v.toNat 0 != w)=false from by rw[bne,h4];rfl,Dk]
theorem y4f(tys:List Int):∀(l want:List Int)(set:List Bool),l.length=want.length->set.length=tys.length ->
 ((z2g tys set l want).1=true↔z5z tys l want=true/\Frs set l)/\((z2g tys set l want).1=true->(z2g tys set l want).2=z34 set l)
 |[],[],set,_,_=>by simp[z2g,z5z,Frs,z34]
 |[],_::_,_,h,_=>by simp at h
 |_::_,[],_,h,_=>by simp at h
 |x::r,w::ws,set,hl,hn=>by
  obtain⟨ih1,ih2⟩:=y4f tys r ws (set.set x.toNat true) (by simpa using hl) (by simpa using hn);simp only[z2g]
  cases hb:z9r tys set x w with
  |true =>
   simp only[C2,Aj,false_iff,not_and,false_implies,and_true];intro h1 h2;simp only[z5z,A0]at h1;have:=(j01 tys set x w).2 ⟨h1.1,h2.2 x (.head _)⟩
   rw[hb]at this;cases this
  |false =>
   obtain⟨b1,b2⟩:=(j01 tys set x w).1 hb;simp only[Aj,Br];refine⟨?_,λh=>ih2 h⟩;rw[ih1];simp only[z5z,b1,B0];refine Eh λhv=>?_;have hx:inR tys.length [x]:=λv hv=>by
    obtain rfl:=Ag.1 hv;simp only[z9b,A0,B6]at b1;exact⟨b1.1.1,b1.1.2⟩
   have:=y0f (a:=[x]) (b:=r) hn hx (z2x hv);rw[show x::r=[x]++r from rfl,this];exact⟨λh=>⟨⟨by simp,λv hv=>by obtain rfl:=Ag.1 hv;exact b2⟩,h⟩,λh=>h.2⟩
theorem y6c(tys:List Int)(set:List Bool)(l want:List Int)(hn:set.length=tys.length) :
 ((z1u tys set l want).1=true↔z5z tys l want=true/\Frs set l)/\((z1u tys set l want).1=true->(z1u tys set l want).2=z34 set l):=by
 unfold z1u
 by_cases hl:l.length=want.length
 ·have e:((l.length:Int)==want.length)=true:=by simp;omega
  rw[if_pos e];exact y4f tys l want set hl hn
 ·have e:¬((l.length:Int)==want.length)=true:=by simp;omega
  rw[if_neg e];refine⟨⟨λh=>(by cases h),λh=>absurd (zp0 h.1) hl⟩,λh=>by cases h⟩
structure SForm where
 b:Bool
 want:Option (List Int)
def SForm.run(s:SForm)(tys:List Int)(outs:List Int)(set:List Bool):Bool×List Bool:=match s.want with
 |some wt=>andS s.b set (z1u tys set outs wt)
 |none=>(s.b&&(outs.length:Int)==0,set)
def SForm.ok(s:SForm)(tys:List Int)(outs:List Int):Bool:=match s.want with
 |some wt=>s.b&&z5z tys outs wt
 |none=>s.b&&(outs.length:Int)==0
def z8r(u:Un)(f:Fl)(x:Nd)(seen:List Int)(w:Wh):SForm :=
 if x.kind==1 then⟨z08 f.types seen x.args [],some [1]⟩
 else if x.kind==2 then⟨(x.n==0||x.n==1)&&z08 f.types seen x.args [],some [2]⟩
 else if x.kind==3 then⟨z2u x.op&&z08 f.types seen x.args [(z0f x.op).1],some [(z0f x.op).2]⟩
 else if x.kind==4 then⟨z3q x.op&&z08 f.types seen x.args [(z0f x.op).1,(z0f x.op).1]&&f.types.getD (x.args.getD 0 0).toNat 0==f.types.getD (x.args.getD 1 0).toNat 0,some [(z0f x.op).2]⟩
 else if x.kind==5 then⟨decide (z0i x.name u.arrays 0≥0)&&z08 f.types seen x.args [1],some [1]⟩
 else if x.kind==6 then⟨decide (z0i x.name u.arrays 0≥0)&&z08 f.types seen x.args [1,1],none⟩
 else if x.kind==7 then(if decide (z06 x.name u.flows 0≥0)=true then match u.flows[(z06 x.name u.flows 0).toNat]? with
  |some g=>⟨z08 f.types seen x.args (g.types.take g.params.toNat),some [g.ty]⟩
  |none=>⟨false,none⟩
  else⟨false,none⟩)
 else if x.kind==8 then⟨(x.args.length:Int)==0,some [1]⟩
 else if x.kind==9 then⟨z08 f.types seen x.args [1],none⟩
 else if x.kind==12 then⟨w.If&&z08 f.types seen x.args w.Yield,none⟩
 else if x.kind==13 then⟨w.Loop&&z08 f.types seen x.args w.Next,none⟩
 else if x.kind==14 then⟨w.Loop&&z08 f.types seen x.args w.Left,none⟩
 else if x.kind==15 then⟨z08 f.types seen x.args [f.ty],none⟩
 else⟨false,none⟩
theorem yg2(u:Un)(f:Fl)(set:List Bool)(x:Nd)(seen:List Int)(w:Wh):z1i u f set x seen w=(z8r u f x seen w).run f.types x.outs set:=by
 unfold z1i z8r zd3
 by_cases k1:(x.kind==1)=true
 ·rw[if_pos k1,if_pos k1];rfl
 rw[if_neg k1,if_neg k1]
 by_cases k2:(x.kind==2)=true
 ·rw[if_pos k2,if_pos k2];rfl
 rw[if_neg k2,if_neg k2]
 by_cases k3:(x.kind==3)=true
 ·rw[if_pos k3,if_pos k3];rfl
 rw[if_neg k3,if_neg k3]
 by_cases k4:(x.kind==4)=true
 ·rw[if_pos k4,if_pos k4];rfl
 rw[if_neg k4,if_neg k4]
 by_cases k5:(x.kind==5)=true
 ·rw[if_pos k5,if_pos k5];rfl
 rw[if_neg k5,if_neg k5]
 by_cases k6:(x.kind==6)=true
 ·rw[if_pos k6,if_pos k6];rfl
 rw[if_neg k6,if_neg k6]
 by_cases k7:(x.kind==7)=true
 ·rw[if_pos k7,if_pos k7]
  by_cases hp:decide (z06 x.name u.flows 0≥0)=true
  ·rw[if_pos hp,if_pos hp]
   cases u.flows[(z06 x.name u.flows 0).toNat]? with
   |none=>rfl
   |some g=>rfl
  ·rw[if_neg hp,if_neg hp];rfl
 rw[if_neg k7,if_neg k7]
 by_cases k8:(x.kind==8)=true
 ·rw[if_pos k8,if_pos k8];rfl
 rw[if_neg k8,if_neg k8]
 by_cases k9:(x.kind==9)=true
 ·rw[if_pos k9,if_pos k9];rfl
 rw[if_neg k9,if_neg k9]
 by_cases k12:(x.kind==12)=true
 ·rw[if_pos k12,if_pos k12];rfl
 rw[if_neg k12,if_neg k12]
 by_cases k13:(x.kind==13)=true
 ·rw[if_pos k13,if_pos k13];rfl
 rw[if_neg k13,if_neg k13]
 by_cases k14:(x.kind==14)=true
 ·rw[if_pos k14,if_pos k14];rfl
 rw[if_neg k14,if_neg k14]
 by_cases k15:(x.kind==15)=true
 ·rw[if_pos k15,if_pos k15];rfl
 rw[if_neg k15,if_neg k15];rfl
theorem run_iff{tys outs:List Int}{set:List Bool}(s:SForm)(hn:set.length=tys.length):((s.run tys outs set).1=true↔s.ok tys outs=true/\Frs set outs)/\((s.run tys outs set).1=true->(s.run tys outs set).2=z34 set outs):=by
 obtain⟨b,want⟩:=s
 cases want with
 |some wt =>
  obtain⟨h1,h2⟩:=y6c tys set outs wt hn;simp only[SForm.run,SForm.ok,andS]
  cases b with
  |false=>simp
  |true=>simp only[C2,B0];exact⟨h1,h2⟩
 |none =>
  simp only[SForm.run,SForm.ok];constructor
  ·constructor
   ·intro h;refine⟨h,?_⟩;simp only[A0,Ak]at h;have:outs=[]:=Au oM0;subst this;exact⟨by simp,λv hv=>by simp at hv⟩
   ·exact λh=>h.1
  ·intro h;simp only[A0,Ak]at h;have:outs=[]:=Au oM0;subst this;rfl
theorem ok_in{tys outs:List Int}{s:SForm}(h:s.ok tys outs=true):inR tys.length outs:=by
 obtain⟨b,want⟩:=s
 cases want with
 |some wt=>simp only[SForm.ok,A0]at h;exact z2x h.2
 |none =>
  simp only[SForm.ok,A0,Ak]at h;have:outs=[]:=Au oM0;subst this;exact λv hv=>by simp at hv
mutual
def dN:Nd->List Int
 |.mk _ _ _ _ _ outs params ks=>params++(dK ks++outs)
def dL:List Nd->List Int
 |[]=>[]
 |x::r=>dN x++dL r
def dK:List (List Nd)->List Int
 |[]=>[]
 |l::r=>dL l++dK r
end
theorem y70(x:Nd):dN x=x.params++(dK x.kids++x.outs):=by cases x;simp[dN,Nd.params,Nd.kids,Nd.outs]
def zer(l:List Int):List Int:=List.replicate l.length 0
def w1(w:Wh)(f:Fl)(x:Nd):Wh:=⟨true,w.Loop,r8of f.types x.outs,w.Next,w.Left⟩
def w2(f:Fl)(x:Nd):Wh:=⟨false,true,[],r8of f.types x.params,r8of f.types x.outs⟩
def y5j(x:Nd):Bool:=(x.outs.length:Int)==0 || !z05 x
mutual
def z82(u:Un)(f:Fl)(deep:Int)(w:Wh)(seen:List Int):Nd->Bool
 |.mk kind op n name args outs params kids =>
  z1k (.mk kind op n name args outs params kids) &&
  (if kind==10 then
   match kids with
   |a::b::_=>z08 f.types seen args [2]&&(!a.isEmpty&&vGo u f (deep+1) (w1 w f (.mk kind op n name args outs params kids)) seen a)&&(!b.isEmpty&&vGo u f (deep+1) (w1 w f (.mk kind op n name args outs params kids)) seen b) &&
    y5j (.mk kind op n name args outs params kids)&&z5z f.types outs (zer outs)
   |_=>false
  else if kind==11 then
   match kids with
   |a::_=>z08 f.types seen args (r8of f.types params)&&z5z f.types params (zer params)&&(!a.isEmpty&&vGo u f (deep+1) (w2 f (.mk kind op n name args outs params kids)) (seen++params) a) &&
    y5j (.mk kind op n name args outs params kids)&&z5z f.types outs (zer outs)
   |_=>false
  else(z8r u f (.mk kind op n name args outs params kids) seen w).ok f.types outs)
def vGo(u:Un)(f:Fl)(deep:Int)(w:Wh)(all:List Int):List Nd->Bool
 |[]=>true
 |x::r=>!decide (deep > 100)&&z82 u f deep w all x&&(z05 x==r.isEmpty)&&vGo u f deep w (all++x.outs) r
end
def z4r(u:Un)(f:Fl)(deep:Int)(w:Wh)(all:List Int)(l:List Nd):Bool:=!l.isEmpty&&vGo u f deep w all l
theorem z6k(u:Un)(f:Fl)(deep:Int)(w:Wh)(seen:List Int){x:Nd}{a b:List Nd}(h:z1k x=true)(hk:x.kind=10)(hx:x.kids=[a,b]) :
 z82 u f deep w seen x=(z08 f.types seen x.args [2]&&z4r u f (deep+1) (w1 w f x) seen a&&z4r u f (deep+1) (w1 w f x) seen b&&y5j x&&z5z f.types x.outs (zer x.outs)):=by
 cases x
 simp only[Nd.kind,Nd.kids]at hk hx;subst hk hx;unfold z82;simp only[h,B0,Nd.args,Nd.outs];rfl
theorem z4s(u:Un)(f:Fl)(deep:Int)(w:Wh)(seen:List Int){x:Nd}{a:List Nd}(h:z1k x=true)(hk:x.kind=11)(hx:x.kids=[a]) :
 z82 u f deep w seen x=(z08 f.types seen x.args (r8of f.types x.params)&&z5z f.types x.params (zer x.params)&&z4r u f (deep+1) (w2 f x) (seen++x.params) a&&y5j x&&z5z f.types x.outs (zer x.outs)):=by
 cases x
 simp only[Nd.kind,Nd.kids]at hk hx;subst hk hx;unfold z82;simp only[h,B0,Nd.args,Nd.outs,Nd.params];rfl
theorem z1c(u:Un)(f:Fl)(deep:Int)(w:Wh)(seen:List Int){x:Nd}(h:z1k x=true)(h1:(x.kind==10)=false)(h2:(x.kind==11)=false) :
 z82 u f deep w seen x=(z8r u f x seen w).ok f.types x.outs:=by
 cases x
 simp only[Nd.kind]at h1 h2;unfold z82;simp only[h,B0,Nd.outs,h1,h2,Aj,Br]
theorem z2r(u:Un)(f:Fl)(deep:Int)(w:Wh)(seen:List Int){x:Nd}(h:z82 u f deep w seen x=true):z1k x=true:=by
 cases x
 unfold z82 at h;simp only[A0]at h;exact h.1
theorem y03{x:Nd}(h:z1k x=true)(hk:(x.kind==11)=false):x.params=[]:=by
 simp only[z1k,A0,hk,C9,Ak]at h;exact Au oM0
theorem z61{x:Nd}(h:z1k x=true)(h1:(x.kind==10)=false)(h2:(x.kind==11)=false):x.kids=[]:=by
 have:=zi3 h;simp only[r8kn,h1,h2,Aj,Br]at this;exact Au oM0
theorem y71{x:Nd}(h:z1k x=true)(h1:(x.kind==10)=false)(h2:(x.kind==11)=false):dN x=x.outs:=by
 rw[y70,y03 h h2,z61 h h1 h2];rfl
theorem dN_if{x:Nd}{a b:List Nd}(h:z1k x=true)(hk:x.kind=10)(hx:x.kids=[a,b]):dN x=dL a++(dL b++x.outs):=by
 rw[y70,y03 h (by rw[hk];rfl),hx];simp[dK]
theorem y9z{x:Nd}{a:List Nd}(hx:x.kids=[a]):dN x=x.params++(dL a++x.outs):=by
 rw[y70,hx];simp[dK]
theorem zq3{n:Nat}{a b:List Int}:inR n (a++b)↔inR n a/\inR n b :=
 ⟨λh=>⟨λv hv=>h v (by simp[hv]),λv hv=>h v (by simp[hv])⟩,λh v hv=>(Aw.1 hv).elim (h.1 v) (h.2 v)⟩
theorem zx9{n:Nat}{set:List Bool}{a b d:List Int}(hn:set.length=n)(ha:inR n a)(hb:inR n b)(hd:inR n d):Frs set (a++(b++d))↔Frs set a/\Frs (z34 set a) b/\Frs (z34 (z34 set a) b) d:=by
 rw[y0f hn ha (zq3.2 ⟨hb,hd⟩),y0f ((z4c a set).trans hn) hb hd]
def RG(u:Un)(f:Fl)(l:List Nd):Prop:=∀(deep:Int)(w:Wh)(all:List Int),vGo u f deep w all l=true->inR f.types.length (dL l)
theorem yb9(u:Un)(f:Fl)(x:Nd)(ih:∀q∈x.kids,RG u f q)(deep:Int)(w:Wh)(seen:List Int)(h:z82 u f deep w seen x=true):inR f.types.length (dN x):=by
 have hb:=z2r u f deep w seen h
 by_cases h10:x.kind=10
 ·obtain⟨a,b,hk⟩:=z3f hb h10;rw[z6k u f deep w seen hb h10 hk]at h;simp only[A0,z4r]at h;rw[dN_if hb h10 hk];exact zq3.2 ⟨ih a (by rw[hk];simp) _ _ _ h.1.1.1.2.2,zq3.2 ⟨ih b (by rw[hk];simp) _ _ _ h.1.1.2.2,z2x h.2⟩⟩
 ·by_cases h11:x.kind=11
  ·obtain⟨a,hk⟩:=z25 hb h11;rw[z4s u f deep w seen hb h11 hk]at h;simp only[A0,z4r]at h;rw[y9z hk];exact zq3.2 ⟨z2x h.1.1.1.2,zq3.2 ⟨ih a (by rw[hk];simp) _ _ _ h.1.1.2.2,z2x h.2⟩⟩
  ·have e10:(x.kind==10)=false:=by simpa using h10
   have e11:(x.kind==11)=false:=by simpa using h11
   rw[z1c u f deep w seen hb e10 e11]at h;rw[y71 hb e10 e11];exact ok_in h
theorem go_in(u:Un)(f:Fl):∀(l:List Nd),(∀x∈l,∀q∈x.kids,RG u f q)->RG u f l
 |[],_=>λ_ _ _ _ v hv=>by simp[dL]at hv
 |x::r,ih=>λdeep w all h=>by
  simp only[vGo,A0]at h;exact zq3.2 ⟨yb9 u f x (ih x (.head _)) _ _ _ h.1.1.2,go_in u f r (λy hy=>ih y (.tail _ hy)) _ _ _ h.2⟩
theorem rg_all(u:Un)(f:Fl):∀(N:Nat)(l:List Nd),SizeOf.sizeOf l<N->RG u f l
 |0,_,h=>absurd h (Ai _)
 |N+1,l,hN=>go_in u f l λx hx q hq=>rg_all u f N q (Bb (zc4 hx rfl hq) (C3 hN))
theorem rg(u:Un)(f:Fl)(l:List Nd):RG u f l:=rg_all u f _ l (A7 _)
def CH(u:Un)(f:Fl)(l:List Nd):Prop:=∀(deep:Int)(w:Wh)(seen:List Int)(set:List Bool),set.length=f.types.length ->
 ((z2m u f deep w seen set l).1=true↔z4r u f deep w seen l=true/\Frs set (dL l))/\((z2m u f deep w seen set l).1=true->(z2m u f deep w seen set l).2=z34 set (dL l))
theorem z54{q:Bool×List Bool}{k:List Bool->Bool×List Bool}:((andT q k).1=true↔q.1=true/\(k q.2).1=true)/\((andT q k).1=true->(andT q k).2=(k q.2).2):=by
 unfold andT
 cases q.1 with
 |false=>simp
 |true=>simp
theorem j0h(f:Fl)(x:Nd)(set:List Bool)(hn:set.length=f.types.length):((zg3 f x set).1=true↔(y5j x=true/\z5z f.types x.outs (zer x.outs)=true)/\Frs set x.outs)/\((zg3 f x set).1=true->(zg3 f x set).2=z34 set x.outs):=by
 obtain⟨h1,h2⟩:=y6c f.types set x.outs (zer x.outs) hn;unfold zg3 andS;show((if y5j x=true then _ else _:Bool×List Bool).1=true↔_)/\_
 by_cases ho:y5j x=true
 ·simp only[ho,C2,true_and];exact⟨h1,λh=>by
   have ho2:((x.outs.length:Int)==0 || !z05 x)=true:=ho;rw[if_pos ho2]at h⊢;exact h2 h⟩
 ·have ho2:¬((x.outs.length:Int)==0 || !z05 x)=true:=ho;rw[if_neg ho,if_neg ho2];simp[ho]
theorem node_iff(u:Un)(f:Fl)(x:Nd)(ih:∀q∈x.kids,CH u f q)(deep:Int)(w:Wh)(seen:List Int)(set:List Bool)(hn:set.length=f.types.length) :
 ((z4z u f deep w seen set x).1=true↔z82 u f deep w seen x=true/\Frs set (dN x))/\((z4z u f deep w seen set x).1=true->(z4z u f deep w seen set x).2=z34 set (dN x)):=by
 cases hb:z1k x with
 |false =>
  rw[zi4 _ _ _ _ _ _ hb];refine⟨⟨λh=>(by cases h),λh=>?_⟩,λh=>by cases h⟩;have:=z2r u f deep w seen h.1
  rw[hb]at this;cases this
 |true =>
  by_cases h10:x.kind=10
  ·obtain⟨a,b,hk⟩:=z3f hb h10;rw[y14 _ _ _ _ _ _ hb h10 hk,z6k u f deep w seen hb h10 hk,dN_if hb h10 hk,show(⟨true,w.Loop,r8of f.types x.outs,w.Next,w.Left⟩:Wh)=w1 w f x from rfl]
   by_cases ht:z08 f.types seen x.args [2]=true
   ·rw[if_pos ht];obtain⟨a1,a2⟩:=ih a (by rw[hk];simp) (deep+1) (w1 w f x) seen set hn;have hna:(z34 set (dL a)).length=f.types.length:=(z4c _ _).trans hn;obtain⟨b1,b2⟩:=ih b (by rw[hk];simp) (deep+1) (w1 w f x) seen (z34 set (dL a)) hna;have hnb:(z34 (z34 set (dL a)) (dL b)).length=f.types.length:=(z4c _ _).trans hna;obtain⟨e1,e2⟩:=j0h f x (z34 (z34 set (dL a)) (dL b)) hnb;have key:(andT (z2m u f (deep+1) (w1 w f x) seen set a) (λs1=>andT (z2m u f (deep+1) (w1 w f x) seen s1 b) λs2=>zg3 f x s2)).1=true ↔
     (z2m u f (deep+1) (w1 w f x) seen set a).1=true/\(z2m u f (deep+1) (w1 w f x) seen (z34 set (dL a)) b).1=true/\(zg3 f x (z34 (z34 set (dL a)) (dL b))).1=true:=by
     rw[z54.1];refine Eh λh=>?_;rw[a2 h,z54.1];exact Eh λh2=>by rw[b2 h2]
    refine⟨?_,λh=>?_⟩
    ·rw[key,a1,b1,e1];simp only[ht,B0,A0];constructor
     ·rintro⟨⟨c1,c2⟩,⟨c3,c4⟩,⟨c5,c6⟩,c7⟩;have ra:=rg u f a _ _ _ (by simp only[z4r,A0]at c1;exact c1.2);have rb:=rg u f b _ _ _ (by simp only[z4r,A0]at c3;exact c3.2);exact⟨⟨⟨⟨c1,c3⟩,c5⟩,c6⟩,(zx9 hn ra rb (z2x c6)).2 ⟨c2,c4,c7⟩⟩
     ·rintro⟨⟨⟨⟨c1,c3⟩,c5⟩,c6⟩,c7⟩;have ra:=rg u f a _ _ _ (by simp only[z4r,A0]at c1;exact c1.2);have rb:=rg u f b _ _ _ (by simp only[z4r,A0]at c3;exact c3.2);obtain⟨d1,d2,d3⟩:=(zx9 hn ra rb (z2x c6)).1 c7;exact⟨⟨c1,d1⟩,⟨c3,d2⟩,⟨c5,c6⟩,d3⟩
    ·obtain⟨k1,k2,k3⟩:=key.1 h;have h':=(z54.1.1 h).2;rw[z54.2 h,a2 k1];rw[a2 k1]at h';rw[z54.2 h',b2 k2,e2 k3,zc9,zc9]
   ·rw[if_neg ht];refine⟨⟨λh=>(by cases h),λh=>?_⟩,λh=>by cases h⟩;simp only[A0]at h;exact absurd h.1.1.1.1.1 ht
  ·by_cases h11:x.kind=11
   ·obtain⟨a,hk⟩:=z25 hb h11;rw[zi5 _ _ _ _ _ _ hb h11 hk,z4s u f deep w seen hb h11 hk,y9z hk,show(⟨false,true,[],r8of f.types x.params,r8of f.types x.outs⟩:Wh)=w2 f x from rfl,show List.replicate x.params.length 0=zer x.params from rfl]
    by_cases ht:z08 f.types seen x.args (r8of f.types x.params)=true
    ·rw[if_pos ht];obtain⟨a1,a2⟩:=y6c f.types set x.params (zer x.params) hn;have hna:(z34 set x.params).length=f.types.length:=(z4c _ _).trans hn;obtain⟨b1,b2⟩:=ih a (by rw[hk];simp) (deep+1) (w2 f x) (seen++x.params) (z34 set x.params) hna;have hnb:(z34 (z34 set x.params) (dL a)).length=f.types.length:=(z4c _ _).trans hna;obtain⟨e1,e2⟩:=j0h f x (z34 (z34 set x.params) (dL a)) hnb;have key:(andT (z1u f.types set x.params (zer x.params)) (λs1=>andT (z2m u f (deep+1) (w2 f x) (seen++x.params) s1 a) λs2=>zg3 f x s2)).1=true ↔
      (z1u f.types set x.params (zer x.params)).1=true/\(z2m u f (deep+1) (w2 f x) (seen++x.params) (z34 set x.params) a).1=true/\(zg3 f x (z34 (z34 set x.params) (dL a))).1=true:=by
      rw[z54.1];refine Eh λh=>?_;rw[a2 h,z54.1];exact Eh λh2=>by rw[b2 h2]
     refine⟨?_,λh=>?_⟩
     ·rw[key,a1,b1,e1];simp only[ht,B0,A0];constructor
      ·rintro⟨⟨c1,c2⟩,⟨c3,c4⟩,⟨c5,c6⟩,c7⟩;have rb:=rg u f a _ _ _ (by simp only[z4r,A0]at c3;exact c3.2);exact⟨⟨⟨⟨c1,c3⟩,c5⟩,c6⟩,(zx9 hn (z2x c1) rb (z2x c6)).2 ⟨c2,c4,c7⟩⟩
      ·rintro⟨⟨⟨⟨c1,c3⟩,c5⟩,c6⟩,c7⟩;have rb:=rg u f a _ _ _ (by simp only[z4r,A0]at c3;exact c3.2);obtain⟨d1,d2,d3⟩:=(zx9 hn (z2x c1) rb (z2x c6)).1 c7;exact⟨⟨c1,d1⟩,⟨c3,d2⟩,⟨c5,c6⟩,d3⟩
     ·obtain⟨k1,k2,k3⟩:=key.1 h;have h':=(z54.1.1 h).2;rw[z54.2 h,a2 k1];rw[a2 k1]at h';rw[z54.2 h',b2 k2,e2 k3,zc9,zc9]
    ·rw[if_neg ht];refine⟨⟨λh=>(by cases h),λh=>?_⟩,λh=>by cases h⟩;simp only[A0]at h;exact absurd h.1.1.1.1.1 ht
   ·have e10:(x.kind==10)=false:=by simpa using h10
    have e11:(x.kind==11)=false:=by simpa using h11
    rw[z9u _ _ _ _ _ _ hb e10 e11,z1c u f deep w seen hb e10 e11,y71 hb e10 e11,yg2];exact run_iff _ hn
theorem go_iff(u:Un)(f:Fl)(deep:Int)(w:Wh):∀(l:List Nd),(∀x∈l,∀q∈x.kids,CH u f q)->∀(all:List Int)(set:List Bool),set.length=f.types.length ->
 ((r8go u f deep w all set l).1=true↔vGo u f deep w all l=true/\Frs set (dL l))/\((r8go u f deep w all set l).1=true->(r8go u f deep w all set l).2=z34 set (dL l))
 |[],_,all,set,_=>by simp[r8go,vGo,dL,Frs,z34]
 |x::r,ih,all,set,hn=>by
  obtain⟨n1,n2⟩:=node_iff u f x (ih x (.head _)) deep w all set hn;have hm:(z34 set (dN x)).length=f.types.length:=(z4c _ _).trans hn;obtain⟨r1,r2⟩:=go_iff u f deep w r (λy hy=>ih y (.tail _ hy)) (all++x.outs) (z34 set (dN x)) hm;unfold r8go vGo
  by_cases hd:deep > 100
  ·rw[if_pos hd];simp[hd]
  ·rw[if_neg hd];have hdb:(!decide (deep > 100))=true:=by simpa using hd
   by_cases hc:(z05 x != r.isEmpty)=true
   ·have hcb:(z05 x==r.isEmpty)=false:=by
     cases hcc:(z05 x==r.isEmpty)with
     |false=>rfl
     |true=>simp[bne,hcc]at hc
    simp only[if_pos hc,hcb,Dk,Cy,Aj,false_and,iff_false,Du];have:(andT (z4z u f deep w all set x) λs1=>(false,s1)).1=false:=by
     unfold andT;split<;>rfl
    exact⟨this,λh=>by rw[this]at h;cases h⟩
   ·have hcb:(z05 x==r.isEmpty)=true:=by
     cases hcc:(z05 x==r.isEmpty)with
     |true=>rfl
     |false=>simp[bne,hcc]at hc
    simp only[if_neg hc,hcb,hdb,B0,C8,A0];have key:(andT (z4z u f deep w all set x) λs1=>r8go u f deep w (all++x.outs) s1 r).1=true↔(z4z u f deep w all set x).1=true/\(r8go u f deep w (all++x.outs) (z34 set (dN x)) r).1=true:=by
     rw[z54.1];exact Eh λh=>by rw[n2 h]
    refine⟨?_,λh=>?_⟩
    ·rw[key,n1,r1];constructor
     ·rintro⟨⟨c1,c2⟩,c3,c4⟩;exact⟨⟨c1,c3⟩,(y0f hn (yb9 u f x (λq _=>rg u f q) _ _ _ c1) (rg u f r _ _ _ c3)).2 ⟨c2,c4⟩⟩
     ·rintro⟨⟨c1,c3⟩,c4⟩;obtain⟨d1,d2⟩:=(y0f hn (yb9 u f x (λq _=>rg u f q) _ _ _ c1) (rg u f r _ _ _ c3)).1 c4;exact⟨⟨c1,d1⟩,c3,d2⟩
    ·obtain⟨k1,k2⟩:=key.1 h;rw[z54.2 h,n2 k1,r2 k2];show _=z34 set (dN x++dL r);rw[zc9]
theorem ch_all(u:Un)(f:Fl):∀(N:Nat)(l:List Nd),SizeOf.sizeOf l<N->CH u f l
 |0,_,h=>absurd h (Ai _)
 |N+1,l,hN=>by
  intro deep w seen set hn;obtain⟨h1,h2⟩:=go_iff u f deep w l (λx hx q hq=>ch_all u f N q (Bb (zc4 hx rfl hq) (C3 hN))) seen set hn;unfold z2m ne z4r
  cases l with
  |nil=>simp
  |cons x r=>simpa using⟨h1,h2⟩
theorem ze6(u:Un)(f:Fl)(l:List Nd)(deep:Int)(w:Wh)(seen:List Int)(set:List Bool)(hn:set.length=f.types.length):(z2m u f deep w seen set l).1=true↔z4r u f deep w seen l=true/\Frs set (dL l) :=
 (ch_all u f _ l (A7 _) deep w seen set hn).1
theorem zh8{x:Nd}(h:zg7 x=true):(x.kind=1∨x.kind=2∨x.kind=3∨x.kind=4):=by
 simp only[zg7,B7,A0,Ak]at h;rcases h with((h|h)|h)|h
 ·exact .inl h
 ·exact .inr (.inl h)
 ·exact .inr (.inr (.inl h))
 ·exact .inr (.inr (.inr h.1.1))
theorem j0v{x:Nd}(h:zg7 x=true):(x.kind==10)=false/\(x.kind==11)=false/\z05 x=false/\z2l x=false:=by
 have hk:=zh8 h;have h10:(x.kind==10)=false:=by simp;omega
 have h11:(x.kind==11)=false:=by simp;omega
 have h14:(x.kind==14)=false:=by simp;omega
 refine⟨h10,h11,?_,?_⟩
 ·simp only[z05,h10,h11,Cy,Aj,Br,z0x];simp;omega
 ·rw[z4d,h10,h14];rfl
theorem dL_app:∀(a b:List Nd),dL (a++b)=dL a++dL b
 |[],_=>rfl
 |x::r,b=>by simp only[B9,dL,dL_app r b,Ce]
theorem y39:∀(a b:List Nd),z0k (a++b)=(z0k a||z0k b)
 |[],b=>by simp[z0k]
 |x::r,b=>by simp only[B9,z0k,y39 r b,Bool.or_assoc]
def Oks(B:Int)(s:Rs):Prop:=0<=s.fuel/\0<=s.cost/\s.cost+s.fuel<=B
def Live(s:Rs):Prop:=s.spent=false/\s.st=0
def dec(s:Rs):Rs:={ s with fuel:=s.fuel-1 }
def gone(s:Rs):Rs:={ s with spent:=true }
def bmp(s:Rs):Rs:={ s with cost:=s.cost+1 }
theorem j5f{n:Int}(h:0<=n)(h2:n<=4611686018427387904):w64 n=n:=Cz n oM0
theorem z88{s:Rs}:z0z s=false↔Live s:=by
 unfold z0z Live;simp
theorem z0r{s:Rs}(h:Live s):z0z s=false:=z88.2 h
theorem zk3{s:Rs}{B:Int}(hB:B<=4611686018427387903)(ho:Oks B s):z5x s=bmp s:=by
 obtain⟨h1,h2,h3⟩:=ho;unfold z5x bmp;rw[j5f oM0 oM0]
theorem y4l{s:Rs}{B:Int}(hB:B<=4611686018427387903)(ho:Oks B s)(hl:Live s):(s.fuel<1/\z9o s=(false,gone s))∨(1<=s.fuel/\z9o s=(true,dec s)):=by
 obtain⟨h1,h2,h3⟩:=ho;unfold z9o;rw[z0r hl];simp only[Aj,Br]
 by_cases h:s.fuel<1
 ·rw[if_pos h];exact .inl ⟨h,rfl⟩
 ·rw[if_neg h,j5f oM0 oM0];exact .inr ⟨by omega,rfl⟩
theorem yj7{u:Un}{d:Nat}{x:Nd}{l:List Nd}{a:List Int}{s:Rs}{r:Rres}{B:Int}(hB:B<=4611686018427387903)(h:z1v u d (x::l) a s=some r)(ho:Oks B s)(hl:Live s) :
 ∃d1,d=d1+1/\((s.fuel<1/\r=((0,[]),a,gone s))∨(1<=s.fuel/\∃p r1,mOf a x.args=some p/\z5m (z1v u d1) (z3h u d1) (mSum u d1) x p a (dec s)=some r1/\(if z0z r1.2.2||r1.1.1 != 0 then some r1 else z1v u d1 l r1.2.1 r1.2.2)=some r)):=by
 obtain⟨d1,rfl,h2⟩:=z7g rfl h;refine⟨d1,rfl,?_⟩;rcases y4l hB ho hl with⟨h3,h4⟩|⟨h3,h4⟩
 ·rw[h4]at h2;rcases h2 with⟨_,h2⟩|⟨h2,_⟩
  ·exact .inl ⟨h3,h2⟩
  ·cases h2
 ·rw[h4]at h2;rcases h2 with⟨h2,_⟩|⟨_,h2⟩
  ·cases h2
  ·exact .inr ⟨h3,h2⟩
def hc(x:Nd):Nat:=if x.kind=3∨x.kind=4 then 1 else 0
def zf8(x:Nd)(p:List Int):Option Int :=
 if x.kind=1∨x.kind=2 then some x.n
 else if x.kind=3 then(p[0]?).map λa=>mOne x.op a
 else(p[0]?).bind λa=>(p[1]?).map λb=>(mTwo x.op a b).1
def HL(x:Nd):Prop:=zg7 x=true/\(x.kind=4->z3q x.op=true)/\x.outs≠[]
def hRun(x:Nd)(a a2:List Int):Prop:=∃p y o,mOf a x.args=some p/\zf8 x p=some y/\x.outs[0]?=some o/\setV a o y=some a2
theorem two_ok{op a b:Int}(h:z3q op=true)(h4:op≠4)(h5:op≠5):(mTwo op a b).2=true:=by
 simp only[z3q,A0,B6]at h;have:op=1∨op=2∨op=3∨op=6∨op=7∨op=8∨op=9∨op=10∨op=11∨op=12∨op=13∨op=14∨op=15∨op=16∨op=17:=by omega
 rcases this with rfl|rfl|rfl|rfl|rfl|rfl|rfl|rfl|rfl|rfl|rfl|rfl|rfl|rfl|rfl<;>rfl
def hSt(x:Nd)(s:Rs):Rs:={ s with cost:=s.cost+hc x }
theorem hc_01(x:Nd):hc x=0∨hc x=1:=by unfold hc;split<;>simp
theorem hSt0{x:Nd}{s:Rs}(h:hc x=0):hSt x s=s:=by unfold hSt;rw[h];simp
theorem ys0{u:Un}{d:Nat}{x:Nd}{p a:List Int}{s:Rs}{r:Rres}{B:Int}(hB:B<=4611686018427387903)(ho:Oks B s)(hl:Live s)(hx:HL x)(h:z5m (z1v u d) (z3h u d) (mSum u d) x p a s=some r) :
 ∃y o a2,zf8 x p=some y/\x.outs[0]?=some o/\setV a o y=some a2/\r=((0,[]),a2,hSt x s):=by
 obtain⟨h1,h2,h3⟩:=hx;obtain⟨n10,n11,_,_⟩:=j0v h1;have hk:=zh8 h1;rcases hk with hk|hk|hk|hk
 iterate 2
  obtain⟨o,v2,g1,g2,rfl⟩:=z6q h (by rw[hk];rfl);exact⟨x.n,o,v2,by simp[zf8,hk],g1,g2,by rw[hSt0];simp[hc,hk]⟩
 ·obtain⟨r1,g1,g2⟩:=z6r h (by rw[hk];rfl) (by rw[hk];rfl) n10 n11;obtain⟨d',rfl⟩:=z6g g1;obtain⟨a0,g3,rfl⟩:=z9p g1 (by rw[hk];rfl);rw[zk3 hB ho]at g2;have hov:z0z (bmp s)=false:=z0r hl;rw[hov]at g2;have hlen:0<x.outs.length:=Cw.2 h3;simp only[Dl,B0,C6 hlen,C2,Ah,A1]at g2;obtain⟨o,g4,v2,g5,rfl⟩:=g2;exact⟨_,o,v2,by simp[zf8,hk,g3],g4,g5,by simp[hSt,hc,hk,bmp]⟩
 ·have h4:=h2 hk;have hop:x.op≠4/\x.op≠5:=by
   simp only[zg7,hk]at h1;simpa using h1
  obtain⟨r1,g1,g2⟩:=z6r h (by rw[hk];rfl) (by rw[hk];rfl) n10 n11;obtain⟨d',rfl⟩:=z6g g1;obtain⟨a0,a1,g3,g3',rfl⟩:=z86 g1 (by rw[hk];rfl);rw[two_ok h4 hop.1 hop.2,if_pos rfl,zk3 hB ho]at g2;have hov:z0z (bmp s)=false:=z0r hl;rw[hov]at g2;have hlen:0<x.outs.length:=Cw.2 h3;simp only[Dl,B0,C6 hlen,C2,Ah,A1]at g2;obtain⟨o,g4,v2,g5,rfl⟩:=g2;exact⟨_,o,v2,by simp[zf8,hk,g3,g3'],g4,g5,by simp[hSt,hc,hk,bmp]⟩
structure Ext(B:Int)(s t:Rs):Prop where
 ok:Oks B t
 out:s.out <+: t.out
 ar:t.ar.length=s.ar.length
 fuel:t.fuel<=s.fuel
theorem Ext.rfl{B:Int}{s:Rs}(h:Oks B s):Ext B s s:=⟨h,Ch _,Eq.refl _,D8 _⟩
theorem Ext.trans{B:Int}{s t w:Rs}(h:Ext B s t)(h2:Ext B t w):Ext B s w:=⟨h2.ok,h.out.trans h2.out,h2.ar.trans h.ar,Int.le_trans h2.fuel h.fuel⟩
theorem z9l{s:Rs}{k n:Int}{q:Bool×Rs}(h:zc6 s k n=some q):(q=(false,{ s with st:=3 }))∨q=(true,s):=by
 unfold zc6 at h;split at h
 ·cases h;exact .inl (Eq.refl _)
 ·split at h
  ·obtain⟨row,h1,h2⟩:=Ah.1 h;split at h2
   ·cases h2;exact .inl (Eq.refl _)
   ·cases h2;exact .inr (Eq.refl _)
  ·cases h
theorem sum_ext{u:Un}{d:Nat}{x:Nd}{p:List Int}{s:Rs}{r:Int×Rs}{B:Int}(hB:B<=4611686018427387903)(ho:Oks B s)(ho1:s.cost+s.fuel+1<=B)
 (hC:∀d' k a r,d=d'+1->z40 u d' k a (bmp s)=some r->Ext B (bmp s) r.2) (h:mSum u d x p s=some r):Ext B s r.2:=by
 obtain⟨d',rfl⟩:=z6g h;have hb:Oks B (bmp s):=⟨ho.1,by have:=ho.2.1;show 0<=s.cost+1;omega,by show s.cost+1+s.fuel<=B;omega⟩;have e:=zk3 hB ho;have E0:Ext B s (bmp s):=⟨hb,Ch _,Eq.refl _,D8 _⟩;have ne:∀{i:Int},x.kind≠i->(x.kind==i)=false:=λh=>Ad.2 h
 by_cases k3:x.kind=3
 ·obtain⟨a0,_,rfl⟩:=z9p h (Ak.2 k3);rw[e];exact E0
 by_cases k4:x.kind=4
 ·obtain⟨a0,a1,_,_,rfl⟩:=z86 h (Ak.2 k4);rw[e];split
  ·exact E0
  ·exact⟨hb,Ch _,Eq.refl _,D8 _⟩
 by_cases k5:x.kind=5
 ·obtain⟨a0,b,s',_,h2,h3⟩:=z7h h k5;rw[e]at h2 h3;rcases h3 with⟨rfl,rfl⟩|⟨rfl,row,y,_,_,rfl⟩
  ·rcases z9l h2 with h4|h4
   ·obtain⟨_,rfl⟩:=Eg h4;exact⟨hb,Ch _,Eq.refl _,D8 _⟩
   ·cases(Eg h4).1
  ·exact E0
 by_cases k6:x.kind=6
 ·obtain⟨a0,b,s',_,h2,h3⟩:=z67 h k6;rw[e]at h2 h3;rcases h3 with⟨rfl,rfl⟩|⟨rfl,row,y,_,_,rfl⟩
  ·rcases z9l h2 with h4|h4
   ·obtain⟨_,rfl⟩:=Eg h4;exact⟨hb,Ch _,Eq.refl _,D8 _⟩
   ·cases(Eg h4).1
  ·exact⟨hb,Ch _,by simp[bmp],D8 _⟩
 by_cases k7:x.kind=7
 ·have h2:=zc8 h (Ak.2 k7);rw[e]at h2;exact E0.trans (hC _ _ _ _ (Eq.refl _) h2)
 by_cases k9:x.kind=9
 ·obtain⟨a0,_,_,rfl⟩:=z7i h (Ak.2 k9);rw[e];exact⟨hb,List.prefix_append _ _,Eq.refl _,D8 _⟩
 by_cases k8:x.kind=8
 ·rcases z8w h (Ak.2 k8)with⟨_,rfl⟩|⟨y,q,_,rfl⟩<;>rw[e]<;>exact⟨hb,Ch _,Eq.refl _,D8 _⟩
 ·obtain rfl:=z8v h (ne k3) (ne k4) (ne k5) (ne k6) (ne k7) (ne k9) (ne k8);rw[e];exact E0
theorem z4t{s:Rs}{B:Int}(ho:Oks B s)(h:1<=s.fuel):Oks B (dec s)/\(dec s).cost+(dec s).fuel+1<=B:=by
 obtain⟨h1,h2,h3⟩:=ho;refine⟨⟨?_,h2,?_⟩,?_⟩
 ·show 0<=s.fuel-1;omega
 ·show s.cost+(s.fuel-1)<=B;omega
 ·show s.cost+(s.fuel-1)+1<=B;omega
theorem j1t{u:Un}{d:Nat}{l:List Nd}{a:List Int}{s:Rs}{r:Rres}(h:z1v u d l a s=some r)(ho:z0z s=true):r=((0,[]),a,s):=by
 cases l with
 |nil=>exact y3e h
 |cons x l =>
  obtain⟨d1,rfl,h2⟩:=z7g rfl h;have:z9o s=(false,s):=by unfold z9o;rw[ho];rfl
  rw[this]at h2;rcases h2 with⟨_,h2⟩|⟨h2,_⟩
  ·exact h2
  ·cases h2
theorem y4w(u:Un){B:Int}(hB:B<=4611686018427387903):∀d,
 (∀l a s r,z1v u d l a s=some r->Oks B s->Ext B s r.2.2)/\(∀x p a s r,z3h u d x p a s=some r->Oks B s->Ext B s r.2.2) /\
 (∀k p s r,z40 u d k p s=some r->Oks B s->Ext B s r.2)/\∀x p s r,mSum u d x p s=some r->Oks B s->s.cost+s.fuel+1<=B->Ext B s r.2
 |0=>⟨λ_ _ _ _ h=>by simp[z1v]at h,λ_ _ _ _ _ h=>by simp[z3h]at h,λ_ _ _ _ h=>by simp[z40]at h,λ_ _ _ _ h=>by simp[mSum]at h⟩
 |d+1=>by
  obtain⟨i1,i2,i3,i4⟩:=y4w u hB d;refine⟨λl a s r h ho=>?_,λx p a s r h ho=>?_,λk p s r h ho=>?_,λx p s r h ho ho1=>?_⟩
  ·cases l with
   |nil=>rw[y3e h];exact Ext.rfl ho
   |cons x l =>
    cases hov:z0z s with
    |true=>rw[j1t h hov];exact Ext.rfl ho
    |false =>
     obtain⟨d1,e,h2⟩:=yj7 hB h ho (z88.1 hov);obtain rfl:d1=d:=by omega
     rcases h2 with⟨_,rfl⟩|⟨hf,p,r1,_,h3,h4⟩
     ·exact⟨ho,Ch _,rfl,D8 _⟩
     ·obtain⟨o1,o2⟩:=z4t ho hf;have E0:Ext B s (dec s):=⟨o1,Ch _,rfl,by show s.fuel-1<=s.fuel;omega⟩;have E1:Ext B (dec s) r1.2.2:=by
       unfold z5m at h3;split at h3
       ·simp only[Ah,A1]at h3;obtain⟨o,_,v',_,rfl⟩:=h3;exact Ext.rfl o1
       split at h3
       ·cases h3;exact Ext.rfl o1
       split at h3
       ·simp only[Ah]at h3;obtain⟨a0,_,q,_,r2,h5,h6⟩:=h3;have h7:=i1 _ _ _ _ h5 o1;split at h6
        ·simp only[A1]at h6;obtain⟨v',_,rfl⟩:=h6;exact h7
        ·cases h6;exact h7
       split at h3
       ·exact i2 _ _ _ _ _ h3 o1
       ·simp only[Ah]at h3;obtain⟨r2,h5,h6⟩:=h3;have h7:=i4 _ _ _ _ h5 o1 o2;split at h6
        ·simp only[Ah,A1]at h6;obtain⟨o,_,v',_,rfl⟩:=h6;exact h7
        ·cases h6;exact h7
      split at h4
      ·cases h4;exact E0.trans E1
      ·exact(E0.trans E1).trans (i1 _ _ _ _ h4 E1.ok)
  ·obtain⟨d1,v2,q,r1,e,_,_,h3,h4⟩:=z4m h;obtain rfl:d1=d:=by omega
   have E1:=i1 _ _ _ _ h3 ho;split at h4
   ·cases h4;exact E1
   split at h4
   ·simp only[A1]at h4;obtain⟨v',_,rfl⟩:=h4;exact E1
   ·exact E1.trans (i2 _ _ _ _ _ h4 E1.ok)
  ·obtain⟨d1,f,r1,e,_,_,_,_,h3,rfl⟩:=z65 h;obtain rfl:d1=d:=by omega
   exact i1 _ _ _ _ h3 ho
  ·refine sum_ext hB ho ho1 (λd' k a r e h2=>?_) h;obtain rfl:d'=d:=by omega
   have hb:Oks B (bmp s):=⟨ho.1,by have:=ho.2.1;show 0<=s.cost+1;omega,by show s.cost+1+s.fuel<=B;omega⟩;exact i3 _ _ _ _ h2 hb
theorem z84{u:Un}{d:Nat}{l:List Nd}{a:List Int}{s:Rs}{r:Rres}{B:Int}(hB:B<=4611686018427387903)(h:z1v u d l a s=some r)(ho:Oks B s):Ext B s r.2.2:=(y4w u hB d).1 _ _ _ _ h ho
theorem zk5{u:Un}{d:Nat}{x:Nd}{p a:List Int}{s:Rs}{r:Rres}{B:Int}(hB:B<=4611686018427387903)(h:z3h u d x p a s=some r)(ho:Oks B s):Ext B s r.2.2:=(y4w u hB d).2.1 _ _ _ _ _ h ho
theorem ya2{u:Un}{d:Nat}{x:Nd}{p:List Int}{s:Rs}{r:Int×Rs}{B:Int}(hB:B<=4611686018427387903)(h:mSum u d x p s=some r)(ho:Oks B s)(ho1:s.cost+s.fuel+1<=B):Ext B s r.2:=(y4w u hB d).2.2.2 _ _ _ _ h ho ho1
section
def I64(y:Int):Prop:=-9223372036854775808<=y/\y<=9223372036854775807
def P64(p:List Int):Prop:=∀y∈p,I64 y
def Rg(s:Rs):Prop:=P64 s.ins/\∀row∈s.ar,P64 row
def Two(x:Nd)(p:List Int)(y:Int):Prop:=x.kind=4->∃a0 a1,p[0]?=some a0/\p[1]?=some a1/\mTwo x.op a0 a1=(y,true)
structure KF where
 k:Int
 outs:List Int
 rest:List Nd
mutual
def nsz:Nd->Nat
 |.mk _ _ _ _ _ _ _ ks=>1+kdz ks
def lsz:List Nd->Nat
 |[]=>0
 |x::r=>nsz x+lsz r
def kdz:List (List Nd)->Nat
 |[]=>0
 |l::r=>lsz l+kdz r
end
theorem y3i(x:Nd):nsz x=1+kdz x.kids:=by cases x;simp[nsz,Nd.kids]
def ksz:List KF->Nat
 |[]=>0
 |f::K=>lsz f.rest+ksz K
abbrev VR:=List Int->List Int->Prop
abbrev ER:=Int->List Int->List Int->List Int->List Int->Prop
def setO(outs a:List Int)(y:Int)(a2:List Int):Prop:=match outs with
 |[]=>a2=a
 |o::_=>setV a o y=some a2
inductive LRel:Nat->Nat->VR->List Nd->List KF->List Nd->ER->Prop
 |dead {I l K l' E}:(∀a b,¬I a b)->LRel 0 0 I l K l' E
 |weak {k c I I' l K l' E}:(∀a b,I a b->I' a b)->LRel k c I' l K l' E->LRel k c I l K l' E
 |both {k c I J x x' l K l' E}:HL x->HL x'->hc x'<=hc x->(∀a b a2 b2,I a b->hRun x a a2->hRun x' b b2->J a2 b2)->LRel k c J l K l' E->LRel k c I (x::l) K (x'::l') E
 |skip {k c I J x l K l' E}:HL x->(∀a b a2,I a b->hRun x a a2->J a2 b)->LRel k c J l K l' E->LRel k c I (x::l) K l' E
 |drop {I J x l K l' E}:x.kind=4->x.outs≠[]->(∀a b p a0 a1,I a b->mOf a x.args=some p->p[0]?=some a0->p[1]?=some a1->(mTwo x.op a0 a1).2=true)->(∀a b a2,I a b->hRun x a a2->J a2 b)->LRel 0 0 J l K l' E->LRel 0 0 I (x::l) K l' E
 |paid {k c I J x l K l' E}:HL x->(∀a b a2,I a b->hRun x a a2->J a2 b)->l≠[]->LRel k c J l K l' E->LRel (k+1) (c+hc x) I (x::l) K l' E
 |add {k c I J x' l K l' E}:HL x'->l≠[]->(∀a b b2,I a b->hRun x' b b2->J a b2)->LRel (k+1) (c+hc x') J l K l' E->LRel k c I l K (x'::l') E
 |eff {I J x x' l K l' E}:(x.kind≠1/\x.kind≠2/\x.kind≠10/\x.kind≠11/\x.kind≠12/\x.kind≠13/\x.kind≠14/\x.kind≠15)->x'.kind=x.kind->x'.op=x.op->x'.name=x.name->x'.outs.length=x.outs.length ->
  (∀a b p,I a b->mOf a x.args=some p->P64 p)->(∀a b p p',I a b->mOf a x.args=some p->mOf b x'.args=some p'->p'=p)->(∀a b p a2 b2 y,I a b->mOf b x'.args=some p->I64 y->Two x p y->setO x.outs a y a2->setO x'.outs b y b2->J a2 b2)->LRel 0 0 J l K l' E->LRel 0 0 I (x::l) K (x'::l') E
 |ite {I J E2 x x' q0 q1 q0' q1' l K l' E}:x.kind=10->x'.kind=10->x.kids=[q0,q1]->x'.kids=[q0',q1']->(∀a b p p',I a b->mOf a x.args=some p->mOf b x'.args=some p'->p'[0]?=p[0]?) ->
  LRel 0 0 I q0 [] q0' E2->LRel 0 0 I q1 [] q1' E2 ->
  (∀n p p' a b,E2 n p p' a b->(n=12/\∀a2 b2,mSet a x.outs p=some a2->mSet b x'.outs p'=some b2->J a2 b2)∨(n≠12/\n≠0/\(K=[]∨n=15)/\E n p p' a b)) ->
  LRel 0 0 J l K l' E->LRel 0 0 I (x::l) K (x'::l') E
 |loop {k c I I2 J E2 x x' q q' l K l' E}:x.kind=11->x'.kind=11->x.kids=[q]->x'.kids=[q'] ->
  (∀a b p p' a2 b2,I a b->mOf a x.args=some p->mOf b x'.args=some p'->mSet a x.params p=some a2->mSet b x'.params p'=some b2->I2 a2 b2) ->
  LRel k c I2 q [] q' E2 ->
  (∀n p p' a b,E2 n p p' a b->(n=15/\E 15 p p' a b)∨(n=14/\∀a2 b2,mSet a x.outs p=some a2->mSet b x'.outs p'=some b2->J a2 b2)∨(n=13/\∀a2 b2,mSet a x.params p=some a2->mSet b x'.params p'=some b2->I2 a2 b2)) ->
  LRel 0 0 J l K l' E->LRel k c I (x::l) K (x'::l') E
 |ender {I x x' l K l' E}:12<=x.kind->x.kind<=15->x'.kind=x.kind->(K=[]∨x.kind=15)->(∀a b p p',I a b->mOf a x.args=some p->mOf b x'.args=some p'->E x.kind p p' a b)->LRel 0 0 I (x::l) K (x'::l') E
 |once {k c I J x q l K l' E}:x.kind=11->x.kids=[q]->(∀a b p a2,I a b->mOf a x.args=some p->mSet a x.params p=some a2->J a2 b)->LRel k c J q (⟨14,x.outs,l⟩::K) l' E->LRel k c I (x::l) K l' E
 |leave {k c I J y l f K l' E}:y.kind=f.k->f.k=12∨f.k=14->(∀a b p a2,I a b->mOf a y.args=some p->mSet a f.outs p=some a2->J a2 b)->LRel k c J f.rest K l' E->LRel k c I (y::l) (f::K) l' E
 |fork {k c I x q0 q1 l K l' E}:x.kind=10->x.kids=[q0,q1]->LRel k c I q0 (⟨12,x.outs,l⟩::K) l' E->LRel k c I q1 (⟨12,x.outs,l⟩::K) l' E->LRel k c I (x::l) K l' E
theorem LRel.nil{k c:Nat}{I:VR}{l:List Nd}{K:List KF}{l':List Nd}{E:ER}(h:LRel k c I l K l' E):l=[]->k=0:=by
 induction h with
 |dead _=>exact λ_=>rfl
 |weak _ _ ih=>exact ih
 |add _ h1 _ _ _=>exact λe=>absurd e h1
 |_=>intro e;cases e
def KFin(u:Un)(D:Nat):List KF->Rres->Rres->Prop
 |[],r1,r=>r=r1
 |f::K,r1,r=>if r1.1.1=15 then r=r1 else if r1.1.1=f.k then ∃a2 d r2,d<=D/\mSet r1.2.1 f.outs r1.1.2=some a2/\z1v u d f.rest a2 r1.2.2=some r2/\(if z0z r2.2.2=true then r=r2 else KFin u D K r2 r)else r1.2.2.out <+: r.2.2.out
def KRun(u:Un)(D:Nat)(l:List Nd)(K:List KF)(a:List Int)(s:Rs)(r:Rres):Prop:=∃d r1,d<=D/\z1v u d l a s=some r1/\(if z0z r1.2.2=true then r=r1 else KFin u D K r1 r)
def KNext(u:Un)(D:Nat)(l:List Nd)(K:List KF)(r1 r:Rres):Prop:=(z0z r1.2.2=true/\r=r1)∨(Live r1.2.2/\r1.1.1≠0/\KFin u D K r1 r)∨(Live r1.2.2/\r1.1.1=0/\KRun u D l K r1.2.1 r1.2.2 r)
section
variable {u:Un} {D:Nat} {l:List Nd} {K:List KF} {a:List Int} {s:Rs} {r:Rres} {B:Int}
theorem KFin.out(hB:B<=4611686018427387903):∀{K:List KF}{r1 r:Rres},KFin u D K r1 r->Oks B r1.2.2->r1.2.2.out <+: r.2.2.out
 |[],r1,r,h,ho=>by obtain rfl:r=r1:=h;exact Ch _
 |f::K,r1,r,h,ho=>by
  unfold KFin at h;split at h
  ·subst h;exact Ch _
  split at h
  ·obtain⟨a2,d,r2,_,_,h2,h3⟩:=h;have e:=z84 hB h2 ho;split at h3
   ·subst h3;exact e.out
   ·exact e.out.trans (KFin.out hB h3 e.ok)
  ·exact h
theorem KRun.out(hB:B<=4611686018427387903)(h:KRun u D l K a s r)(ho:Oks B s):s.out <+: r.2.2.out:=by
 obtain⟨d,r1,_,h1,h2⟩:=h;have e:=z84 hB h1 ho;split at h2
 ·subst h2;exact e.out
 ·exact e.out.trans (KFin.out hB h2 e.ok)
theorem KNext.out{r1:Rres}(hB:B<=4611686018427387903)(h:KNext u D l K r1 r)(ho:Oks B r1.2.2):r1.2.2.out <+: r.2.2.out:=by
 rcases h with⟨_,rfl⟩|⟨_,_,h⟩|⟨_,_,h⟩
 ·exact Ch _
 ·exact KFin.out hB h ho
 ·exact h.out hB ho
theorem zq4{x:Nd}(hB:B<=4611686018427387903)(h:KRun u D (x::l) K a s r)(ho:Oks B s)(hl:Live s) :
 (s.fuel<1/\r=((0,[]),a,gone s))∨(1<=s.fuel/\∃d1 p r1,d1<D/\mOf a x.args=some p/\z5m (z1v u d1) (z3h u d1) (mSum u d1) x p a (dec s)=some r1/\KNext u D l K r1 r):=by
 obtain⟨d,r0,hd,h1,h2⟩:=h;obtain⟨d1,rfl,h3⟩:=yj7 hB h1 ho hl;rcases h3 with⟨h3,rfl⟩|⟨h3,p,r1,h4,h5,h6⟩
 ·rw[if_pos (by simp[z0z,gone])]at h2;exact .inl ⟨h3,h2⟩
 ·refine .inr ⟨h3,d1,p,r1,hd,h4,h5,?_⟩
  cases hov:z0z r1.2.2 with
  |true =>
   rw[hov]at h6
   cases h6
   rw[if_pos hov]at h2
   exact .inl ⟨hov,h2⟩
  |false =>
   rw[hov]at h6
   by_cases hk:r1.1.1=0
   ·rw[hk]at h6;exact .inr (.inr ⟨z88.1 hov,hk,d1,r0,by omega,h6,h2⟩)
   ·have:(false||r1.1.1 != 0)=true:=by simpa using hk
    rw[if_pos this]at h6
    cases h6
    rw[if_neg (by rw[hov];decide)]at h2;exact .inr (.inl ⟨z88.1 hov,hk,h2⟩)
theorem z79(hl:Live s):Live (dec s):=hl
theorem y57{x:Nd}(hl:Live s):Live (hSt x s):=hl
theorem zm4{x:Nd}(ho:Oks B s)(h:1<=s.fuel):Oks B (hSt x (dec s)):=by
 obtain⟨h1,h2,h3⟩:=ho;have:=hc_01 x;refine⟨?_,?_,?_⟩
 ·show 0<=s.fuel-1;omega
 ·show 0<=s.cost+(hc x:Int);omega
 ·show s.cost+(hc x:Int)+(s.fuel-1)<=B;omega
theorem y7f{x:Nd}(hB:B<=4611686018427387903)(hx:HL x)(h:KRun u D (x::l) K a s r)(ho:Oks B s)(hl:Live s) :
 (s.fuel<1/\r=((0,[]),a,gone s))∨(1<=s.fuel/\∃a2,hRun x a a2/\KRun u D l K a2 (hSt x (dec s)) r):=by
 rcases zq4 hB h ho hl with h1|⟨h1,d1,p,r1,_,h2,h3,h4⟩
 ·exact .inl h1
 ·obtain⟨y,o,a2,g1,g2,g3,rfl⟩:=ys0 hB (z4t ho h1).1 (z79 hl) hx h3;refine .inr ⟨h1,a2,⟨p,y,o,h2,g1,g2,g3⟩,?_⟩;rcases h4 with⟨h5,_⟩|⟨_,h5,_⟩|⟨_,_,h5⟩
  ·have:z0z (hSt x (dec s))=false:=z0r hl;rw[show(((0,[]),a2,hSt x (dec s)):Rres).2.2=hSt x (dec s)from rfl,this]at h5
   cases h5
  ·exact absurd rfl h5
  ·exact h5
theorem j0f{x:Nd}(hB:B<=4611686018427387903)(h4:x.kind=4)(hou:x.outs≠[])(hok:∀p a0 a1,mOf a x.args=some p->p[0]?=some a0->p[1]?=some a1->(mTwo x.op a0 a1).2=true)(h:KRun u D (x::l) K a s r)(ho:Oks B s)(hl:Live s) :
 (s.fuel<1/\r=((0,[]),a,gone s))∨(1<=s.fuel/\∃a2,hRun x a a2/\KRun u D l K a2 (hSt x (dec s)) r):=by
 rcases zq4 hB h ho hl with h1|⟨h1,d1,p,r1,_,h2,h3,h5⟩
 ·exact .inl h1
 ·obtain⟨q,g1,g2⟩:=z6r h3 (by rw[h4];rfl) (by rw[h4];rfl) (by rw[h4];rfl) (by rw[h4];rfl);obtain⟨d',rfl⟩:=z6g g1;obtain⟨a0,a1,g3,g3',rfl⟩:=z86 g1 (by rw[h4];rfl);have ho1:=(z4t ho h1).1;rw[hok p a0 a1 h2 g3 g3',if_pos rfl,zk3 hB ho1]at g2;have hov:z0z (bmp (dec s))=false:=z0r hl;rw[hov]at g2;have hlen:0<x.outs.length:=Cw.2 hou;simp only[Dl,B0,C6 hlen,C2,Ah,A1]at g2;obtain⟨o,g4,v2,g5,rfl⟩:=g2;refine .inr ⟨h1,v2,⟨p,_,o,h2,by simp[zf8,h4,g3,g3'],g4,g5⟩,?_⟩;have eS:hSt x (dec s)=bmp (dec s):=by simp[hSt,hc,h4,bmp]
  rw[eS];rcases h5 with⟨h5,_⟩|⟨_,h5,_⟩|⟨_,_,h5⟩
  ·rw[show(((0,[]),v2,bmp (dec s)):Rres).2.2=bmp (dec s)from rfl,hov]at h5
   cases h5
  ·exact absurd rfl h5
  ·exact h5
theorem y82{x:Nd}{q:List Nd}(hB:B<=4611686018427387903)(hx:x.kind=11)(hq:x.kids=[q])(h:KRun u D (x::l) K a s r)(ho:Oks B s)(hl:Live s) :
 (s.fuel<1/\r=((0,[]),a,gone s))∨(1<=s.fuel/\∃p a2,mOf a x.args=some p/\mSet a x.params p=some a2/\KRun u D q (⟨14,x.outs,l⟩::K) a2 (dec s) r):=by
 rcases zq4 hB h ho hl with h1|⟨h1,d1,p,r1,hd,h2,h3,h4⟩
 ·exact .inl h1
 ·have h5:=z66 h3 (by rw[hx];rfl);have ho1:=(z4t ho h1).1;obtain⟨d2,v2,q2,r2,rfl,g1,g2,g3,g4⟩:=z4m h5;rw[hq]at g2;obtain rfl:q=q2:=by simpa using g2
  refine .inr ⟨h1,p,v2,h2,g1,d2,r2,by omega,g3,?_⟩;have e:=z84 hB g3 ho1
  cases hov:z0z r2.2.2 with
  |true =>
   rw[hov]at g4
   cases g4
   rw[if_pos rfl];rcases h4 with⟨_,h4⟩|⟨h4,_⟩|⟨h4,_⟩
   ·exact h4
   iterate 2
    rw[z0r h4]at hov;cases hov
  |false =>
   rw[hov]at g4;rw[if_neg dC0];unfold KFin
   by_cases k15:r2.1.1=15
   ·rw[k15]at g4
    cases g4
    rw[if_pos k15];rcases h4 with⟨h4,_⟩|⟨_,_,h4⟩|⟨_,h4,_⟩
    ·rw[hov]at h4;cases h4
    ·cases K with
     |nil=>exact h4
     |cons f K=>unfold KFin at h4;rw[if_pos k15]at h4;exact h4
    ·rw[k15]at h4;exact absurd h4 dC0
   ·rw[if_neg k15];have n15:(false||r2.1.1==15)=false:=by simpa using k15
    rw[n15,if_neg dC0]at g4
    by_cases k14:r2.1.1=14
    ·rw[if_pos k14];rw[if_pos (by rw[k14];rfl)]at g4;obtain⟨v3,g5,rfl⟩:=A1.1 g4;rcases h4 with⟨h4,_⟩|⟨_,h4,_⟩|⟨_,_,d3,r3,h6,h7,h8⟩
     ·rw[show(((0,[]),v3,r2.2.2):Rres).2.2=r2.2.2 from rfl,hov]at h4;cases h4
     ·exact absurd rfl h4
     ·exact⟨v3,d3,r3,h6,g5,h7,h8⟩
    ·rw[if_neg k14];rw[if_neg (by simpa using k14)]at g4;have e2:=zk5 hB g4 e.ok;exact e2.out.trans (h4.out hB e2.ok)
theorem yr6{x:Nd}{d:Nat}{p:List Int}{r1:Rres}(h1:12<=x.kind)(h2:x.kind<=15)(h:z5m (z1v u d) (z3h u d) (mSum u d) x p a s=some r1):r1=((x.kind,p),a,s) :=
 z3d h (by rcases(show x.kind=12∨x.kind=13∨x.kind=14∨x.kind=15 by omega)with e|e|e|e<;>rw[e]<;>rfl)
theorem zq0{x:Nd}(hB:B<=4611686018427387903)(h1:12<=x.kind)(h2:x.kind<=15)(h:KRun u D (x::l) K a s r)(ho:Oks B s)(hl:Live s) :
 (s.fuel<1/\r=((0,[]),a,gone s))∨(1<=s.fuel/\∃p,mOf a x.args=some p/\KFin u D K ((x.kind,p),a,dec s) r):=by
 rcases zq4 hB h ho hl with h3|⟨h3,d1,p,r1,hd,h4,h5,h6⟩
 ·exact .inl h3
 ·obtain rfl:=yr6 h1 h2 h5;refine .inr ⟨h3,p,h4,?_⟩;rcases h6 with⟨h6,_⟩|⟨_,_,h6⟩|⟨_,h6,_⟩
  ·have:z0z (dec s)=false:=z0r hl;rw[show((x.kind,p),a,dec s).2.2=dec s from rfl,this]at h6
   cases h6
  ·exact h6
  ·exact absurd h6 (by show x.kind≠0;omega)
theorem y38{y:Nd}{f:KF}(hB:B<=4611686018427387903)(hy:y.kind=f.k)(hf:f.k=12∨f.k=14)(h:KRun u D (y::l) (f::K) a s r)(ho:Oks B s)(hl:Live s) :
 (s.fuel<1/\r=((0,[]),a,gone s))∨(1<=s.fuel/\∃p a2,mOf a y.args=some p/\mSet a f.outs p=some a2/\KRun u D f.rest K a2 (dec s) r):=by
 rcases zq0 hB oM0 oM0 h ho hl with h3|⟨h3,p,h4,h5⟩
 ·exact .inl h3
 ·unfold KFin at h5;rw[show(((y.kind,p),a,dec s):Rres).1.1=f.k from hy,if_neg oM0,if_pos rfl]at h5;obtain⟨a2,d,r2,g1,g2,g3,g4⟩:=h5;exact .inr ⟨h3,p,a2,h4,g2,d,r2,g1,g3,g4⟩
theorem y7a{x:Nd}{q0 q1:List Nd}(hB:B<=4611686018427387903)(hx:x.kind=10)(hq:x.kids=[q0,q1])(h:KRun u D (x::l) K a s r)(ho:Oks B s)(hl:Live s) :
 (s.fuel<1/\r=((0,[]),a,gone s))∨(1<=s.fuel/\∃q,(q=q0∨q=q1)/\KRun u D q (⟨12,x.outs,l⟩::K) a (dec s) r):=by
 rcases zq4 hB h ho hl with h1|⟨h1,d1,p,r1,hd,h2,h3,h4⟩
 ·exact .inl h1
 ·have ho1:=(z4t ho h1).1;obtain⟨a0,q,r2,_,g2,g3,g4⟩:=ze3 h3 (by rw[hx];rfl);refine .inr ⟨h1,q,?_,d1,r2,by omega,g3,?_⟩
  ·rw[hq]at g2
   by_cases e:(a0 != 0)=true
   ·rw[if_pos e]at g2;exact .inl (by simpa using g2.symm)
   ·rw[if_neg e]at g2;exact .inr (by simpa using g2.symm)
  have e:=z84 hB g3 ho1
  cases hov:z0z r2.2.2 with
  |true =>
   rw[hov]at g4
   cases g4
   rw[if_pos rfl];rcases h4 with⟨_,h4⟩|⟨h4,_⟩|⟨h4,_⟩
   ·exact h4
   iterate 2
    rw[z0r h4]at hov;cases hov
  |false =>
   rw[hov]at g4;rw[if_neg dC0];unfold KFin
   by_cases k15:r2.1.1=15
   ·rw[k15]at g4
    cases g4
    rw[if_pos k15];rcases h4 with⟨h4,_⟩|⟨_,_,h4⟩|⟨_,h4,_⟩
    ·rw[hov]at h4;cases h4
    ·cases K with
     |nil=>exact h4
     |cons f K=>unfold KFin at h4;rw[if_pos k15]at h4;exact h4
    ·rw[k15]at h4;exact absurd h4 dC0
   ·rw[if_neg k15]
    by_cases k12:r2.1.1=12
    ·rw[if_pos k12];rw[k12]at g4;obtain⟨v3,g5,rfl⟩:=A1.1 g4;rcases h4 with⟨h4,_⟩|⟨_,h4,_⟩|⟨_,_,d3,r3,h6,h7,h8⟩
     ·rw[show(((0,[]),v3,r2.2.2):Rres).2.2=r2.2.2 from rfl,hov]at h4;cases h4
     ·exact absurd rfl h4
     ·exact⟨v3,d3,r3,h6,g5,h7,h8⟩
    ·rw[if_neg k12];have n12:(!false&&r2.1.1==12)=false:=by simpa using k12
     rw[n12,if_neg dC0]at g4
     cases g4
     exact h4.out hB e.ok
end
end
theorem y9u{kind op n:Int}{name:ByteArray}{args outs params:List Int}{ks ks':List (List Nd)}(h:ks'.length=ks.length):z1k (.mk kind op n name args outs params ks')=z1k (.mk kind op n name args outs params ks):=by
 unfold z1k r8op r8num ym5 r8kn;simp only[Nd.kind,Nd.op,Nd.n,Nd.name,Nd.kids,Nd.params];rw[h];rfl
theorem y79(u:Un):∀(l:List Fl)(i:Int),(z5p u l i).1=0↔∀f∈l,z5g u f=true
 |[],_=>by simp[z5p]
 |f::r,i=>by
  unfold z5p
  cases h:z5g u f with
  |false=>simp[h]
  |true=>simp[h,y79 u r (i+1)]
theorem y31(u:Un):∀(l:List Fl)(i:Int),(∀f∈l,z5g u f=true)->z5p u l i=(0,0)
 |[],_,_=>rfl
 |f::r,i,h=>by
  unfold z5p;rw[if_pos (h f (.head _))];exact y31 u r (i+1) λg hg=>h g (.tail _ hg)
theorem z6l(u:Un):(z18 u).1=0↔z1g u=true/\∀f∈u.flows,z5g u f=true:=by
 unfold z18
 cases h:z1g u with
 |false=>simp
 |true=>simp[y79]
theorem yi2:∀(a b:List Nd),wtL (a++b)=wtL a+wtL b
 |[],b=>by simp[wtL]
 |x::r,b=>by simp only[B9,wtL,yi2 r b];omega
theorem use_in{tys seen:List Int}:∀{l want:List Int},l.length=want.length->z14 tys seen l want=true->inR tys.length l
 |[],_,_,_=>λv hv=>by simp at hv
 |_::_,[],h,_=>by simp at h
 |x::r,w::ws,h,hg=>by
  simp only[z14,A0]at hg;intro v hv;rcases Am.1 hv with rfl|hv
  ·obtain⟨h1,h2⟩:=zi6 hg.1;exact⟨h1,by omega⟩
  ·exact use_in (by simpa using h) hg.2 v hv
theorem zo8{tys seen l want:List Int}(h:z08 tys seen l want=true):l.length=want.length/\inR tys.length l:=by
 simp only[z08,A0,Ak]at h;have:l.length=want.length:=by omega
 exact⟨this,use_in this h.2⟩
theorem getV_tot{a:List Int}{i:Int}(h:0<=i/\i<a.length):∃y,getV a i=some y:=by
 unfold getV;rw[if_pos h.1];exact⟨_,A5 oM0⟩
theorem y6b{a:List Int}{i y:Int}(h:0<=i/\i<a.length):∃a2,setV a i y=some a2:=by
 unfold setV;rw[if_pos ⟨h.1,by omega⟩];exact⟨_,rfl⟩
theorem y58{a:List Int}:∀{l:List Int},inR a.length l->∃p,mOf a l=some p/\p.length=l.length
 |[],_=>⟨[],rfl,rfl⟩
 |i::r,h=>by
  obtain⟨y,hy⟩:=getV_tot (h i (.head _));obtain⟨p,hp,hl⟩:=y58 (l:=r) λv hv=>h v (.tail _ hv);exact⟨y::p,by simp[mOf,hy,hp],by simp[hl]⟩
theorem zy5:∀{l p a:List Int},inR a.length l->p.length=l.length->∃a2,mSet a l p=some a2
 |[],_,a,_,_=>⟨a,rfl⟩
 |_::_,[],_,_,h=>by simp at h
 |i::r,y::p,a,h,hl=>by
  obtain⟨a1,h1⟩:=y6b (y:=y) (h i (.head _));have hl1:=zz3 h1;obtain⟨a2,h2⟩:=zy5 (l:=r) (p:=p) (a:=a1) (λv hv=>by rw[hl1];exact h v (.tail _ hv)) (by simpa using hl);exact⟨a2,by simp[mSet,h1,h2]⟩
theorem zz0{tys l:List Int}(h:inR tys.length l):(r8of tys l).length=l.length:=by
 unfold r8of;have:l.all (zr4 tys)=true:=Bg.2 λv hv=>by
  have:=h v hv;simp only[zr4,A0,B6];omega
 rw[if_pos this,A6]
theorem y3o(name:ByteArray):∀(l:List Ar)(i:Int),0<=i->z0i name l i≥0->∃k:Nat,z0i name l i=i+k/\k<l.length
 |[],i,_,h=>by simp[z0i]at h
 |f::r,i,hi,h=>by
  unfold z0i at h⊢;split
  ·exact⟨0,by simp,by simp⟩
  ·rename_i hne;rw[if_neg hne]at h;obtain⟨k,h1,h2⟩:=y3o name r (i+1) oM0 h;exact⟨k+1,by omega,by simpa using h2⟩
structure Inv(n:Nat)(B M:Int)(s:Rs):Prop where
 ok:Oks B s
 out:(s.out.length:Int)+s.fuel<=M
 ar:s.ar.length=n
structure InvS(n:Nat)(B M:Int)(s:Rs):Prop where
 ok:Oks B s
 ok1:s.cost+s.fuel+1<=B
 out:(s.out.length:Int)+s.fuel+1<=M
 ar:s.ar.length=n
def EOk(w:Wh)(y lv:Bool)(r:Rres):Prop:=(r.1.1=12/\y=true/\w.If=true/\r.1.2.length=w.Yield.length)∨(r.1.1=13/\r.1.2.length=w.Next.length)∨(r.1.1=14/\lv=true/\r.1.2.length=w.Left.length)∨(r.1.1=15/\r.1.2.length=1)
def VF(u:Un)(g:Fl):Prop:=z4r u g 1 z43 (iota g.params.toNat) g.body=true/\g.types.length<=20000/\0<=g.params/\g.params<=g.types.length
theorem vf_of{u:Un}(h:(z18 u).1=0):∀g∈u.flows,VF u g:=by
 intro g hg;obtain⟨h1,h2⟩:=(z6l u).1 h;have hf:=h2 g hg;have hp:=z6x h1 g hg;unfold z5g at hf;simp only[A0]at hf;obtain⟨⟨⟨⟨⟨f1,f2⟩,f3⟩,f4⟩,f5⟩,f6⟩:=hf;simp only[Bf,Cc]at f1 f2 f3 f4;rw[ze6 u g g.body 1 z43 _ _ (z4k oM0)]at f6;exact⟨f6.1,by omega,hp.1,hp.2⟩
def SumOk(u:Un)(x:Nd)(k:Nat):Prop :=
 (x.kind=3->1<=k)/\(x.kind=4->2<=k)/\(x.kind=5->1<=k/\0<=z0i x.name u.arrays 0)/\(x.kind=6->2<=k/\0<=z0i x.name u.arrays 0) /\
 (x.kind=7->0<=z06 x.name u.flows 0/\∀g,u.flows[(z06 x.name u.flows 0).toNat]?=some g->(k:Int)=g.params)/\(x.kind=9->1<=k)
theorem zu6{p:List Int}{i:Nat}(h:i<p.length):∃y,p[i]?=some y:=⟨_,A5 h⟩
theorem sum_tot{u:Un}{n:Nat}{B M:Int}(hB:B<=4611686018427387903)(hM:M<=1073741824)(hn:n=u.arrays.length)(hv:∀g∈u.flows,VF u g){d:Nat}
 (hC:∀k p s,0<=k->(∃g,u.flows[k.toNat]?=some g/\(p.length:Int)=g.params)->Inv n B M s->3*s.fuel+2<=d->∃r,z40 u d k p s=some r/\Inv n B M r.2)
 (x:Nd) (p:List Int) (s:Rs) (hx:SumOk u x p.length) (hi:InvS n B M s) (hd:3*s.fuel+3<=((d+1:Nat):Int)):∃r,mSum u (d+1) x p s=some r/\Inv n B M r.2:=by
 have e:=zk3 hB hi.ok;have hb:Inv n B M (bmp s):=⟨⟨hi.ok.1,by have:=hi.ok.2.1;show 0<=s.cost+1;omega,by have:=hi.ok1;show s.cost+1+s.fuel<=B;omega⟩,by have:=hi.out;show(s.out.length:Int)+s.fuel<=M;omega,hi.ar⟩;obtain⟨x3,x4,x5,x6,x7,x9⟩:=hx;have ne:∀{i:Int},x.kind≠i->(x.kind==i)=false:=λh=>Ad.2 h;have cell:∀{a0:Int},0<=z0i x.name u.arrays 0->∃q,zc6 (bmp s) (z0i x.name u.arrays 0) a0=some q/\((q.1=false/\q.2={ bmp s with st:=3 })∨(q.1=true/\q.2=bmp s/\∃row y,s.ar[(z0i x.name u.arrays 0).toNat]?=some row/\row[a0.toNat]?=some y)):=by
  intro a0 hk;obtain⟨j,hj,hjl⟩:=y3o x.name u.arrays 0 oM0 hk;obtain⟨row,hrow⟩:∃row,s.ar[(z0i x.name u.arrays 0).toNat]?=some row:=⟨_,A5 (by rw[hi.ar];omega)⟩;unfold zc6
  by_cases h0:a0<0
  ·rw[if_pos h0];exact⟨_,rfl,.inl ⟨rfl,rfl⟩⟩
  ·rw[if_neg h0,if_pos hk,show(bmp s).ar=s.ar from rfl,hrow,Bq]
   by_cases h1:a0≥row.length
   ·rw[if_pos h1];exact⟨_,rfl,.inl ⟨rfl,rfl⟩⟩
   ·rw[if_neg h1];exact⟨_,rfl,.inr ⟨rfl,rfl,row,_,rfl,A5 oM0⟩⟩
 have c3:Inv n B M { bmp s with st:=3 }:=⟨hb.ok,hb.out,hb.ar⟩;rw[mSum];simp only[show w64 (s.cost+1)=s.cost+1 from j5f (by have:=hi.ok.2.1;omega) (by have:=hi.ok.1;have:=hi.ok1;omega)]
 by_cases k3:x.kind=3
 ·obtain⟨a0,h0⟩:=zu6 (x3 k3);rw[k3,h0];exact⟨_,rfl,hb⟩
 by_cases k4:x.kind=4
 ·obtain⟨a0,h0⟩:=zu6 (show 0<p.length by have:=x4 k4;omega);obtain⟨a1,h1⟩:=zu6 (show 1<p.length by have:=x4 k4;omega);rw[k4,h0,h1];refine⟨_,rfl,?_⟩;dsimp only;split
  ·exact hb
  ·exact⟨hb.ok,hb.out,hb.ar⟩
 by_cases k5:x.kind=5
 ·obtain⟨a0,h0⟩:=zu6 (x5 k5).1;obtain⟨⟨qb,qs⟩,hq,hq2⟩:=cell (a0:=a0) (x5 k5).2;rw[ne k3,ne k4,k5,h0];simp only[Aj,Br,show((5:Int)==5)=true from rfl,C2,Bq]
  erw [hq]
  simp only[Bq];rcases hq2 with⟨rfl,rfl⟩|⟨rfl,rfl,row,y,hr,hy⟩
  ·exact⟨_,rfl,c3⟩
  ·rw[if_pos rfl,hr,Bq,hy];exact⟨_,rfl,hb⟩
 by_cases k6:x.kind=6
 ·obtain⟨a0,h0⟩:=zu6 (show 0<p.length by have:=(x6 k6).1;omega);obtain⟨a1,h1⟩:=zu6 (show 1<p.length by have:=(x6 k6).1;omega);obtain⟨⟨qb,qs⟩,hq,hq2⟩:=cell (a0:=a0) (x6 k6).2;rw[ne k3,ne k4,ne k5,k6,h0];simp only[Aj,Br,show((6:Int)==6)=true from rfl,C2,Bq]
  erw [hq]
  simp only[Bq];rcases hq2 with⟨rfl,rfl⟩|⟨rfl,rfl,row,y,hr,hy⟩
  ·exact⟨_,rfl,c3⟩
  ·rw[if_pos rfl,hr,h1];exact⟨_,rfl,⟨hb.ok,hb.out,by simp only[E3];exact hb.ar⟩⟩
 by_cases k7:x.kind=7
 ·rw[ne k3,ne k4,ne k5,ne k6,k7];obtain⟨h0,h1⟩:=x7 k7;obtain⟨j,hj,hjl⟩:=zr3 x.name u.flows 0 oM0 h0;obtain⟨g,hg⟩:∃g,u.flows[(z06 x.name u.flows 0).toNat]?=some g:=⟨_,A5 oM0⟩;exact hC _ p (bmp s) h0 ⟨g,hg,h1 g hg⟩ hb (by show 3*s.fuel+2<=(d:Int);omega)
 by_cases k9:x.kind=9
 ·obtain⟨a0,h0⟩:=zu6 (x9 k9);have hfu:=hi.ok.1;have hlo:s.out.length<1073741824:=by have:=hi.out;omega
  rw[ne k3,ne k4,ne k5,ne k6,ne k7,k9,h0];simp only[Aj,Br,show((9:Int)==9)=true from rfl,C2,Bq,if_pos hlo];exact⟨_,rfl,⟨hb.ok,by have:=hi.out;show((s.out++[a0]).length:Int)+s.fuel<=M;simp;omega,hb.ar⟩⟩
 by_cases k8:x.kind=8
 ·rw[ne k3,ne k4,ne k5,ne k6,ne k7,ne k9,k8];simp only[Aj,Br,show((8:Int)==8)=true from rfl,C2]
  cases hin:s.ins with
  |nil=>exact⟨_,rfl,⟨hb.ok,hb.out,hb.ar⟩⟩
  |cons y q=>exact⟨_,rfl,⟨hb.ok,hb.out,hb.ar⟩⟩
 ·rw[ne k3,ne k4,ne k5,ne k6,ne k7,ne k9,ne k8];exact⟨_,rfl,hb⟩
theorem smp_ok{u:Un}{f:Fl}{x:Nd}{seen:List Int}{w:Wh}(hgp:∀g∈u.flows,VF u g)(h:(z8r u f x seen w).ok f.types x.outs=true) :
 inR f.types.length x.outs/\inR f.types.length x.args/\SumOk u x x.args.length/\((x.kind=1∨x.kind=2)->x.outs≠[]) /\
 (x.kind=12->w.If=true/\x.args.length=w.Yield.length)/\(x.kind=13->x.args.length=w.Next.length)/\(x.kind=14->x.args.length=w.Left.length)/\(x.kind=15->x.args.length=1):=by
 refine⟨ok_in h,?_⟩;have V:∀{b:Bool} {want:Option (List Int)},SForm.ok ⟨b,want⟩ f.types x.outs=true->b=true:=λ{b want} h=>by
  cases want<;>simp only[SForm.ok,A0]at h<;>exact h.1
 have V1:∀{b:Bool}{t:Int},SForm.ok ⟨b,some [t]⟩ f.types x.outs=true->x.outs≠[]:=λ{b t} h e=>by
  simp only[SForm.ok,A0]at h;have:=zp0 h.2;rw[e]at this;simp at this
 have T:∀{want:List Int},z08 f.types seen x.args want=true->inR f.types.length x.args/\x.args.length=want.length:=λh=>⟨(zo8 h).2,(zo8 h).1⟩;have tr:∀{k:Int}{P:Prop}{j:Int},x.kind=k->k≠j->x.kind=j->P:=λh1 h2 h3=>absurd (h1.symm.trans h3) h2;unfold z8r at h
 by_cases k1:x.kind=1
 ·rw[if_pos (Ak.2 k1)]at h;obtain⟨t1,t2⟩:=T (V h);refine⟨t1,⟨tr k1 dC0,tr k1 dC0,tr k1 dC0,tr k1 dC0,tr k1 dC0,tr k1 dC0⟩,λ_=>V1 h,tr k1 dC0,tr k1 dC0,tr k1 dC0,tr k1 dC0⟩
 rw[if_neg (by simpa using k1)]at h
 by_cases k2:x.kind=2
 ·rw[if_pos (Ak.2 k2)]at h;have hb:=V h;simp only[A0]at hb;obtain⟨t1,t2⟩:=T hb.2;refine⟨t1,⟨tr k2 dC0,tr k2 dC0,tr k2 dC0,tr k2 dC0,tr k2 dC0,tr k2 dC0⟩,λ_=>V1 h,tr k2 dC0,tr k2 dC0,tr k2 dC0,tr k2 dC0⟩
 rw[if_neg (by simpa using k2)]at h;have n12:¬(x.kind=1∨x.kind=2):=by rintro(h|h)<;>contradiction
 by_cases k3:x.kind=3
 ·rw[if_pos (Ak.2 k3)]at h;have hb:=V h;simp only[A0]at hb;obtain⟨t1,t2⟩:=T hb.2;refine⟨t1,⟨λ_=>by rw[t2];exact Ae _,tr k3 dC0,tr k3 dC0,tr k3 dC0,tr k3 dC0,tr k3 dC0⟩,λh=>absurd h n12,tr k3 dC0,tr k3 dC0,tr k3 dC0,tr k3 dC0⟩
 rw[if_neg (by simpa using k3)]at h
 by_cases k4:x.kind=4
 ·rw[if_pos (Ak.2 k4)]at h;have hb:=V h;simp only[A0]at hb;obtain⟨t1,t2⟩:=T hb.1.2;refine⟨t1,⟨tr k4 dC0,λ_=>by rw[t2];exact Ae _,tr k4 dC0,tr k4 dC0,tr k4 dC0,tr k4 dC0⟩,λh=>absurd h n12,tr k4 dC0,tr k4 dC0,tr k4 dC0,tr k4 dC0⟩
 rw[if_neg (by simpa using k4)]at h
 by_cases k5:x.kind=5
 ·rw[if_pos (Ak.2 k5)]at h;have hb:=V h;simp only[A0,B6]at hb;obtain⟨t1,t2⟩:=T hb.2;refine⟨t1,⟨tr k5 dC0,tr k5 dC0,λ_=>⟨by rw[t2];exact Ae _,hb.1⟩,tr k5 dC0,tr k5 dC0,tr k5 dC0⟩,λh=>absurd h n12,tr k5 dC0,tr k5 dC0,tr k5 dC0,tr k5 dC0⟩
 rw[if_neg (by simpa using k5)]at h
 by_cases k6:x.kind=6
 ·rw[if_pos (Ak.2 k6)]at h;have hb:=V h;simp only[A0,B6]at hb;obtain⟨t1,t2⟩:=T hb.2;refine⟨t1,⟨tr k6 dC0,tr k6 dC0,tr k6 dC0,λ_=>⟨by rw[t2];exact Ae _,hb.1⟩,tr k6 dC0,tr k6 dC0⟩,λh=>absurd h n12,tr k6 dC0,tr k6 dC0,tr k6 dC0,tr k6 dC0⟩
 rw[if_neg (by simpa using k6)]at h
 by_cases k7:x.kind=7
 ·rw[if_pos (Ak.2 k7)]at h
  by_cases hp:decide (z06 x.name u.flows 0≥0)=true
  ·rw[if_pos hp]at h;have hp':0<=z06 x.name u.flows 0:=by simpa using hp
   cases hg:u.flows[(z06 x.name u.flows 0).toNat]? with
   |none=>rw[hg]at h;exact absurd (V h) dC0
   |some g =>
    rw[hg]at h;obtain⟨t1,t2⟩:=T (V h);obtain⟨_,_,g1,g2⟩:=hgp g (A9 hg);refine⟨t1,⟨tr k7 dC0,tr k7 dC0,tr k7 dC0,tr k7 dC0,λ_=>⟨hp',λg' hg'=>?_⟩,tr k7 dC0⟩,λh=>absurd h n12,tr k7 dC0,tr k7 dC0,tr k7 dC0,tr k7 dC0⟩;rw[hg]at hg'
    cases hg'
    rw[t2,D6];omega
  ·rw[if_neg hp]at h;exact absurd (V h) dC0
 rw[if_neg (by simpa using k7)]at h
 by_cases k8:x.kind=8
 ·rw[if_pos (Ak.2 k8)]at h;have hb:=V h;have:x.args=[]:=Au (by simp at hb;simp[hb]);refine⟨by rw[this];exact λv hv=>by simp at hv,⟨tr k8 dC0,tr k8 dC0,tr k8 dC0,tr k8 dC0,tr k8 dC0,tr k8 dC0⟩,λh=>absurd h n12,tr k8 dC0,tr k8 dC0,tr k8 dC0,tr k8 dC0⟩
 rw[if_neg (by simpa using k8)]at h
 by_cases k9:x.kind=9
 ·rw[if_pos (Ak.2 k9)]at h;obtain⟨t1,t2⟩:=T (V h);refine⟨t1,⟨tr k9 dC0,tr k9 dC0,tr k9 dC0,tr k9 dC0,tr k9 dC0,λ_=>by rw[t2];exact Ae _⟩,λh=>absurd h n12,tr k9 dC0,tr k9 dC0,tr k9 dC0,tr k9 dC0⟩
 rw[if_neg (by simpa using k9)]at h;have S:SumOk u x x.args.length:=⟨λh=>absurd h k3,λh=>absurd h k4,λh=>absurd h k5,λh=>absurd h k6,λh=>absurd h k7,λh=>absurd h k9⟩
 by_cases k12:x.kind=12
 ·rw[if_pos (Ak.2 k12)]at h;have hb:=V h;simp only[A0]at hb;obtain⟨t1,t2⟩:=T hb.2;exact⟨t1,S,λh=>absurd h n12,λ_=>⟨hb.1,t2⟩,tr k12 dC0,tr k12 dC0,tr k12 dC0⟩
 rw[if_neg (by simpa using k12)]at h
 by_cases k13:x.kind=13
 ·rw[if_pos (Ak.2 k13)]at h;have hb:=V h;simp only[A0]at hb;obtain⟨t1,t2⟩:=T hb.2;exact⟨t1,S,λh=>absurd h n12,tr k13 dC0,λ_=>t2,tr k13 dC0,tr k13 dC0⟩
 rw[if_neg (by simpa using k13)]at h
 by_cases k14:x.kind=14
 ·rw[if_pos (Ak.2 k14)]at h;have hb:=V h;simp only[A0]at hb;obtain⟨t1,t2⟩:=T hb.2;exact⟨t1,S,λh=>absurd h n12,tr k14 dC0,tr k14 dC0,λ_=>t2,tr k14 dC0⟩
 rw[if_neg (by simpa using k14)]at h
 by_cases k15:x.kind=15
 ·rw[if_pos (Ak.2 k15)]at h;obtain⟨t1,t2⟩:=T (V h);exact⟨t1,S,λh=>absurd h n12,tr k15 dC0,tr k15 dC0,tr k15 dC0,λ_=>t2⟩
 rw[if_neg (by simpa using k15)]at h;exact absurd (V h) dC0
theorem LRel.monoE{k c:Nat}{I:VR}{l:List Nd}{K:List KF}{l':List Nd}{E:ER}(h:LRel k c I l K l' E):∀{E':ER},(∀n p p' a b,E n p p' a b->E' n p p' a b)->LRel k c I l K l' E':=by
 induction h with
 |dead h=>exact λ_=>.dead h
 |weak h _ ih=>exact λhe=>.weak h (ih he)
 |both h1 h2 h3 h4 _ ih=>exact λhe=>.both h1 h2 h3 h4 (ih he)
 |skip h1 h2 _ ih=>exact λhe=>.skip h1 h2 (ih he)
 |paid h1 h2 h3 _ ih=>exact λhe=>.paid h1 h2 h3 (ih he)
 |add h1 h2 h3 _ ih=>exact λhe=>.add h1 h2 h3 (ih he)
 |eff h1 h2 h3 h4 h5 h6 h7 h8 _ ih=>exact λhe=>.eff h1 h2 h3 h4 h5 h6 h7 h8 (ih he)
 |drop h1 h2 h3 h4 _ ih=>exact λhe=>.drop h1 h2 h3 h4 (ih he)
 |ite h1 h2 h3 h4 h5 h6 h7 h8 _ _ _ ih=>exact λhe=>.ite h1 h2 h3 h4 h5 h6 h7 (λn p p' a b hh=>(h8 n p p' a b hh).imp_right λ⟨x,y,z,w⟩=>⟨x,y,z,he _ _ _ _ _ w⟩) (ih he)
 |loop h1 h2 h3 h4 h5 h6 h7 _ _ ih=>exact λhe=>.loop h1 h2 h3 h4 h5 h6 (λn p p' a b hh=>(h7 n p p' a b hh).imp_left λ⟨x,y⟩=>⟨x,he _ _ _ _ _ y⟩) (ih he)
 |ender h1 h2 h3 h4 h5=>exact λhe=>.ender h1 h2 h3 h4 λa b p p' x y z=>he _ _ _ _ _ (h5 a b p p' x y z)
 |once h1 h2 h3 _ ih=>exact λhe=>.once h1 h2 h3 (ih he)
 |leave h1 h2 h3 _ ih=>exact λhe=>.leave h1 h2 h3 (ih he)
 |fork h1 h2 _ _ ih0 ih1=>exact λhe=>.fork h1 h2 (ih0 he) (ih1 he)
def EqS(S:List Int)(a b:List Int):Prop:=∀x∈S,getV a x=getV b x
theorem z9k{a a2:List Int}{o y x:Int}(h:setV a o y=some a2):getV a2 x=if x=o then some y else getV a x:=by
 obtain⟨h1,h2,rfl⟩:=z8s h;unfold getV
 by_cases hx:0<=x
 ·rw[if_pos hx]
  by_cases e:x=o
  ·subst e;rw[if_pos rfl,Bl h2]
  ·rw[if_neg e,if_pos hx,Bk oM0]
 ·rw[if_neg hx,if_neg hx,if_neg oM0]
theorem zy4:∀{l p a a2:List Int}{x:Int},mSet a l p=some a2->x∉l->getV a2 x=getV a x
 |[],_,_,_,_,h,_=>by cases h;rfl
 |i::r,p,a,a2,x,h,hx=>by
  obtain⟨y,p',a1,rfl,h1,h2⟩:=zc7 h;simp only[Am,not_or]at hx;rw[zy4 h2 hx.2,z9k h1,if_neg hx.1]
theorem y6a{outs a a2:List Int}{y x:Int}(h:setO outs a y a2)(hx:x∉outs):getV a2 x=getV a x:=by
 cases outs with
 |nil=>obtain rfl:a2=a:=h;rfl
 |cons o os =>
  simp only[Am,not_or]at hx;rw[z9k h,if_neg hx.1]
theorem EqS.set{S:List Int}{a b a2 b2:List Int}{o y:Int}(h:EqS S a b)(h1:setV a o y=some a2)(h2:setV b o y=some b2):EqS (S++[o]) a2 b2:=by
 intro x hx;rw[z9k h1,z9k h2]
 by_cases e:x=o
 ·rw[if_pos e,if_pos e]
 ·rw[if_neg e,if_neg e];rcases Aw.1 hx with hx|hx
  ·exact h x hx
  ·exact absurd (Ag.1 hx) e
theorem EqS.msets:∀{l p S a b a2 b2:List Int},EqS S a b->mSet a l p=some a2->mSet b l p=some b2->EqS (S++l) a2 b2
 |[],p,S,a,b,a2,b2,h,h1,h2=>by cases h1;cases h2;simpa using h
 |i::r,p,S,a,b,a2,b2,h,h1,h2=>by
  obtain⟨y,p',a1,rfl,g1,g2⟩:=zc7 h1;obtain⟨y',p'',b1,e,g1',g2'⟩:=zc7 h2;obtain⟨rfl,rfl⟩:=List.cons.inj e;have:=EqS.msets (h.set g1 g1') g2 g2';simpa using this
theorem EqS.setO{S outs:List Int}{a b a2 b2:List Int}{y:Int}(h:EqS S a b)(ho:outs.length<=1)(h1:setO outs a y a2)(h2:setO outs b y b2):EqS (S++outs) a2 b2:=by
 cases outs with
 |nil=>obtain rfl:a2=a:=h1;obtain rfl:b2=b:=h2;simpa using h
 |cons o os =>
  have:os=[]:=Au (by simpa using ho);subst this;exact h.set h1 h2
theorem yq3{tys seen:List Int}:∀{l want:List Int},l.length=want.length->z14 tys seen l want=true->∀v∈l,v∈seen
 |[],_,_,_=>λv hv=>by simp at hv
 |_::_,[],h,_=>by simp at h
 |x::r,w::ws,h,hg=>by
  simp only[z14,A0]at hg;intro v hv;rcases Am.1 hv with rfl|hv
  ·have:=hg.1;unfold z95 at this;simp only[Bf,Bm]at this;simpa using this.1.2
  ·exact yq3 (by simpa using h) hg.2 v hv
theorem z2j{tys seen l want:List Int}(h:z08 tys seen l want=true):∀v∈l,v∈seen:=by
 have h0:=(zo8 h).1;simp only[z08,A0]at h;exact yq3 h0 h.2
theorem za5{u:Un}{f:Fl}{x:Nd}{seen:List Int}{w:Wh}(h:(z8r u f x seen w).ok f.types x.outs=true) :
 (∀v∈x.args,v∈seen)/\x.outs.length<=1/\(zg7 x=true->HL x/\∃o,x.outs=[o])/\(x.kind=12->w.If=true)/\(12<=x.kind->x.kind<=15):=by
 have V:∀{b:Bool} {want:Option (List Int)},SForm.ok ⟨b,want⟩ f.types x.outs=true->b=true:=λ{b want} h=>by
  cases want<;>simp only[SForm.ok,A0]at h<;>exact h.1
 have V1:∀{b:Bool}{t:Int},SForm.ok ⟨b,some [t]⟩ f.types x.outs=true->x.outs.length=1:=λ{b t} h=>by
  simp only[SForm.ok,A0]at h;exact zp0 h.2
 have V0:∀{b:Bool},SForm.ok ⟨b,none⟩ f.types x.outs=true->x.outs.length=0:=λ{b} h=>by
  simp only[SForm.ok,A0,Ak]at h;omega
 have ex1:x.outs.length=1->∃o,x.outs=[o]:=λh=>Ci.1 h;have hne:x.outs.length=1->x.outs≠[]:=λh e=>by rw[e]at h;cases h
 unfold z8r at h
 by_cases k1:x.kind=1
 ·rw[if_pos (Ak.2 k1)]at h;have h1:=V1 h;exact⟨z2j (V h),by omega,λhm=>⟨⟨hm,λh=>absurd (k1.symm.trans h) dC0,hne h1⟩,ex1 h1⟩,λh=>absurd (k1.symm.trans h) dC0,by omega⟩
 rw[if_neg (by simpa using k1)]at h
 by_cases k2:x.kind=2
 ·rw[if_pos (Ak.2 k2)]at h;have h1:=V1 h;have hb:=V h;simp only[A0]at hb;exact⟨z2j hb.2,by omega,λhm=>⟨⟨hm,λh=>absurd (k2.symm.trans h) dC0,hne h1⟩,ex1 h1⟩,λh=>absurd (k2.symm.trans h) dC0,by omega⟩
 rw[if_neg (by simpa using k2)]at h
 by_cases k3:x.kind=3
 ·rw[if_pos (Ak.2 k3)]at h;have h1:=V1 h;have hb:=V h;simp only[A0]at hb;exact⟨z2j hb.2,by omega,λhm=>⟨⟨hm,λh=>absurd (k3.symm.trans h) dC0,hne h1⟩,ex1 h1⟩,λh=>absurd (k3.symm.trans h) dC0,by omega⟩
 rw[if_neg (by simpa using k3)]at h
 by_cases k4:x.kind=4
 ·rw[if_pos (Ak.2 k4)]at h;have h1:=V1 h;have hb:=V h;simp only[A0]at hb;exact⟨z2j hb.1.2,by omega,λhm=>⟨⟨hm,λ_=>hb.1.1,hne h1⟩,ex1 h1⟩,λh=>absurd (k4.symm.trans h) dC0,by omega⟩
 rw[if_neg (by simpa using k4)]at h;have hno:zg7 x=false:=by
  cases hx:zg7 x with
  |false=>rfl
  |true=>have:=zh8 hx;omega
 have hm0:zg7 x=true->HL x/\∃o,x.outs=[o]:=λh=>by rw[hno]at h;cases h
 by_cases k5:x.kind=5
 ·rw[if_pos (Ak.2 k5)]at h;have hb:=V h;simp only[A0]at hb;exact⟨z2j hb.2,by have:=V1 h;omega,hm0,λh=>absurd (k5.symm.trans h) dC0,by omega⟩
 rw[if_neg (by simpa using k5)]at h
 by_cases k6:x.kind=6
 ·rw[if_pos (Ak.2 k6)]at h;have hb:=V h;simp only[A0]at hb;exact⟨z2j hb.2,by have:=V0 h;omega,hm0,λh=>absurd (k6.symm.trans h) dC0,by omega⟩
 rw[if_neg (by simpa using k6)]at h
 by_cases k7:x.kind=7
 ·rw[if_pos (Ak.2 k7)]at h
  by_cases hp:decide (z06 x.name u.flows 0≥0)=true
  ·rw[if_pos hp]at h
   cases hg:u.flows[(z06 x.name u.flows 0).toNat]? with
   |none=>rw[hg]at h;exact absurd (V h) dC0
   |some g=>rw[hg]at h;exact⟨z2j (V h),by have:=V1 h;omega,hm0,λh=>absurd (k7.symm.trans h) dC0,by omega⟩
  ·rw[if_neg hp]at h;exact absurd (V h) dC0
 rw[if_neg (by simpa using k7)]at h
 by_cases k8:x.kind=8
 ·rw[if_pos (Ak.2 k8)]at h;have hb:=V h;have:x.args=[]:=Au (by simp at hb;simp[hb]);exact⟨by rw[this];exact λv hv=>by simp at hv,by have:=V1 h;omega,hm0,λh=>absurd (k8.symm.trans h) dC0,by omega⟩
 rw[if_neg (by simpa using k8)]at h
 by_cases k9:x.kind=9
 ·rw[if_pos (Ak.2 k9)]at h;exact⟨z2j (V h),by have:=V0 h;omega,hm0,λh=>absurd (k9.symm.trans h) dC0,by omega⟩
 rw[if_neg (by simpa using k9)]at h
 by_cases k12:x.kind=12
 ·rw[if_pos (Ak.2 k12)]at h;have hb:=V h;simp only[A0]at hb;exact⟨z2j hb.2,by have:=V0 h;omega,hm0,λ_=>hb.1,by omega⟩
 rw[if_neg (by simpa using k12)]at h
 by_cases k13:x.kind=13
 ·rw[if_pos (Ak.2 k13)]at h;have hb:=V h;simp only[A0]at hb;exact⟨z2j hb.2,by have:=V0 h;omega,hm0,λh=>absurd (k13.symm.trans h) dC0,by omega⟩
 rw[if_neg (by simpa using k13)]at h
 by_cases k14:x.kind=14
 ·rw[if_pos (Ak.2 k14)]at h;have hb:=V h;simp only[A0]at hb;exact⟨z2j hb.2,by have:=V0 h;omega,hm0,λh=>absurd (k14.symm.trans h) dC0,by omega⟩
 rw[if_neg (by simpa using k14)]at h
 by_cases k15:x.kind=15
 ·rw[if_pos (Ak.2 k15)]at h;exact⟨z2j (V h),by have:=V0 h;omega,hm0,λh=>absurd (k15.symm.trans h) dC0,by omega⟩
 rw[if_neg (by simpa using k15)]at h;exact absurd (V h) dC0
theorem j16{u:Un}{f:Fl}{deep:Int}{w:Wh}:∀{l:List Nd}{S:List Int},vGo u f deep w S l=true->z2v l=12->w.If=true
 |[],_,_,h=>by simp[z2v]at h
 |[x],S,hv,h=>by
  unfold vGo at hv;simp only[A0]at hv;have hk:x.kind=12:=by
   simp only[z2v,List.getLast?_singleton]at h;split at h
   ·exact h
   ·exact absurd h dC0
  have hx:=hv.1.1.2;rw[z1c u f deep w S (z2r u f deep w S hx) (by rw[hk];rfl) (by rw[hk];rfl)]at hx
  exact(za5 hx).2.2.2.1 hk
 |x::y::r,S,hv,h=>by
  unfold vGo at hv;simp only[A0]at hv;have e:z2v (x::y::r)=z2v (y::r):=by simp[z2v,Eu]
  rw[e]at h;exact j16 hv.2 h
section
def z5l(B:List Nd->List Nd)(f:Fl):Fl:=⟨f.name,f.ty,f.params,f.types,B f.body⟩
def z3t(B:List Nd->List Nd)(u:Un):Un:=⟨u.arrays,u.flows.map (z5l B)⟩
def z93(B:List Nd->List Nd)(u:Un):Un×Int:=if (z4x u).1==0 then(z3t B u,0)else(⟨[],[]⟩,1)
section
variable (B:List Nd->List Nd)
theorem zr2(name:ByteArray):∀(l:List Fl)(i:Int),z06 name (l.map (z5l B)) i=z06 name l i
 |[],_=>rfl
 |f::r,i=>by
  have ih:=zr2 name r (i+1);unfold z06;rw[B3];simp only[ih];rfl
theorem sForm_m(u:Un)(f:Fl)(x:Nd)(s:List Int)(w:Wh):z8r (z3t B u) (z5l B f) x s w=z8r u f x s w:=by
 unfold z8r;simp only[z3t,z5l,zr2,B8]
 cases u.flows[(z06 x.name u.flows 0).toNat]? with
 |none=>rfl
 |some g=>rfl
mutual
theorem vNode_m(u:Un)(f:Fl):∀(x:Nd)(deep:Int)(w:Wh)(s:List Int),z82 (z3t B u) (z5l B f) deep w s x=z82 u f deep w s x
 |.mk kind op n name args outs params ks,deep,w,s=>by
  unfold z82;rw[sForm_m]
  match ks with
  |[]=>rfl
  |[a] =>
   have h1:=yz1 u f a (deep+1) (w2 f (.mk kind op n name args outs params [a])) (s++params);simp only[show w2 (z5l B f) (.mk kind op n name args outs params [a])=w2 f (.mk kind op n name args outs params [a])from rfl,h1]
   rfl
  |a::b::r =>
   have h1:=yz1 u f a (deep+1) (w2 f (.mk kind op n name args outs params (a::b::r))) (s++params);have h2:=yz1 u f a (deep+1) (w1 w f (.mk kind op n name args outs params (a::b::r))) s;have h3:=yz1 u f b (deep+1) (w1 w f (.mk kind op n name args outs params (a::b::r))) s;simp only[show w2 (z5l B f) (.mk kind op n name args outs params (a::b::r))=w2 f (.mk kind op n name args outs params (a::b::r))from rfl,show w1 w (z5l B f) (.mk kind op n name args outs params (a::b::r))=w1 w f (.mk kind op n name args outs params (a::b::r))from rfl,h1,h2,h3];rfl
theorem yz1(u:Un)(f:Fl):∀(l:List Nd)(deep:Int)(w:Wh)(s:List Int),vGo (z3t B u) (z5l B f) deep w s l=vGo u f deep w s l
 |[],_,_,_=>by simp[vGo]
 |x::r,deep,w,s=>by
  unfold vGo;rw[vNode_m u f x,yz1 u f r]
end
def zu1(u:Un)(f:Fl)(l:List Nd):Prop:=z4r u f 1 z43 (iota f.params.toNat) l=true/\Frs (z5e f.params.toNat f.types.length) (dL l)
theorem z9i{u:Un}{f:Fl}(h:z5g u f=true):f.params.toNat<=f.types.length:=by
 unfold z5g at h;simp only[A0]at h;have a1:=h.1.1.1.1.1;have a2:=h.1.1.1.2;simp only[Bf,Cc]at a1 a2;omega
theorem y0c{u:Un}{f:Fl}(h:z5g u f=true):zu1 u f f.body:=by
 have hn:(z5e f.params.toNat f.types.length).length=f.types.length:=z4k (z9i h);unfold z5g at h;simp only[A0]at h;have h2:=h.2;rw[ze6 u f f.body 1 z43 _ _ hn]at h2;exact h2
theorem flow_m{u:Un}{f:Fl}(h:z5g u f=true)(hB:zu1 u f f.body->zu1 u f (B f.body)):z5g (z3t B u) (z5l B f)=true:=by
 have hb:=hB (y0c h);have hn:(z5e f.params.toNat f.types.length).length=f.types.length:=z4k (z9i h);unfold z5g at h⊢;simp only[A0]at h⊢;refine⟨h.1,?_⟩;show(z2m (z3t B u) (z5l B f) 1 z43 (iota f.params.toNat) (z5e f.params.toNat f.types.length) (B f.body)).1=true;rw[ze6 (z3t B u) (z5l B f) (B f.body) 1 z43 _ _ hn];have hv:=hb.1;simp only[z4r,A0]at hv⊢;exact⟨⟨hv.1,by rw[yz1];exact hv.2⟩,hb.2⟩
theorem gA_m(u:Un):∀(l:List Ar)(i:Int),r8gA (z3t B u) l i=r8gA u l i
 |[],_=>rfl
 |a::r,i=>by
  have h1:gArr (z3t B u) a i=gArr u a i:=by simp only[gArr,z3t,zr2]
  simp only[r8gA,gA_m u r,h1]
theorem gF_m(u:Un):∀(l:List Fl)(i:Int),r8gF (z3t B u) (l.map (z5l B)) i=r8gF u l i
 |[],_=>rfl
 |a::r,i=>by
  have h1:gFlw (z3t B u) (z5l B a) i=gFlw u a i:=by
   simp only[gFlw,z3t,zr2];rfl
  simp only[B3,r8gF,gF_m u r,h1]
theorem y35(l:List Fl)(k:Nat):((l.map (z5l B)).getD k y78).ty=(l.getD k y78).ty/\((l.map (z5l B)).getD k y78).params=(l.getD k y78).params:=by
 simp only[At,B8]
 cases l[k]? with
 |none=>exact⟨rfl,rfl⟩
 |some g=>exact⟨rfl,rfl⟩
theorem j0t(u:Un):z1g (z3t B u)=z1g u:=by
 unfold z1g;rw[show(z3t B u).arrays=u.arrays from rfl,show(z3t B u).flows=u.flows.map (z5l B)from rfl,gA_m,gF_m];unfold zb3;rw[show(z3t B u).flows=u.flows.map (z5l B)from rfl,zr2,(y35 B _ _).1,(y35 B _ _).2]
theorem check_m{u:Un}(h:(z18 u).1=0)(hB:∀f∈u.flows,zu1 u f f.body->zu1 u f (B f.body)):z18 (z3t B u)=(0,0):=by
 obtain⟨h1,h2⟩:=(z6l u).1 h;unfold z18;rw[j0t,h1,if_pos rfl];refine y31 (z3t B u) _ 0 λg hg=>?_;obtain⟨f,hf,rfl⟩:=Bx.1 hg;exact flow_m B (h2 f hf) (hB f hf)
theorem j04{u:Un}(h:(z18 u).1=0):∀f∈u.flows,zu1 u f f.body:=λf hf=>y0c (((z6l u).1 h).2 f hf)
theorem wtF_m(hw:∀l,z0y (B l)<=z0y l):∀l:List Fl,wtF (l.map (z5l B))<=wtF l
 |[]=>Ae _
 |f::r=>by
  have h1:=hw f.body;have h2:=wtF_m hw r;simp only[B3,wtF,z5l]at h2⊢;omega
theorem yq7(hw:∀l,z0y (B l)<=z0y l)(u:Un):z0h (z3t B u)<=z0h u:=by
 have:=wtF_m B hw u.flows;unfold z0h;rw[show(z3t B u).flows=u.flows.map (z5l B)from rfl,A6,show(z3t B u).arrays=u.arrays from rfl];omega
theorem y3l{u:Un}(h:(z18 u).1≠0):z93 B u=(⟨[],[]⟩,1):=by
 have:((z4x u).1==0)=false:=by rw[z99];simpa using h
 simp[z93,this]
theorem z69{u:Un}(h:(z18 u).1=0):z93 B u=(z3t B u,0):=by
 have:((z4x u).1==0)=true:=by rw[z99];simpa using h
 simp[z93,this]
theorem y5l(hw:∀l,z0y (B l)<=z0y l)(u:Un):z0h (z93 B u).1<=z0h u:=by
 unfold z93;split
 ·exact yq7 B hw u
 ·simp[z0h,wtA,wtF]
end
end
section
section
variable {α β:Type} [DecidableEq α]
def aGet(k:α):List (α×β)->Option β
 |[]=>none
 |(a,b)::r=>if k=a then some b else aGet k r
def aPut(k:α)(v:β):List (α×β)->List (α×β)
 |[]=>[(k,v)]
 |(a,b)::r=>if k=a then(k,v)::r else(a,b)::aPut k v r
theorem z42(j k:α)(v:β):∀es:List (α×β),aGet j (aPut k v es)=if j=k then some v else aGet j es
 |[]=>by simp[aPut,aGet]
 |(a,b)::r=>by
  have ih:=z42 j k v r;unfold aPut
  by_cases h:k=a
  ·subst h;rw[if_pos rfl];unfold aGet
   by_cases h2:j=k
   ·rw[if_pos h2,if_pos h2]
   ·rw[if_neg h2,if_neg h2,if_neg h2]
  ·rw[if_neg h];unfold aGet;rw[ih]
   by_cases h2:j=a
   ·subst h2;rw[if_pos rfl,if_neg (λe=>h e.symm),if_pos rfl]
   ·rw[if_neg h2,if_neg h2]
theorem yi6{k:α}{v:β}{e:α×β}:∀{es:List (α×β)},e∈aPut k v es->e=(k,v)∨e∈es
 |[],h=>by simp[aPut]at h;exact .inl h
 |(a,b)::r,h=>by
  unfold aPut at h;split at h
  ·rcases Am.1 h with h|h
   ·exact .inl h
   ·exact .inr (.tail _ h)
  ·rcases Am.1 h with h|h
   ·exact .inr (h▸ .head _)
   ·exact(yi6 h).imp id (.tail _)
theorem yi5{k:α}{v:β}:∀{es:List (α×β)},aGet k es=some v->(k,v)∈es
 |[],h=>by simp[aGet]at h
 |(a,b)::r,h=>by
  unfold aGet at h;split at h
  ·rename_i e;subst e;cases h;exact .head _
  ·exact .tail _ (yi5 h)
end
structure Ky where
 kind:Int
 op:Int
 n:Int
 a:Int
 b:Int
 deriving DecidableEq
abbrev TT:=List (Int×Int)
structure Tb where
 seen:List (Ky×Int)
 nums:TT
def z10(to:TT)(v:Int):Int:=(aGet v to).getD v
def z8t(op:Int):Bool:=op==1||op==3||op==6||op==7||op==8||op==16||op==17
def z3v(x:Nd):Ky :=
 if x.kind==3 then⟨x.kind,x.op,x.n,x.args.getD 0 0,0⟩
 else if x.kind==4 then(if z8t x.op&&decide (x.args.getD 0 0 > x.args.getD 1 0)then⟨x.kind,x.op,x.n,x.args.getD 1 0,x.args.getD 0 0⟩else⟨x.kind,x.op,x.n,x.args.getD 0 0,x.args.getD 1 0⟩)
 else⟨x.kind,x.op,x.n,0,0⟩
def z71(op n:Int):Bool :=
 if op==1||op==2||op==7||op==8||op==9||op==10||op==11 then n==0
 else if op==3||op==4 then n==1
 else if op==6 then n == -1 else false
def y2n(nums:TT)(v:Int)(q:Int->Bool):Bool:=match aGet v nums with
 |some m=>q m
 |none=>false
def z4y(nums:TT)(x:Nd):Option Int :=
 if x.kind != 4 then none
 else if y2n nums (x.args.getD 1 0) (z71 x.op)then some (x.args.getD 0 0)
 else if y2n nums (x.args.getD 0 0) (λm=>z8t x.op&&z71 x.op m)then some (x.args.getD 1 0)
 else none
def z76(tb:Tb)(to:TT)(x:Nd):Bool×Tb×TT:=match z4y tb.nums x with
 |some y=>(false,tb,aPut (x.outs.headD 0) y to)
 |none=>match aGet (z3v x) tb.seen with
  |some y=>(false,tb,aPut (x.outs.headD 0) y to)
  |none=>(true,⟨aPut (z3v x) (x.outs.headD 0) tb.seen,if x.kind==1 then aPut (x.outs.headD 0) x.n tb.nums else tb.nums⟩,to)
def stK(kind:Int):Bool:=kind==1||kind==2||kind==3||kind==4
mutual
def z0q(tb:Tb)(to:TT):Nd->List Nd×Tb×TT
 |.mk kind op n name args outs params ks =>
  if stK kind then
   (if (z76 tb (z0l tb to ks).2 (.mk kind op n name (args.map (z10 to)) outs params (z0l tb to ks).1)).1 then[.mk kind op n name (args.map (z10 to)) outs params (z0l tb to ks).1]else[],
    (z76 tb (z0l tb to ks).2 (.mk kind op n name (args.map (z10 to)) outs params (z0l tb to ks).1)).2)
  else([.mk kind op n name (args.map (z10 to)) outs params (z0l tb to ks).1],tb,(z0l tb to ks).2)
def z0e(tb:Tb)(to:TT):List Nd->List Nd×Tb×TT
 |[]=>([],tb,to)
 |x::r=>((z0q tb to x).1++(z0e (z0q tb to x).2.1 (z0q tb to x).2.2 r).1,(z0e (z0q tb to x).2.1 (z0q tb to x).2.2 r).2)
def z0l(tb:Tb)(to:TT):List (List Nd)->List (List Nd)×TT
 |[]=>([],to)
 |l::r=>((z0e tb to l).1::(z0l tb (z0e tb to l).2.2 r).1,(z0l tb (z0e tb to l).2.2 r).2)
end
def z17(tb:Tb)(to:TT)(x:Nd):Nd:=.mk x.kind x.op x.n x.name (x.args.map (z10 to)) x.outs x.params (z0l tb to x.kids).1
theorem z9c(tb:Tb)(to:TT)(x:Nd):z0q tb to x =
 if stK x.kind then(if (z76 tb (z0l tb to x.kids).2 (z17 tb to x)).1 then[z17 tb to x]else[],(z76 tb (z0l tb to x.kids).2 (z17 tb to x)).2)
 else([z17 tb to x],tb,(z0l tb to x.kids).2):=by
 cases x;simp only[z0q,z17,Nd.kind,Nd.op,Nd.n,Nd.name,Nd.args,Nd.outs,Nd.params,Nd.kids];rfl
def stB(l:List Nd):List Nd:=(z0e ⟨[],[]⟩ [] l).1
mutual
def y2o:Nd->Bool
 |.mk kind _ _ _ args outs _ ks=>(!stK kind || !outs.isEmpty)&&(kind != 3||decide (1<=args.length))&&(kind != 4||decide (2<=args.length))&&zt1 ks
def zt2:List Nd->Bool
 |[]=>true
 |x::r=>y2o x&&zt2 r
def zt1:List (List Nd)->Bool
 |[]=>true
 |l::r=>zt2 l&&zt1 r
end
theorem zf5(x:Nd):y2o x=((!stK x.kind || !x.outs.isEmpty)&&(x.kind != 3||decide (1<=x.args.length))&&(x.kind != 4||decide (2<=x.args.length))&&zt1 x.kids):=by
 cases x;simp only[y2o,Nd.kind,Nd.args,Nd.outs,Nd.kids];rfl
theorem y9a:∀{l:List Nd}{x:Nd},zt2 l=true->x∈l->y2o x=true
 |y::r,x,hh,hx=>by
  simp only[zt2,A0]at hh;rcases Am.1 hx with rfl|hx
  ·exact hh.1
  ·exact y9a hh.2 hx
theorem y99:∀{l:List (List Nd)} {x:List Nd},zt1 l=true->x∈l->zt2 x=true
 |y::r,x,hh,hx=>by
  simp only[zt1,A0]at hh;rcases Am.1 hx with rfl|hx
  ·exact hh.1
  ·exact y99 hh.2 hx
theorem y4k(tb:Tb)(to:TT)(x:Nd):(z0q tb to x).1.length<=1:=by
 rw[z9c];split
 ·dsimp only;split<;>simp
 ·simp
theorem zf4:∀(l:List Nd)(tb:Tb)(to:TT),(z0e tb to l).1.length<=l.length
 |[],_,_=>by simp[z0e]
 |x::r,tb,to=>by
  have h1:=y4k tb to x;have h2:=zf4 r (z0q tb to x).2.1 (z0q tb to x).2.2;simp only[z0e,B5,Al];omega
mutual
theorem j5j:∀(x:Nd)(tb:Tb)(to:TT),wtL (z0q tb to x).1<=wtN x
 |.mk kind op n name args outs params ks,tb,to=>by
  have hk:=y9l ks tb to;unfold z0q;split
  ·dsimp only;split
   ·simp only[wtL,wtN,A6];omega
   ·simp[wtL]
  ·simp only[wtL,wtN,A6];omega
theorem y2e:∀(l:List Nd)(tb:Tb)(to:TT),wtL (z0e tb to l).1<=wtL l
 |[],_,_=>by simp[z0e]
 |x::r,tb,to=>by
  have h1:=j5j x tb to;have h2:=y2e r (z0q tb to x).2.1 (z0q tb to x).2.2;simp only[z0e,yi2,wtL];omega
theorem y9l:∀(ks:List (List Nd)) (tb:Tb) (to:TT),wtK (z0l tb to ks).1<=wtK ks
 |[],_,_=>by simp[z0l]
 |l::r,tb,to=>by
  have h1:=y2e l tb to;have h2:=y9l r tb (z0e tb to l).2.2;have h3:=zf4 l tb to;simp only[z0l,wtK];omega
end
theorem y3h(l:List Nd):z0y (stB l)<=z0y l:=by
 have h1:=y2e l ⟨[],[]⟩ [];have h2:=zf4 l ⟨[],[]⟩ [];unfold z0y stB;omega
theorem y4i:∀(ks:List (List Nd)) (tb:Tb) (to:TT),(z0l tb to ks).1.length=ks.length
 |[],_,_=>by simp[z0l]
 |l::r,tb,to=>by simp[z0l,y4i r]
mutual
theorem yx9:∀(x:Nd)(tb:Tb)(to:TT),List.Sublist (dL (z0q tb to x).1) (dN x)
 |.mk kind op n name args outs params ks,tb,to=>by
  have hk:=y4j ks tb to;have h1:List.Sublist (params++(dK (z0l tb to ks).1++outs)) (params++(dK ks++outs)):=(List.Sublist.refl _).append (hk.append (List.Sublist.refl _));unfold z0q;split
  ·dsimp only;split
   ·simpa[dL,dN]using h1
   ·simp[dL]
  ·simpa[dL,dN]using h1
theorem zt0:∀(l:List Nd)(tb:Tb)(to:TT),List.Sublist (dL (z0e tb to l).1) (dL l)
 |[],_,_=>by simp[z0e,dL]
 |x::r,tb,to=>by
  simp only[z0e,dL_app,dL];exact(yx9 x tb to).append (zt0 r _ _)
theorem y4j:∀(ks:List (List Nd)) (tb:Tb) (to:TT),List.Sublist (dK (z0l tb to ks).1) (dK ks)
 |[],_,_=>by simp[z0l,dK]
 |l::r,tb,to=>by
  simp only[z0l,dK];exact(zt0 l tb to).append (y4j r tb _)
end
mutual
theorem y6h:∀(x:Nd)(tb:Tb)(to:TT),z0k (z0q tb to x).1=z2l x
 |.mk kind op n name args outs params ks,tb,to=>by
  have hk:=zo2 ks tb to;unfold z0q
  by_cases hK:stK kind=true
  ·have h14:(kind==14)=false:=by
    simp only[stK,B7,Ak]at hK;simp;omega
   have h10:(kind==10)=false:=by
    simp only[stK,B7,Ak]at hK;simp;omega
   rw[if_pos hK];dsimp only;split<;>simp[z0k,z2l,h14,h10]
  ·rw[if_neg hK];simp[z0k,z2l,hk]
theorem z7e:∀(l:List Nd)(tb:Tb)(to:TT),z0k (z0e tb to l).1=z0k l
 |[],_,_=>by simp[z0e]
 |x::r,tb,to=>by
  simp only[z0e,y39,z0k,y6h x tb to,z7e r]
theorem zo2:∀(ks:List (List Nd)) (tb:Tb) (to:TT),z38 (z0l tb to ks).1=z38 ks
 |[],_,_=>by simp[z0l]
 |l::r,tb,to=>by
  simp only[z0l,z38,z7e l tb to,zo2 r]
end
theorem z7k(tb:Tb)(to:TT)(x:Nd)(h:stK x.kind=false):z0q tb to x=([z17 tb to x],tb,(z0l tb to x.kids).2):=by
 rw[z9c,h];rfl
theorem z9g{x:Nd}(h:z05 x=true):stK x.kind=false:=by
 cases hK:stK x.kind with
 |false=>rfl
 |true =>
  simp only[stK,B7,Ak]at hK;have h10:(x.kind==10)=false:=by simp;omega
  have h11:(x.kind==11)=false:=by simp;omega
  unfold z05 at h;simp only[h10,h11,Cy,Aj,Br]at h;rcases hK with((e|e)|e)|e<;>(rw[e]at h;simp[z0x]at h)
theorem last_app{A B:List Nd}(h:B≠[]):(A++B).getLast? = B.getLast?:=by
 rw[List.getLast?_append]
 cases hb:B.getLast? with
 |none=>exact absurd (List.getLast?_eq_none_iff.1 hb) h
 |some z=>rfl
theorem z5c{u:Un}{f:Fl}{deep:Int}{w:Wh}:∀{l:List Nd}{all:List Int}(tb:Tb)(to:TT),vGo u f deep w all l=true->l≠[]->(z0e tb to l).1≠[]/\z2v (z0e tb to l).1=z2v l
 |[],_,_,_,_,h=>absurd rfl h
 |[x],all,tb,to,hv,_=>by
  simp only[vGo,A0,Ak,List.isEmpty_nil]at hv;rw[show(z0e tb to [x]).1=(z0q tb to x).1 by simp[z0e],z7k tb to x (z9g hv.1.2)]
  exact⟨by simp,by cases x;rfl⟩
 |x::y::r,all,tb,to,hv,_=>by
  unfold vGo at hv;simp only[A0]at hv;obtain⟨i1,i2⟩:=z5c (l:=y::r) (z0q tb to x).2.1 (z0q tb to x).2.2 hv.2 sI0;have e:(z0e tb to (x::y::r)).1=(z0q tb to x).1++(z0e (z0q tb to x).2.1 (z0q tb to x).2.2 (y::r)).1:=by rw[z0e]
  rw[e];refine⟨λh=>i1 (List.append_eq_nil_iff.1 h).2,?_⟩;unfold z2v at i2⊢;rw[last_app i1,i2];simp[Eu]
end
def Vis(tys all:List Int)(y t:Int):Prop:=all.contains y=true/\0<=y/\y<tys.length/\tys.getD y.toNat 0=t
theorem Vis.mono{tys all:List Int}{y t:Int}(h:Vis tys all y t)(c:List Int):Vis tys (all++c) y t:=⟨by rw[Cg,h.1];rfl,h.2⟩
def Rel(tys:List Int)(to:TT)(all all':List Int):Prop:=∀v,all.contains v=true->0<=v->v<tys.length->Vis tys all' (z10 to v) (tys.getD v.toNat 0)
theorem zt9{tys seen:List Int}{v w:Int}:z95 tys seen v w=true↔seen.contains v=true/\0<=v/\v<tys.length/\(w=0∨tys.getD v.toNat 0=w):=by
 unfold z95;simp only[Bf,Bm,Cc,Bool.not_eq_false',Bool.and_eq_false_iff,bne_eq_false_iff_eq];constructor
 ·rintro⟨⟨⟨h1,h2⟩,h3⟩,h4⟩;exact⟨h3,by omega,by omega,h4⟩
 ·rintro⟨h3,h1,h2,h4⟩;exact⟨⟨⟨by omega,by omega⟩,h3⟩,h4⟩
theorem use_rel{tys all all':List Int}{to:TT}(hr:Rel tys to all all'){v w:Int}(h:z95 tys all v w=true):z95 tys all' (z10 to v) w=true:=by
 obtain⟨h1,h2,h3,h4⟩:=zt9.1 h;obtain⟨k1,k2,k3,k4⟩:=hr v h1 h2 h3;exact zt9.2 ⟨k1,k2,k3,by rw[k4];exact h4⟩
theorem y28{tys all all':List Int}{to:TT}(hr:Rel tys to all all'):∀{l want:List Int},z14 tys all l want=true->z14 tys all' (l.map (z10 to)) want=true
 |[],_,_=>by simp[z14]
 |_::_,[],_=>by simp[z14]
 |v::r,w::ws,h=>by
  simp only[z14,A0,B3]at h⊢;exact⟨use_rel hr h.1,y28 hr h.2⟩
theorem y29{tys all all':List Int}{to:TT}(hr:Rel tys to all all'){l want:List Int}(h:z08 tys all l want=true):z08 tys all' (l.map (z10 to)) want=true:=by
 unfold z08 at h⊢;simp only[A0,A6]at h⊢;exact⟨h.1,y28 hr h.2⟩
theorem Rel.outs{tys all all' outs:List Int}{to:TT}(hr:Rel tys to all all')(hn:∀v∈outs,aGet v to=none):Rel tys to (all++outs) (all'++outs):=λv hv h0 h1=>by
 rw[Cg,B7]at hv
 by_cases ho:outs.contains v=true
 ·have e:z10 to v=v:=by unfold z10;rw[hn v (List.contains_iff_mem.1 ho)];rfl
  rw[e];exact⟨by rw[Cg,ho,Bh],h0,h1,rfl⟩
 ·exact(hr v (hv.resolve_right ho) h0 h1).mono _
theorem Rel.congr{tys all all':List Int}{to to':TT}(hr:Rel tys to all all')(hn:∀v,all.contains v=true->aGet v to'=aGet v to):Rel tys to' all all':=λv hv h0 h1=>by
 have e:z10 to' v=z10 to v:=by unfold z10;rw[hn v hv]
 rw[e];exact hr v hv h0 h1
def kTy(k:Ky):Int:=if k.kind==1 then 1 else if k.kind==2 then 2 else(z0f k.op).2
def TabOk(tys:List Int)(tb:Tb)(all:List Int):Prop:=∀e∈tb.seen,Vis tys all e.2 (kTy e.1)
theorem TabOk.mono{tys all:List Int}{tb:Tb}(h:TabOk tys tb all)(c:List Int):TabOk tys tb (all++c):=λe he=>(h e he).mono c
theorem y91{u:Un}{f:Fl}{to:TT}{all all':List Int}{w:Wh}{outs:List Int}{x y:Nd}(ek:y.kind=x.kind)(eo:y.op=x.op)(en:y.n=x.n)(em:y.name=x.name)(ea:y.args=x.args.map (z10 to))(hr:Rel f.types to all all')
 (h:(z8r u f x all w).ok f.types outs=true):(z8r u f y all' w).ok f.types outs=true:=by
 have M:∀want,z08 f.types all x.args want=true->z08 f.types all' (x.args.map (z10 to)) want=true:=λwant=>y29 hr;have F:∀(b b':Bool) (want:Option (List Int)),(b=true->b'=true)->SForm.ok ⟨b,want⟩ f.types outs=true->SForm.ok ⟨b',want⟩ f.types outs=true:=λb b' want hb h=>by
  cases want<;>simp only[SForm.ok,A0]at h⊢<;>exact⟨hb h.1,h.2⟩
 unfold z8r at h⊢;rw[ek,eo,en,em,ea]
 by_cases k1:(x.kind==1)=true
 ·rw[if_pos k1]at h⊢;exact F _ _ _ (λhb=>M _ hb) h
 rw[if_neg k1]at h⊢
 by_cases k2:(x.kind==2)=true
 ·rw[if_pos k2]at h⊢;exact F _ _ _ (λhb=>by simp only[A0]at hb⊢;exact⟨hb.1,M _ hb.2⟩) h
 rw[if_neg k2]at h⊢
 by_cases k3:(x.kind==3)=true
 ·rw[if_pos k3]at h⊢;exact F _ _ _ (λhb=>by simp only[A0]at hb⊢;exact⟨hb.1,M _ hb.2⟩) h
 rw[if_neg k3]at h⊢
 by_cases k4:(x.kind==4)=true
 ·rw[if_pos k4]at h⊢;refine F _ _ _ (λhb=>?_) h;simp only[A0]at hb⊢;refine⟨⟨hb.1.1,M _ hb.1.2⟩,?_⟩;have ht:=hb.1.2;unfold z08 at ht;simp only[A0,Ak,Al,Az]at ht
  match x.args,ht,hb.2 with
  |[a,b],ht,h2 =>
   simp only[z14,A0]at ht;obtain⟨a1,a2,a3,_⟩:=zt9.1 ht.2.1;obtain⟨b1,b2,b3,_⟩:=zt9.1 ht.2.2.1;have e1:=(hr a a1 a2 a3).2.2.2;have e2:=(hr b b1 b2 b3).2.2.2;simp only[B3,Cs,List.getD_cons_zero,List.getD_cons_succ]at h2⊢;rw[e1,e2];exact h2
 rw[if_neg k4]at h⊢
 by_cases k5:(x.kind==5)=true
 ·rw[if_pos k5]at h⊢;exact F _ _ _ (λhb=>by simp only[A0]at hb⊢;exact⟨hb.1,M _ hb.2⟩) h
 rw[if_neg k5]at h⊢
 by_cases k6:(x.kind==6)=true
 ·rw[if_pos k6]at h⊢;exact F _ _ _ (λhb=>by simp only[A0]at hb⊢;exact⟨hb.1,M _ hb.2⟩) h
 rw[if_neg k6]at h⊢
 by_cases k7:(x.kind==7)=true
 ·rw[if_pos k7]at h⊢
  by_cases hp:decide (z06 x.name u.flows 0≥0)=true
  ·rw[if_pos hp]at h⊢
   cases hg:u.flows[(z06 x.name u.flows 0).toNat]? with
   |none=>rw[hg]at h;exact h
   |some g=>rw[hg]at h;exact F _ _ _ (λhb=>M _ hb) h
  ·rw[if_neg hp]at h⊢;exact h
 rw[if_neg k7]at h⊢
 by_cases k8:(x.kind==8)=true
 ·rw[if_pos k8]at h⊢;exact F _ _ _ (λhb=>by simpa using hb) h
 rw[if_neg k8]at h⊢
 by_cases k9:(x.kind==9)=true
 ·rw[if_pos k9]at h⊢;exact F _ _ _ (λhb=>M _ hb) h
 rw[if_neg k9]at h⊢
 by_cases k12:(x.kind==12)=true
 ·rw[if_pos k12]at h⊢;exact F _ _ _ (λhb=>by simp only[A0]at hb⊢;exact⟨hb.1,M _ hb.2⟩) h
 rw[if_neg k12]at h⊢
 by_cases k13:(x.kind==13)=true
 ·rw[if_pos k13]at h⊢;exact F _ _ _ (λhb=>by simp only[A0]at hb⊢;exact⟨hb.1,M _ hb.2⟩) h
 rw[if_neg k13]at h⊢
 by_cases k14:(x.kind==14)=true
 ·rw[if_pos k14]at h⊢;exact F _ _ _ (λhb=>by simp only[A0]at hb⊢;exact⟨hb.1,M _ hb.2⟩) h
 rw[if_neg k14]at h⊢
 by_cases k15:(x.kind==15)=true
 ·rw[if_pos k15]at h⊢;exact F _ _ _ (λhb=>M _ hb) h
 rw[if_neg k15]at h⊢;exact h
theorem zy8{tys outs:List Int}{t:Int}(h:z5z tys outs [t]=true)(ht:t≠0):∃v,outs=[v]/\0<=v/\v<tys.length/\tys.getD v.toNat 0=t:=by
 match outs,h with
 |[v],h =>
  simp only[z5z,C8,z9b,A0,B6,B7,Ak]at h
  exact⟨v,rfl,h.1.1,h.1.2,h.2.resolve_left ht⟩
 |[],h=>simp[z5z]at h
 |_::_::_,h=>simp[z5z]at h
theorem op2(op:Int):(z0f op).2≠0:=by
 unfold z0f
 repeat' split
 all_goals simp
theorem zy9{u:Un}{f:Fl}{x:Nd}{s:List Int}{w:Wh}(hK:stK x.kind=true)(h:(z8r u f x s w).ok f.types x.outs=true) :
 ∃v,x.outs=[v]/\0<=v/\v<f.types.length/\f.types.getD v.toNat 0=(if x.kind==1 then 1 else if x.kind==2 then 2 else(z0f x.op).2):=by
 unfold z8r at h;simp only[stK,B7]at hK
 by_cases k1:(x.kind==1)=true
 ·rw[if_pos k1]at h⊢;simp only[SForm.ok,A0]at h;exact zy8 h.2 dC0
 rw[if_neg k1]at h⊢
 by_cases k2:(x.kind==2)=true
 ·rw[if_pos k2]at h⊢;simp only[SForm.ok,A0]at h;exact zy8 h.2 dC0
 rw[if_neg k2]at h⊢
 by_cases k3:(x.kind==3)=true
 ·rw[if_pos k3]at h;simp only[SForm.ok,A0]at h;exact zy8 h.2 (op2 _)
 rw[if_neg k3]at h;have k4:(x.kind==4)=true:=by
  rcases hK with((h'|h')|h')|h'
  ·exact absurd h' k1
  ·exact absurd h' k2
  ·exact absurd h' k3
  ·exact h'
 rw[if_pos k4]at h;simp only[SForm.ok,A0]at h;exact zy8 h.2 (op2 _)
theorem yn3{op m:Int}(h:z71 op m=true):z0f op=(1,1):=by
 have h2:op=1∨op=2∨op=3∨op=4∨op=6∨op=7∨op=8∨op=9∨op=10∨op=11:=by
  unfold z71 at h;split at h
  ·rename_i e;simp only[B7,Ak]at e;omega
  ·split at h
   ·rename_i e;simp only[B7,Ak]at e;omega
   ·split at h
    ·rename_i e;simp only[Ak]at e;omega
    ·cases h
 rcases h2 with rfl|rfl|rfl|rfl|rfl|rfl|rfl|rfl|rfl|rfl<;>rfl
theorem j1y{u:Un}{f:Fl}{x:Nd}{s:List Int}{w:Wh}{nums:TT}{y:Int}(hp:z4y nums x=some y){outs:List Int}(h:(z8r u f x s w).ok f.types outs=true) :
 x.kind=4/\Vis f.types s y 1/\(z0f x.op).2=1:=by
 unfold z4y at hp;split at hp
 ·cases hp
 rename_i hk;have k4:x.kind=4:=by simpa using hk
 have hop:(y=x.args.getD 0 0∨y=x.args.getD 1 0)/\z0f x.op=(1,1):=by
  split at hp
  ·rename_i hh
   cases hp
   refine⟨.inl rfl,?_⟩;unfold y2n at hh;split at hh
   ·exact yn3 hh
   ·cases hh
  ·split at hp
   ·rename_i hh
    cases hp
    refine⟨.inr rfl,?_⟩;unfold y2n at hh;split at hh
    ·simp only[A0]at hh;exact yn3 hh.2
    ·cases hh
   ·cases hp
 refine⟨k4,?_,by rw[hop.2]⟩;unfold z8r at h;simp only[k4]at h;simp only[SForm.ok,A0,show((4:Int)==1)=false from rfl,show((4:Int)==2)=false from rfl,show((4:Int)==3)=false from rfl,show((4:Int)==4)=true from rfl,Aj,Br,C2]at h;have ht:=h.1.1.2;rw[hop.2]at ht;unfold z08 at ht;simp only[A0,Ak,Al,Az]at ht
 match hx:x.args,ht with
 |[a,b],ht =>
  simp only[z14,A0]at ht;obtain⟨a1,a2,a3,a4⟩:=zt9.1 ht.2.1;obtain⟨b1,b2,b3,b4⟩:=zt9.1 ht.2.2.1;rw[hx]at hop;rcases hop.1 with rfl|rfl
  ·exact⟨a1,a2,a3,a4.resolve_left dC0⟩
  ·exact⟨b1,b2,b3,b4.resolve_left dC0⟩
theorem yk3(x:Nd):(z3v x).kind=x.kind/\(z3v x).op=x.op:=by
 unfold z3v
 repeat' split
 all_goals exact⟨rfl,rfl⟩
theorem j22{tb:Tb}{to:TT}{x:Nd}(h:x.outs≠[]){v:Int}(hv:v∉x.outs):aGet v (z76 tb to x).2.2=aGet v to:=by
 have hne:v≠x.outs.headD 0:=λe=>hv (by rw[e];cases ho:x.outs with|nil=>exact absurd ho h|cons a r=>simp);unfold z76;split
 ·rw[z42,if_neg hne]
 ·split
  ·rw[z42,if_neg hne]
  ·rfl
mutual
theorem za6:∀(x:Nd)(tb:Tb)(to:TT),y2o x=true->∀v,v∉dN x->aGet v (z0q tb to x).2.2=aGet v to
 |.mk kind op n name args outs params ks,tb,to,h,v,hv=>by
  simp only[y2o,A0]at h;simp only[dN,Aw,not_or]at hv;have hk:=zj9 ks tb to h.2 v hv.2.1;unfold z0q
  by_cases hK:stK kind=true
  ·rw[if_pos hK];dsimp only;rw[j22 (by rw[hK]at h;simp at h;exact h.1.1.1) hv.2.2];exact hk
  ·rw[if_neg hK];exact hk
theorem z6e:∀(l:List Nd)(tb:Tb)(to:TT),zt2 l=true->∀v,v∉dL l->aGet v (z0e tb to l).2.2=aGet v to
 |[],_,_,_,_,_=>by simp[z0e]
 |x::r,tb,to,h,v,hv=>by
  simp only[zt2,A0]at h;simp only[dL,Aw,not_or]at hv;simp only[z0e];rw[z6e r _ _ h.2 v hv.2,za6 x tb to h.1 v hv.1]
theorem zj9:∀(ks:List (List Nd)) (tb:Tb) (to:TT),zt1 ks=true->∀v,v∉dK ks->aGet v (z0l tb to ks).2=aGet v to
 |[],_,_,_,_,_=>by simp[z0l]
 |l::r,tb,to,h,v,hv=>by
  simp only[zt1,A0]at h;simp only[dK,Aw,not_or]at hv;simp only[z0l];rw[zj9 r _ _ h.2 v hv.2,z6e l tb to h.1 v hv.1]
end
def EqT(to:TT)(S a b:List Int):Prop:=∀v∈S,getV b (z10 to v)=getV a v
theorem EqT.mof{to:TT}{S a b:List Int}(h:EqT to S a b):∀{l:List Int},(∀v∈l,v∈S)->mOf b (l.map (z10 to))=mOf a l
 |[],_=>rfl
 |i::r,hs=>by
  simp only[B3,mOf];rw[h i (hs i (.head _)),EqT.mof h λv hv=>hs v (.tail _ hv)]
theorem EqT.sub{to to':TT}{S T a b:List Int}(h:EqT to S a b)(hc:∀v∈T,v∈S/\z10 to v=z10 to' v):EqT to' T a b:=λv hv=>by rw[<- (hc v hv).2];exact h v (hc v hv).1
theorem EqT.sets{to:TT}{S l p a b a2 b2:List Int}(h:EqT to S a b)(h1:mSet a l p=some a2)(h2:mSet b l p=some b2)(hs:∀v∈S,z10 to v∉l)(hl:∀v∈l,aGet v to=none):EqT to (S++l) a2 b2:=by
 intro v hv
 by_cases hm:v∈l
 ·have e:z10 to v=v:=by unfold z10;rw[hl v hm];rfl
  rw[e];have:=EqS.msets (S:=[]) (λ_ h=>by simp at h) h1 h2 v (by simpa using hm);exact this.symm
 ·have hS:=(Aw.1 hv).resolve_right hm;rw[zy4 h2 (hs v hS),zy4 h1 hm];exact h v hS
theorem EqT.seto{to:TT}{S outs a b a2 b2:List Int}{y:Int}(h:EqT to S a b)(ho:outs.length<=1)(h1:setO outs a y a2)(h2:setO outs b y b2)(hs:∀v∈S,z10 to v∉outs)(hl:∀v∈outs,aGet v to=none):EqT to (S++outs) a2 b2:=by
 intro v hv
 by_cases hm:v∈outs
 ·have e:z10 to v=v:=by unfold z10;rw[hl v hm];rfl
  rw[e];have:=EqS.setO (S:=[]) (λ_ h=>by simp at h) ho h1 h2 v (by simpa using hm);exact this.symm
 ·have hS:=(Aw.1 hv).resolve_right hm;rw[y6a h2 (hs v hS),y6a h1 hm];exact h v hS
structure New(f:Fl)(D all all':List Int)(to:TT):Prop where
 nd:D.Nodup
 fa:∀v∈D,all.contains v=false
 fb:∀v∈D,v∉all'
 ft:∀v∈D,aGet v to=none
 rel:Rel f.types to all all'
 inr:inR f.types.length all
theorem New.stv{f:Fl}{D all all':List Int}{to:TT}(h:New f D all all' to):∀v∈all,∀o∈D,z10 to v≠o:=λv hv o ho e=>by
 have h1:=(h.inr v hv);have h2:=(h.rel v (List.contains_iff_mem.2 hv) h1.1 h1.2).1;exact h.fb o ho (e▸List.contains_iff_mem.1 h2)
theorem New.na{f:Fl}{D all all':List Int}{to:TT}(h:New f D all all' to){v:Int}(hv:v∈D):v∉all:=λhm=>by
 have:=h.fa v hv;rw[List.contains_iff_mem.2 hm]at this
 cases this
theorem New.sub{f:Fl}{D D' all all':List Int}{to:TT}(h:New f D all all' to)(hn:D'.Nodup)(hs:∀v∈D',v∈D):New f D' all all' to :=
 ⟨hn,λv hv=>h.fa v (hs v hv),λv hv=>h.fb v (hs v hv),λv hv=>h.ft v (hs v hv),h.rel,h.inr⟩
theorem New.to{f:Fl}{D all all':List Int}{to to':TT}(h:New f D all all' to)(h1:∀v∈all,aGet v to'=aGet v to)(h2:∀v∈D,aGet v to'=aGet v to):New f D all all' to' :=
 ⟨h.nd,h.fa,h.fb,λv hv=>(h2 v hv).trans (h.ft v hv),h.rel.congr λv hv=>h1 v (List.contains_iff_mem.1 hv),h.inr⟩
theorem za7{to to':TT}{v:Int}(h:aGet v to'=aGet v to):z10 to' v=z10 to v:=by unfold z10;rw[h]
structure Ends(t0 to:TT)(S0 S1 all:List Int):Prop where
 s0:∀v∈S0,v∈all/\z10 to v=z10 t0 v
 s1:∀v∈S1,v∈all/\z10 to v=z10 t0 v
theorem Ends.step{t0 to to':TT}{S0 S1 all all2:List Int}(h:Ends t0 to S0 S1 all)(h1:∀v∈all,v∈all2)(h2:∀v∈all,aGet v to'=aGet v to):Ends t0 to' S0 S1 all2 :=
 ⟨λv hv=>⟨h1 v (h.s0 v hv).1,(za7 (h2 v (h.s0 v hv).1)).trans (h.s0 v hv).2⟩,λv hv=>⟨h1 v (h.s1 v hv).1,(za7 (h2 v (h.s1 v hv).1)).trans (h.s1 v hv).2⟩⟩
end Go.Proofs.YtjlaalpfpecikaaGreatDoor
