/- PART 2 of 9 of a proof: see the last part. -/
import Derived.Test.YtjlaalpfpecikaaGreatDoorSp1
set_option maxRecDepth 20000
set_option maxHeartbeats 8000000
set_option linter.unusedSimpArgs false
set_option linter.unusedVariables false
set_option linter.unusedSectionVars false
namespace Go.Proofs.YtjlaalpfpecikaaGreatDoor
open Go
section
variable {P:Program} {c:Cx} {R1:Nat->Prop} {o:Oper} {fr:Fr} {hp:Hp} {σ:Heap'} {Q:Exit->Fr->Heap'->Prop}
theorem RepP.keepIt{own:Nat->Prop}{w w':World}{b0:Nat}{p:PV}{v:Value}(h:RepP own w p v)(hs:w.heap.size<=w'.heap.size)(h0:∀off sp,w.cell? ⟨b0,off,sp⟩=none)
 (hk:∀b,b≠b0->w'.heap[b]?=w.heap[b]?):RepP own w' p v:=by
 have key:∀(b off:Nat)(x:Value),w.cell? ⟨b,off,none⟩=some x->w'.cell? ⟨b,off,none⟩=some x:=by
  intro b off x hx
  by_cases e:b=b0
  ·subst e;rw[h0]at hx;cases hx
  ·rw[<- hx];exact Dm (a:=⟨b,off,none⟩) (hk b e)
 induction h with
 |val v=>exact .val v
 |seq els a cap b off u ha hb hl hm hc _ ih=>exact .seq els a cap b off u ha (λhne=>⟨(hb hne).1,Bg (hb hne).2 hs⟩) hl hm (λi el hi j c hj=>key _ _ _ (hc i el hi j c hj)) ih
 |agg cs vs u hl hv _ ih=>exact .agg cs vs u hl hv ih
 |ept cs off b o u hb hc _ ih=>exact .ept cs off b o u ⟨hb.1,Bg hb.2 hs⟩ (λj c hj=>key _ _ _ (hc j c hj)) ih
theorem RepI.mapP{F:Nat->Prop}{ρ:Loc}{w w':World}{x:IV}{v:Value}(hk:∀p v,RepP (owned F ρ) w p v->RepP (owned F ρ) w' p v)(h:RepI F ρ σ w x v):RepI F ρ σ w' x v:=by
 induction h with
 |pv p v h=>exact .pv p v (hk _ _ h)
 |ptr k off v h=>exact .ptr k off v h
 |sl k len v h=>exact .sl k len v h
 |rpt k len off v h=>exact .rpt k len off v h
 |sp k n len v h=>exact .sp k n len v h
 |bs k n v h=>exact .bs k n v h
 |mp k v h=>exact .mp k v h
 |tnil k T v h=>exact .tnil k T v h
 |agg cs vs u hl hv _ ih=>exact .agg cs vs u hl hv ih
 |tup cs vs u hl hv _ ih=>exact .tup cs vs u hl hv ih
 |fn f xs ys vs ws u t hl hv _ hl' hv' _ ih ih'=>exact .fn f xs ys vs ws u t hl hv ih hl' hv' ih'
theorem RepO.mapP{F:Nat->Prop}{ρ:Loc}{w w':World}{b cc:Nat}{o:HO}(hb:w'.heap[b]?=w.heap[b]?)(hk:∀p v,RepP (owned F ρ) w p v->RepP (owned F ρ) w' p v)(h:RepO F ρ σ w b cc o):RepO F ρ σ w' b cc o:=by
 cases h with
 |box cs e a u h hl hv hr=>exact .box cs e a u (hb.trans h) hl hv λj x hj=>(hr j x hj).mapP hk
 |row s els a u h hs hl hm hw hv hr=>exact .row s els a u (hb.trans h) hs hl hm hw hv λi el hi j x hj=>hk _ _ (hr i el hi j x hj)
 |map es a t u h hl hv hr=>exact .map es a t u (hb.trans h) hl hv λi k p hi=>hk _ _ (hr i k p hi)
theorem zu3{w:World}{b0:Nat}{s:ByteArray}{k:Nat}(h:w.heap[b0]?=some (.stringIter s k)):∀off sp,w.cell? ⟨b0,off,sp⟩=none:=by
 intro off sp;simp[World.cell?,h]
theorem All.iterSet{ρ:Loc}{w:World}{a:Act}{b0 k k':Nat}{s:ByteArray}(h:All c ρ σ w fr a)(hit:w.heap[b0]?=some (.stringIter s k))(hge:c.w.heap.size<=b0)(hun:∀j cc,ρ j≠some (b0,cc)) :
 All c ρ σ { w with heap:=w.heap.setIfInBounds b0 (.stringIter s k') } fr a:=by
 have hlt:b0<w.heap.size:=(Cc.1 hit).1;have hoth:∀b,b≠b0->(w.heap.setIfInBounds b0 (Obj.stringIter s k'))[b]?=w.heap[b]?:=λb hb=>by simp[C4 hb]
 have hP:∀p v,RepP (owned c.F ρ) w p v->RepP (owned c.F ρ) { w with heap:=w.heap.setIfInBounds b0 (.stringIter s k') } p v:=λp v hp=>hp.keepIt sI0 (zu3 hit) hoth;refine⟨⟨h.rel.inj,h.rel.apart,λb hb=>by simpa using h.rel.old b hb,λj b cc hj=>?_,h.rel.real⟩,λt x hx=>?_,?_,h.df,h.sz,h.kk⟩
 ·obtain⟨o,h1,h2⟩:=h.rel.obj j b cc hj;exact⟨o,h1,h2.mapP (hoth b λe=>hun j cc (e▸hj)) hP⟩
 ·obtain⟨v,hv,hr⟩:=h.fr t x hx;exact⟨v,hv,hr.mapP hP⟩
 ·have t:=h.tr;exact { t with
   size:=by simpa using t.size
   blk:=λb hb hall=>(hoth b oM0).trans (t.blk b hb hall) }
theorem All.rebase{ρ:Loc}{w:World}{a:Act}(h:All c ρ σ w fr a):All ⟨c.F,c.R,ρ,σ,w,c.n⟩ ρ σ w fr a:=⟨h.rel,h.fr,.refl _ _ _ _ _,h.df,h.sz,h.kept⟩
theorem All.unbase{ρ ρ':Loc}{σ':Heap'}{w w':World}{fr':Fr}{a a':Act}(h:All c ρ σ w fr a)(h':All ⟨c.F,c.R,ρ,σ,w,c.n⟩ ρ' σ' w' fr' a')(hc:∀k,σ k=none->c.σ k=none):All c ρ' σ' w' fr' a' :=
 ⟨h'.rel,h'.fr,h.tr.trans h'.tr (λ_ h=>h) (λk h1 _=>hc k h1),h'.df,h'.sz,h.kk⟩
abbrev itv(b0:Nat):IV:=.pv (.val (.pointer (some ⟨b0,0,none⟩)))
theorem yt4(s:ByteArray)(i:Nat):1<=(Utf8.decode s i).2:=by
 unfold Utf8.decode;simp only
 repeat' split
 all_goals simp
def itPos(w:World)(b0:Nat):Nat:=match w.heap[b0]? with
 |some (.stringIter _ k)=>k
 |_=>0
theorem Sub.cons{fr':Fr}{d:Nat}{x:IV}(h:Sub σ fr fr'):Sub σ ((d,x)::fr) ((d,x)::fr'):=by
 intro t y hy;simp only[Fr.get]at hy⊢
 cases hb:Nat.beq d t with
 |true=>rw[hb]at hy;cases hy;exact⟨_,rfl,λ_ _ _ _ h=>h⟩
 |false=>rw[hb]at hy;exact h t y hy
theorem Tr.strRange{id1 i2 bid:Nat}{ops1 ops2:Array Oper}{rest:Code}{m g nx ex:Oper}{d0 d1 e1 e2:Nat}{x0:Operand}{ty:TypeId}{s:ByteArray}
 (h1:ops1.toList=[m,g]) (hmo:m.op=.move x0) (hmd:m.dst=some d0) (hmg:m.guard=none) (hgo:g.op=.range ty (.tmp d0)) (hgd:g.dst=some d1) (hgg:g.guard=none)
 (hx0:fr.ev x0=some (iStr s)) (hty:P.underlying ty=some .string)
 (h2:ops2.toList=[nx,ex]) (hno:nx.op=.next (.tmp d1) true) (hnd:nx.dst=some e1) (hng:nx.guard=none) (heo:ex.op=.extract (.tmp e1) 0) (hed:ex.dst=some e2) (heg:ex.guard=none)
 (hb0:Nat.blt d0 c.n=true) (hb1:Nat.blt d1 c.n=true) (hb2:Nat.blt e1 c.n=true) (hb3:Nat.blt e2 c.n=true)
 (hcσ:∀k,σ k=none->c.σ k=none)
 (I:Nat->Fr->Prop) (h0:∃fr0,Sub σ ((d0,iStr s)::fr) fr0/\I 0 fr0)
 (hdone:∀b0 k fr',s.size<=k->I k fr'->Q .normal ((e2,iBool false)::(e1,.tup [iBool false])::(d1,itv b0)::fr') σ)
 (round:∀(ρ2:Loc)(w2:World)(b0 k:Nat)(fr':Fr),k<s.size->I k fr' ->
  Tr P ⟨c.F,c.R,ρ2,σ,w2,c.n⟩ rest ((e2,iBool true)::(e1,.tup [iBool true,iInt k,.pv (.val (.int .i32 (Utf8.decode s k).1))])::(d1,itv b0)::fr') σ (λe fr1 σ1=>match e with
   |.normal=>σ1=σ /\ ∃fr'',Sub σ fr1 ((d1,itv b0)::fr'')/\I (k+(Utf8.decode s k).2) fr''
   |.exit _=>False
   |e=>Q e fr1 σ1)) :
 Tr P c (.seq (.region id1 ops1 false) (.block bid (.loop (.seq (.region i2 ops2 false) (.seq (.cond (.tmp e2) .skip (.exit bid)) rest))))) fr σ Q:=by
 obtain⟨fr0,hs0,hI0⟩:=h0;intro ρ w a ha;refine wp_seq (Ga ?_);rw[h1];refine Eu hmg λK hK=>?_;obtain⟨v1,hr1,hv1⟩:=(z2p (R1:=λ_=>True) hmo hx0) ρ w a ha;unfold Oper.wp;rw[hr1 w (.refl _ _ _ _),Cs];refine hK _ _ ?_;clear hK K;have ha2:All c ρ σ w ((d0,iStr s)::fr) (a.put m.dst v1):=by
  have:=ha.put (d:=m.dst) hv1 (by rw[hmd];intro t ht;cases ht;simpa using hb0)
  rwa [hmd]at this⊢
 generalize a.put m.dst v1=a2 at ha2⊢;refine Eu hgg λK2 hK2=>?_;have hevs:a2.eval (.tmp d0)=.string s:=z0v ha2 (show Fr.ev ((d0,iStr s)::fr) (.tmp d0)=_ by simp[Fr.ev,Fr.get]);have hrun:(execOp a2.eval g).run P w=.ok (.value (.pointer (some ⟨w.heap.size,0,none⟩))) (w.iter s 0):=by
  simp[execOp,hgo,hevs,Ai,run_range_string w ty s hty]
 unfold Oper.wp;rw[hrun,Cs];refine hK2 _ _ ?_;obtain⟨ha3,_⟩:=ha2.push (.stringIter s 0);have hfresh:=ha2.fresh;have ha4:All c ρ σ (w.iter s 0) ((d1,itv w.heap.size)::(d0,iStr s)::fr) (a2.put g.dst (.pointer (some ⟨w.heap.size,0,none⟩))):=by
  have:=ha3.put (d:=g.dst) (z3c (.pointer (some ⟨w.heap.size,0,none⟩))) (by rw[hgd];intro t ht;cases ht;simpa using hb1)
  rwa [hgd]at this⊢
 have hge:c.w.heap.size<=w.heap.size:=ha2.tr.size;generalize hb:w.heap.size=b0 at *
 generalize a2.put g.dst (.pointer (some ⟨b0,0,none⟩))=a4 at ha4⊢;show(Code.block _ _).wp P _ a4 (w.iter s 0);refine wp_block ?_;refine wp_loop (λa' w'=>∃k ρ' fr',All c ρ' σ w' ((d1,itv b0)::fr') a'/\I k fr'/\w'.heap[b0]?=some (.stringIter s k)/\∀j cc,ρ' j≠some (b0,cc)) (λ_ w'=>s.size-itPos w' b0) ⟨0,ρ,fr0,ha4.sub (hs0.cons),hI0,by rw[<- hb];exact World.iter_heap w s 0,λj cc hj=>by first|exact hfresh (.inr ⟨j,cc,hj⟩)|exact hfresh (by rw[hb];exact .inr ⟨j,cc,hj⟩)⟩ ?_;rintro a5 w5 ⟨k,ρ5,fr',ha5,hI,hit,hun⟩;refine wp_seq (Ga ?_);rw[h2];have hevp:a5.eval (.tmp d1)=.pointer (some ⟨b0,0,none⟩):=z0v ha5 (show Fr.ev ((d1,itv b0)::fr') (.tmp d1)=_ by simp[Fr.ev,Fr.get]);have hpos:itPos w5 b0=k:=by simp[itPos,hit]
 have hlt0:b0<w5.heap.size:=(Cc.1 hit).1
 by_cases hk:k<s.size
 ·have hrun5:(execOp a5.eval nx).run P w5=.ok (.value (.tuple #[.bool true,.int .i64 k,.int .i32 (Utf8.decode s k).1])) { w5 with heap:=w5.heap.setIfInBounds b0 (.stringIter s (k+(Utf8.decode s k).2)) }:=by
   simp[execOp,hno,hevp,Instr.next,getObj,setObj,Ai,Sem.run,hit,hk,goInt,Result.andThen]
  refine Eu hng λK3 hK3=>?_;unfold Oper.wp;rw[hrun5,Cs];refine hK3 _ _ ?_;have ha6:=ha5.iterSet (k':=k+(Utf8.decode s k).2) hit (by rw[<- hb]at hge⊢;exact hge) hun;have htup:RepI c.F ρ5 σ { w5 with heap:=w5.heap.setIfInBounds b0 (.stringIter s (k+(Utf8.decode s k).2)) } (.tup [iBool true,iInt k,.pv (.val (.int .i32 (Utf8.decode s k).1))]) (.tuple #[.bool true,.int .i64 k,.int .i32 (Utf8.decode s k).1]):=y2j (z3c _) (z3c _) (z3c _);have ha7:All c ρ5 σ { w5 with heap:=w5.heap.setIfInBounds b0 (.stringIter s (k+(Utf8.decode s k).2)) } ((e1,.tup [iBool true,iInt k,.pv (.val (.int .i32 (Utf8.decode s k).1))])::(d1,itv b0)::fr') (a5.put nx.dst (.tuple #[.bool true,.int .i64 k,.int .i32 (Utf8.decode s k).1])):=by
   have:=ha6.put (d:=nx.dst) htup (by rw[hnd];intro t ht;cases ht;simpa using hb2)
   rwa [hnd]at this⊢
  generalize a5.put nx.dst (.tuple #[.bool true,.int .i64 k,.int .i32 (Utf8.decode s k).1])=a7 at ha7⊢;generalize hw7:({ w5 with heap:=w5.heap.setIfInBounds b0 (.stringIter s (k+(Utf8.decode s k).2)) }:World)=w7 at ha7⊢;have hit7:w7.heap[b0]?=some (.stringIter s (k+(Utf8.decode s k).2)):=by rw[<- hw7];simp[hlt0]
  refine Eu heg λK4 hK4=>?_;obtain⟨v8,hr8,hv8⟩:=(z95 (R1:=λ_=>True) (vs:=[iBool true,iInt k,.pv (.val (.int .i32 (Utf8.decode s k).1))]) (z:=iBool true) heo (show Fr.ev ((e1,_)::_) (.tmp e1)=_ by simp[Fr.ev,Fr.get]) rfl) ρ5 w7 a7 ha7;unfold Oper.wp;rw[hr8 w7 (.refl _ _ _ _),Cs];refine hK4 _ _ ?_;have ha8:All c ρ5 σ w7 ((e2,iBool true)::(e1,.tup [iBool true,iInt k,.pv (.val (.int .i32 (Utf8.decode s k).1))])::(d1,itv b0)::fr') (a7.put ex.dst v8):=by
   have:=ha7.put (d:=ex.dst) hv8 (by rw[hed];intro t ht;cases ht;simpa using hb3)
   rwa [hed]at this⊢
  generalize a7.put ex.dst v8=a8 at ha8⊢;show(Code.seq _ _).wp P _ a8 w7;refine wp_seq ?_;refine wp_cond (t:=true) (z0v ha8 (show Fr.ev ((e2,iBool true)::_) (.tmp e2)=_ by simp[Fr.ev,Fr.get])) ?_;rw[A5 rfl];refine wp_skip ?_;show rest.wp P _ a8 w7;refine Ge (round ρ5 w7 b0 k fr' hk hI ρ5 w7 a8 ha8.rebase) ?_;rintro e a9 w9 ⟨ρ9,σ9,fr9,ha9,hq⟩;have hlt7:b0<w7.heap.size:=(Cc.1 hit7).1
  cases e with
  |normal =>
   obtain⟨rfl,fr2,hsub,hI2⟩:=hq;have hit9:w9.heap[b0]?=some (.stringIter s (k+(Utf8.decode s k).2)):=(ha9.tr.blk b0 hlt7 λj cc hj=>A9 hj (hun j cc)).trans hit7;refine⟨⟨_,ρ9,fr2,(ha8.unbase ha9 hcσ).sub hsub,hI2,hit9,λj cc hj=>(ha9.tr.own j b0 cc hj hlt7).elim (hun j cc) λ⟨k0,c0,g,_⟩=>hun k0 c0 g⟩,?_⟩;have:=yt4 s k;rw[hpos];simp only[itPos,hit9]
   omega
  |exit id=>exact hq.elim
  |_=>exact⟨ρ9,σ9,fr9,ha8.unbase ha9 hcσ,hq⟩
 ·have hrun5:(execOp a5.eval nx).run P w5=.ok (.value (.tuple #[.bool false])) w5:=by
   simp[execOp,hno,hevp,Instr.next,getObj,Ai,Sem.run,hit,hk,Result.andThen]
  refine Eu hng λK3 hK3=>?_;unfold Oper.wp;rw[hrun5,Cs];refine hK3 _ _ ?_;have htup:RepI c.F ρ5 σ w5 (.tup [iBool false]) (.tuple #[.bool false]):=.tup _ _ (λ_=>.bool false) rfl (λj x hj=>by
   match j,hj with
   |0,_=>rfl
   |j+1,hj=>simp at hj) λj x hj=>by
   match j,hj with
   |0,hj=>cases hj;exact z3c _
   |j+1,hj=>simp at hj
  have ha7:All c ρ5 σ w5 ((e1,.tup [iBool false])::(d1,itv b0)::fr') (a5.put nx.dst (.tuple #[.bool false])):=by
   have:=ha5.put (d:=nx.dst) htup (by rw[hnd];intro t ht;cases ht;simpa using hb2)
   rwa [hnd]at this⊢
  generalize a5.put nx.dst (.tuple #[.bool false])=a7 at ha7⊢;refine Eu heg λK4 hK4=>?_;obtain⟨v8,hr8,hv8⟩:=(z95 (R1:=λ_=>True) (vs:=[iBool false]) (z:=iBool false) heo (show Fr.ev ((e1,_)::_) (.tmp e1)=_ by simp[Fr.ev,Fr.get]) rfl) ρ5 w5 a7 ha7;unfold Oper.wp;rw[hr8 w5 (.refl _ _ _ _),Cs];refine hK4 _ _ ?_;have ha8:All c ρ5 σ w5 ((e2,iBool false)::(e1,.tup [iBool false])::(d1,itv b0)::fr') (a7.put ex.dst v8):=by
   have:=ha7.put (d:=ex.dst) hv8 (by rw[hed];intro t ht;cases ht;simpa using hb3)
   rwa [hed]at this⊢
  generalize a7.put ex.dst v8=a8 at ha8⊢;show(Code.seq _ _).wp P _ a8 w5;refine wp_seq ?_;refine wp_cond (t:=false) (z0v ha8 (show Fr.ev ((e2,iBool false)::_) (.tmp e2)=_ by simp[Fr.ev,Fr.get])) ?_;rw[A1 sI0];refine wp_exit ?_;show(if bid=bid then _ else _);rw[A5 rfl];exact⟨ρ5,σ,_,ha8,hdone b0 k fr' oM0 hI⟩
end
section
variable {P:Program} {c:Cx} {R1:Nat->Prop} {o:Oper} {fr:Fr} {hp:Hp} {σ:Heap'} {Q:Exit->Fr->Heap'->Prop}
theorem yu9{t e:TypeId}{x:Operand}(ho:o.op=.call { callee:=.builtin .cap,args:=#[x],argTypes:=#[t] })(hx:fr.ev x=some (.pv (.val (.slice none 0 0))))(hu:P.underlying t=some (.slice e)):OkV P c R1 o fr σ (iInt 0):=by
 intro ρ w a h;refine⟨.int .i64 0,λw2 _=>?_,z3c _⟩;simp[execOp,ho,z0v h hx,resolve,Ai,invoke,builtin,Builtin.cap_,B9 hu,goInt]
theorem All.freezeCell{ρ:Loc}{w:World}{a:Act}{k k2 j n:Nat}{s:RT}{els:List (List PV)}{cs:List IV}(h:All c ρ (look hp) w fr a)(hk:look hp k=some (.row s els))(hn:els.length=n)(hk2:look hp k2=some (.box cs))(hj:cs[j]?=some (.sl k n))(hne:k≠k2) :
 All c (z18 ρ k none) (look ((k2,some (.box (cs.set j (.pv (.seq els)))))::(k,none)::hp)) w fr a:=by
 have h':=h.drop (k:=k);have hown:∀b,owned c.F (z18 ρ k none) b->owned c.F ρ b:=λb hb=>by
  rcases hb with hb|⟨i,cc,hi⟩
  ·exact .inl hb
  ·by_cases e:i=k
   ·subst e;rw[z09]at hi;cases hi
   ·rw[z2u (C4 e)]at hi;exact .inr ⟨i,cc,hi⟩
 have hlk:∀i,i≠k2->look ((k2,some (.box (cs.set j (.pv (.seq els)))))::(k,none)::hp) i=look ((k,none)::hp) i:=λi hi=>z1n (C4 hi);have hlk2:look ((k2,some (.box (cs.set j (.pv (.seq els)))))::(k,none)::hp) k2=some (.box (cs.set j (.pv (.seq els)))):=z1h;have hk2':look ((k,none)::hp) k2=some (.box cs):=yd6 hne hk2;have hnew:∀v,RepI c.F ρ (look hp) w (.sl k n) v->RepP (owned c.F (z18 ρ k none)) w (.seq els) v:=by
  intro v hv
  cases hv with
  |sl _ _ _ hv =>
   obtain⟨_,h2⟩:=hv s els hk;rcases h2 hn with⟨b,cc,hρ,rfl⟩|⟨_,hz,rfl⟩
   ·obtain⟨o1,h3,h4⟩:=h.rel.obj k b cc hρ;rw[hk]at h3;cases h3
    cases h4 with
    |row _ _ r u h3 hs hl hm hwe hcells hu =>
     rw[<- hn];refine .seq els _ cc b 0 u (λ_=>rfl) (λ_=>⟨λho=>?_,h.rel.lt hρ⟩) oM0 hm (λi el hi q x hq=>?_) λi el hi q x hq=>(hu i el hi q x hq).own hown
     ·rcases ho with ho|⟨i,cc',hi⟩
      ·exact h.rel.apart _ _ _ hρ ho
      ·by_cases e:i=k
       ·subst e;rw[z09]at hi;cases hi
       ·rw[z2u (C4 e)]at hi;exact e (h.rel.inj _ _ _ _ _ hi hρ)
     ·rw[z4t h3,Bu,hwe el (Af hi)];exact hcells i el hi q x hq
   ·have hnil:els=[]:=Ay oM0;subst hnil;exact .seq [] none 0 0 0 (λ_ _=>undef) sI0 sI0 sI0 (by simp[maxLen]) sI0 sI0
 have hconv:∀x v,RepI c.F (z18 ρ k none) (look ((k,none)::hp)) w x v->RepI c.F (z18 ρ k none) (look ((k2,some (.box (cs.set j (.pv (.seq els)))))::(k,none)::hp)) w x v:=by
  intro x v hx
  induction hx with
  |pv p v hp=>exact .pv p v hp
  |ptr i off v hi =>
   refine .ptr i off v λcs' h2=>?_
   by_cases e:i=k2
   ·subst e;exact hi _ hk2'
   ·rw[hlk i e]at h2;exact hi _ h2
  |sl i len v hi =>
   refine .sl i len v λs' els' h2=>?_
   by_cases e:i=k2
   ·subst e;rw[hlk2]at h2;cases h2
   ·rw[hlk i e]at h2;exact hi _ _ h2
  |sp i n len v hi =>
   refine .sp i n len v λs' els' h2=>?_
   by_cases e:i=k2
   ·subst e;rw[hlk2]at h2;cases h2
   ·rw[hlk i e]at h2;exact hi _ _ h2
  |rpt i len off v hi =>
   refine .rpt i len off v λs' els' h2=>?_
   by_cases e:i=k2
   ·subst e;rw[hlk2]at h2;cases h2
   ·rw[hlk i e]at h2;exact hi _ _ h2
  |bs i n v hi =>
   refine .bs i n v λcs' h2=>?_
   by_cases e:i=k2
   ·subst e;exact hi _ hk2'
   ·rw[hlk i e]at h2;exact hi _ h2
  |mp i v hi =>
   refine .mp i v λes h2=>?_
   by_cases e:i=k2
   ·subst e;rw[hlk2]at h2;cases h2
   ·rw[hlk i e]at h2;exact hi _ h2
  |tnil i T v hi =>
   refine .tnil i T v λcs' h2=>?_
   by_cases e:i=k2
   ·subst e;exact hi _ hk2'
   ·rw[hlk i e]at h2;exact hi _ h2
  |agg cs vs u hl hv _ ih=>exact .agg cs vs u hl hv ih
  |tup cs vs u hl hv _ ih=>exact .tup cs vs u hl hv ih
  |fn f xs ys vs ws u t hl hv _ hl' hv' _ ih ih'=>exact .fn f xs ys vs ws u t hl hv ih hl' hv' ih'
 refine⟨⟨h'.rel.inj,h'.rel.apart,h'.rel.old,λi b cc hi=>?_,λi o h1 h2=>?_⟩,λt x hx=>?_,?_,h'.df,h'.sz,h.kk⟩
 ·obtain⟨o1,h1,h2⟩:=h'.rel.obj i b cc hi
  by_cases e:i=k2
  ·subst e;rw[hk2']at h1;cases h1
   refine⟨_,hlk2,?_⟩;have hρi:ρ i=some (b,cc):=by rwa [z2u hne]at hi
   obtain⟨o3,h3,h4⟩:=h.rel.obj i b cc hρi;rw[hk2]at h3;cases h3
   cases h2 with
   |box _ e' r u h5 hl hv hr =>
    cases h4 with
    |box _ e2 r2 u2 h6 hl2 hv2 hr2 =>
     rw[h5]at h6;cases h6
     refine .box _ e' r u h5 (by simpa using hl) (λq x hq=>?_) λq x hq=>?_
     ·by_cases eq:q=j
      ·subst eq;exact hv q _ hj
      ·rw[Bo (C4 eq)]at hq;exact hv q x hq
     ·by_cases eq:q=j
      ·subst eq;have hlt:q<cs.length:=(A7.1 hj).1;rw[Bp hlt]at hq;cases hq
       have e3:u q=u2 q:=by
        have a1:=hv q _ hj;have a2:=hv2 q _ hj;rw[a1]at a2;exact C0 a2
       rw[e3];exact .pv _ _ (hnew _ (hr2 q _ hj))
      ·rw[Bo (C4 eq)]at hq;exact hconv _ _ (hr q x hq)
  ·refine⟨o1,(hlk i e).trans h1,?_⟩
   cases h2 with
   |box cs' e' r u h hl hv hr=>exact .box cs' e' r u h hl hv λq x hq=>hconv _ _ (hr q x hq)
   |row s' els' r u h hs hl hm hw hv hr=>exact .row s' els' r u h hs hl hm hw hv hr
   |map es r t u h hl hv hr=>exact .map es r t u h hl hv hr
 ·by_cases e:i=k2
  ·subst e;rw[z2u hne]at h2;obtain⟨s',h3⟩:=h.rel.real i _ hk2 h2
   cases h3
  ·rw[hlk i e]at h1;exact h'.rel.real i o h1 h2
 ·obtain⟨v,hv,hr⟩:=h'.fr t x hx;exact⟨v,hv,hconv _ _ hr⟩
 ·have t:=h'.tr;refine⟨t.os,t.tape,t.output,t.size,t.blk,t.own,λi a1 a2 e1 e2=>?_,λi a1 a2 e1 e2=>?_,λi s1 s2 a1 a2 e1 e2 hl=>?_,λi s1 s2 a1 a2 e1 e2=>?_,λi a2 e2=>?_,λi a2 e2=>?_,λi s1 a2 e2=>?_⟩
  all_goals by_cases e:i=k2
  ·subst e;exact t.box i _ _ e1 hk2'
  ·rw[hlk i e]at e2;exact t.box i _ _ e1 e2
  ·subst e;rw[hlk2]at e2;cases e2
  ·rw[hlk i e]at e2;exact t.map i _ _ e1 e2
  ·subst e;rw[hlk2]at e2;cases e2
  ·rw[hlk i e]at e2;exact t.row i _ _ _ _ e1 e2 hl
  ·subst e;rw[hlk2]at e2;cases e2
  ·rw[hlk i e]at e2;exact t.grow i _ _ _ _ e1 e2
  ·subst e;exact t.kindB i _ hk2'
  ·rw[hlk i e]at e2;exact t.kindB i _ e2
  ·subst e;rw[hlk2]at e2;cases e2
  ·rw[hlk i e]at e2;exact t.kindM i _ e2
  ·subst e;rw[hlk2]at e2;cases e2
  ·rw[hlk i e]at e2;exact t.kindR i _ _ e2
theorem Tr.freezeCell{x:Code}{k k2 j n:Nat}{s:RT}{els:List (List PV)}{cs:List IV}(hk:look hp k=some (.row s els))(hn:els.length=n)(hk2:look hp k2=some (.box cs))(hj:cs[j]?=some (.sl k n))(hne:k≠k2)
 (h:Tr P c x fr (look ((k2,some (.box (cs.set j (.pv (.seq els)))))::(k,none)::hp)) Q):Tr P c x fr (look hp) Q:=λ_ w a ha=>h _ w a (ha.freezeCell hk hn hk2 hj hne)
theorem L0{f:FuncId}{args:List IV}{pre post:List (Nat×HO)}{R R':Nat->Prop}{r:IV}(h:SC P f args pre R r post)(hR:∀k,look (up pre) k≠none->R' k->R k):SC P f args pre R' r post:=by
 intro F ρ w vs hkept hrel hargs;refine(h F ρ w vs hkept hrel hargs).mono ?_;rintro e w' ⟨ρ',v,he,hv,hrel',t⟩;refine⟨ρ',v,he,hv,hrel',{ t with blk:=λb hb hall=>t.blk b hb λk cc hk=>hR k ?_ (hall k cc hk),own:=λk b cc hk hb=>(t.own k b cc hk hb).elim .inl λ⟨k0,c0,g,gn⟩=>.inr ⟨k0,c0,g,λr=>gn (hR k0 (by obtain⟨o,ho,_⟩:=hrel.obj _ _ _ g;rw[ho];simp) r)⟩ }⟩;obtain⟨o,ho,_⟩:=hrel.obj k b cc hk;rw[ho];simp
theorem Tr.growCell{x:Code}{k k2 j:Nat}{cs:List IV}(s:RT)(hk2:look hp k2=some (.box cs))(hj:cs[j]?=some (.pv (.val (.slice none 0 0))))(hσ:look hp k=none)(hc:c.σ k=none)(hfr:nmFr k fr=false)(hhp:nmHp k hp=false)
 (h:Tr P c x fr (look ((k2,some (.box (cs.set j (.sl k 0))))::(k,some (.row s []))::hp)) Q):Tr P c x fr (look hp) Q:=by
 intro ρ w a ha;obtain⟨hk,h'⟩:=ha.ghost hσ hc hfr hhp s;refine h ρ w a ?_;have hne:k≠k2:=λe=>by subst e;rw[hσ]at hk2;cases hk2
 have hk2':look ((k,some (.row s []))::hp) k2=some (.box cs):=yd6 hne hk2;have hlk:∀i,i≠k2->look ((k2,some (.box (cs.set j (.sl k 0))))::(k,some (.row s []))::hp) i=look ((k,some (.row s []))::hp) i:=λi hi=>z1n (C4 hi);have hlk2:look ((k2,some (.box (cs.set j (.sl k 0))))::(k,some (.row s []))::hp) k2=some (.box (cs.set j (.sl k 0))):=z1h;have hconv:∀x v,RepI c.F ρ (look ((k,some (.row s []))::hp)) w x v->RepI c.F ρ (look ((k2,some (.box (cs.set j (.sl k 0))))::(k,some (.row s []))::hp)) w x v:=by
  intro x v hx
  induction hx with
  |pv p v hp=>exact .pv p v hp
  |ptr i off v hi =>
   refine .ptr i off v λcs' h2=>?_
   by_cases e:i=k2
   ·subst e;exact hi _ hk2'
   ·rw[hlk i e]at h2;exact hi _ h2
  |sl i len v hi =>
   refine .sl i len v λs' els' h2=>?_
   by_cases e:i=k2
   ·subst e;rw[hlk2]at h2;cases h2
   ·rw[hlk i e]at h2;exact hi _ _ h2
  |sp i n len v hi =>
   refine .sp i n len v λs' els' h2=>?_
   by_cases e:i=k2
   ·subst e;rw[hlk2]at h2;cases h2
   ·rw[hlk i e]at h2;exact hi _ _ h2
  |rpt i len off v hi =>
   refine .rpt i len off v λs' els' h2=>?_
   by_cases e:i=k2
   ·subst e;rw[hlk2]at h2;cases h2
   ·rw[hlk i e]at h2;exact hi _ _ h2
  |bs i n v hi =>
   refine .bs i n v λcs' h2=>?_
   by_cases e:i=k2
   ·subst e;exact hi _ hk2'
   ·rw[hlk i e]at h2;exact hi _ h2
  |mp i v hi =>
   refine .mp i v λes h2=>?_
   by_cases e:i=k2
   ·subst e;rw[hlk2]at h2;cases h2
   ·rw[hlk i e]at h2;exact hi _ h2
  |tnil i T v hi =>
   refine .tnil i T v λcs' h2=>?_
   by_cases e:i=k2
   ·subst e;exact hi _ hk2'
   ·rw[hlk i e]at h2;exact hi _ h2
  |agg cs vs u hl hv _ ih=>exact .agg cs vs u hl hv ih
  |tup cs vs u hl hv _ ih=>exact .tup cs vs u hl hv ih
  |fn f xs ys vs ws u t hl hv _ hl' hv' _ ih ih'=>exact .fn f xs ys vs ws u t hl hv ih hl' hv' ih'
 refine⟨⟨h'.rel.inj,h'.rel.apart,h'.rel.old,λi b cc hi=>?_,λi o h1 h2=>?_⟩,λt x hx=>?_,?_,h'.df,h'.sz,h'.kk⟩
 ·obtain⟨o1,h1,h2⟩:=h'.rel.obj i b cc hi
  by_cases e:i=k2
  ·subst e;rw[hk2']at h1;cases h1
   refine⟨_,hlk2,?_⟩
   cases h2 with
   |box _ e' r u h5 hl hv hr =>
    refine .box _ e' r u h5 (by simpa using hl) (λq x hq=>?_) λq x hq=>?_
    ·by_cases eq:q=j
     ·subst eq;exact hv q _ hj
     ·rw[Bo (C4 eq)]at hq;exact hv q x hq
    ·by_cases eq:q=j
     ·subst eq;have hlt:q<cs.length:=(A7.1 hj).1;rw[Bp hlt]at hq;cases hq
      have hnil:=(hr q _ hj).val;rw[hnil];refine .sl _ _ _ λs1 els1 h1=>?_;rw[hlk _ hne,z1h]at h1
      cases h1
      exact⟨Aj _,λ_=>.inr ⟨hk,rfl,rfl⟩⟩
     ·rw[Bo (C4 eq)]at hq;exact hconv _ _ (hr q x hq)
  ·refine⟨o1,(hlk i e).trans h1,?_⟩
   cases h2 with
   |box cs' e' r u h hl hv hr=>exact .box cs' e' r u h hl hv λq x hq=>hconv _ _ (hr q x hq)
   |row s' els' r u h hs hl hm hw hv hr=>exact .row s' els' r u h hs hl hm hw hv hr
   |map es r t u h hl hv hr=>exact .map es r t u h hl hv hr
 ·by_cases e:i=k2
  ·subst e;obtain⟨s',h3⟩:=h'.rel.real i _ hk2' h2
   cases h3
  ·rw[hlk i e]at h1;exact h'.rel.real i o h1 h2
 ·obtain⟨v,hv,hr⟩:=h'.fr t x hx;exact⟨v,hv,hconv _ _ hr⟩
 ·have t:=h'.tr;refine⟨t.os,t.tape,t.output,t.size,t.blk,t.own,λi a1 a2 e1 e2=>?_,λi a1 a2 e1 e2=>?_,λi s1 s2 a1 a2 e1 e2 hl=>?_,λi s1 s2 a1 a2 e1 e2=>?_,λi a2 e2=>?_,λi a2 e2=>?_,λi s1 a2 e2=>?_⟩
  all_goals by_cases e:i=k2
  ·subst e;exact t.box i _ _ e1 hk2'
  ·rw[hlk i e]at e2;exact t.box i _ _ e1 e2
  ·subst e;rw[hlk2]at e2;cases e2
  ·rw[hlk i e]at e2;exact t.map i _ _ e1 e2
  ·subst e;rw[hlk2]at e2;cases e2
  ·rw[hlk i e]at e2;exact t.row i _ _ _ _ e1 e2 hl
  ·subst e;rw[hlk2]at e2;cases e2
  ·rw[hlk i e]at e2;exact t.grow i _ _ _ _ e1 e2
  ·subst e;exact t.kindB i _ hk2'
  ·rw[hlk i e]at e2;exact t.kindB i _ e2
  ·subst e;rw[hlk2]at e2;cases e2
  ·rw[hlk i e]at e2;exact t.kindM i _ e2
  ·subst e;rw[hlk2]at e2;cases e2
  ·rw[hlk i e]at e2;exact t.kindR i _ _ e2
theorem tup2_sub{F:Nat->Prop}{ρ:Loc}{w:World}{x x' y:IV}{v:Value}(hx:∀v,RepI F ρ σ w x v->RepI F ρ σ w x' v)(h:RepI F ρ σ w (.tup [x,y]) v):RepI F ρ σ w (.tup [x',y]) v:=by
 cases h with
 |tup _ vs u hl hv hr =>
  refine .tup _ vs u hl (λj z hj=>?_) λj z hj=>?_
  ·match j,hj with
   |0,_=>exact hv 0 x rfl
   |1,hj=>exact hv 1 y rfl
   |j+2,hj=>simp at hj
  ·match j,hj with
   |0,hj=>cases hj;exact hx _ (hr 0 x rfl)
   |1,hj=>cases hj;exact hr 1 y rfl
   |j+2,hj=>simp at hj
end
theorem tZ3:((Tryz.prog.info? 3).bind (·.zero))=some (.int .i64 (0)):=by kernel_rfl
theorem ent121:z6n Tryz.prog 121:=⟨Tryz.f121,Tryz.func121,by kernel_rfl,by kernel_rfl⟩
theorem ent122:z6n Tryz.prog 122:=⟨Tryz.f122,Tryz.func122,by kernel_rfl,by kernel_rfl⟩
theorem ent123:z6n Tryz.prog 123:=⟨Tryz.f123,Tryz.func123,by kernel_rfl,by kernel_rfl⟩
theorem ent171:z6n Tryz.prog 171:=⟨Tryz.f171,Tryz.func171,by kernel_rfl,by kernel_rfl⟩
def rowI(l:List Int):HO:=.row ⟨3,1⟩ (l.map eInt)
def endv(e:Rend):PV:=.agg [vInt e.1,ints e.2]
theorem j4t{v v':List Int}{x y:Int}(h:setV v x y=some v'):0<=x/\x.toNat<(v.map eInt).length/\v'=v.set x.toNat y:=by
 unfold setV at h;split at h
 ·rename_i hx;exact⟨hx.1,by simpa using hx.2,by cases h;rfl⟩
 ·cases h
theorem zd0{v v':List Int}{x:Int}{r n:List Int}(h:mSet v (x::r) n=some v'):∃y n' v1,n=y::n'/\setV v x y=some v1/\mSet v1 r n'=some v':=by
 cases n with
 |nil=>cases h
 |cons y n' =>
  simp only[mSet,Ao]at h;obtain⟨v1,h1,h2⟩:=h;exact⟨y,n',v1,rfl,h1,h2⟩
def r8op(x:Nd):Bool:=x.kind==3||x.kind==4
def r8num(x:Nd):Bool:=x.kind==1||x.kind==2
def yo6(x:Nd):Bool:=x.kind==5||x.kind==6||x.kind==7
def r8kn(x:Nd):Int:=if x.kind==11 then 1 else if x.kind==10 then 2 else 0
def z1m(x:Nd):Bool:=(r8op x||x.op==0)&&(r8num x||x.n==0)&&(yo6 x||x.name.toList==[])&&(x.kids.length:Int)==r8kn x&&(x.kind==11||(x.params.length:Int)==0)
def zf9(b:Bool):List PV:=[vBool b]
def z9b(tys seen:List Int)(v w:Int):Bool:=!(decide (v<0)||decide (v≥tys.length) || !seen.contains v||(w != 0&&(tys.getD v.toNat 0 != w)))
def z14(tys seen:List Int):List Int->List Int->Bool
 |v::r,w::ws=>z9b tys seen v w&&z14 tys seen r ws
 |_,_=>true
def z07(tys seen l want:List Int):Bool:=(l.length:Int)==want.length&&z14 tys seen l want
def z9t(tys:List Int)(set:List Bool)(v w:Int):Bool:=decide (v<0)||decide (v≥tys.length)||set.getD v.toNat false||(w != 0&&(tys.getD v.toNat 0 != w))
def z2i(tys:List Int):List Bool->List Int->List Int->Bool×List Bool
 |set,v::r,w::ws=>if z9t tys set v w then(false,set)else z2i tys (set.set v.toNat true) r ws
 |set,_,_=>(true,set)
def z1w(tys:List Int)(set:List Bool)(l want:List Int):Bool×List Bool :=
 if (l.length:Int)==want.length then z2i tys set l want else(false,set)
theorem zd7(tys:List Int):∀(l want:List Int)(set:List Bool),(z2i tys set l want).2.length=set.length
 |[],_,_=>by simp[z2i]
 |_::_,[],_=>by simp[z2i]
 |v::r,w::ws,set=>by
  simp only[z2i];split
  ·rfl
  ·rw[zd7 tys r ws];simp
theorem z7c(tys:List Int)(set:List Bool)(l want:List Int):(z1w tys set l want).2.length=set.length:=by
 unfold z1w;split
 ·exact zd7 ..
 ·rfl
def zs1(tys:List Int)(v:Int):Bool:=decide (0<=v)&&decide (v<tys.length)
def r8of(tys l:List Int):List Int:=if l.all (zs1 tys)then l.map λv=>tys.getD v.toNat 0 else[]
structure Wh where
 If:Bool
 Loop:Bool
 Yield:List Int
 Next:List Int
 Left:List Int
abbrev whv(w:Wh):PV:=.agg [vBool w.If,vBool w.Loop,ints w.Yield,ints w.Next,ints w.Left]
def y5a(u:Un)(f:Fl)(n:Nat):List IV:=[.pv (arrs u.arrays),.pv (flws u.flows),iStr f.name,iInt f.ty,iInt f.params,.pv (ints f.types),.pv (z2h f.body),.sl 4 n]
def ckHp(u:Un)(f:Fl)(bt:TypeId)(set:List Bool):List (Nat×HO):=[(3,.box (y5a u f (set.map zf9).length)),(4,.row ⟨bt,1⟩ (set.map zf9))]
def z2w(op:Int):Bool:=decide (op≥20)&&decide (op<=28)
def z3o(op:Int):Bool:=decide (op≥1)&&decide (op<=17)
def z0h(op:Int):Int×Int :=
 if op==18||op==19||op==22 then(2,2)else if op==16||op==17 then(0,2)
 else if decide (op≥12)&&decide (op<=15)then(1,2)else(1,1)
def andS(b:Bool)(set:List Bool)(r:Bool×List Bool):Bool×List Bool:=if b then r else(false,set)
def zd6(u:Un)(f:Fl)(set:List Bool)(x:Nd)(seen:List Int):Bool×List Bool :=
 if decide (z06 x.name u.flows 0≥0)=true then
  match u.flows[(z06 x.name u.flows 0).toNat]? with
  |some g=>andS (z07 f.types seen x.args (g.types.take g.params.toNat)) set (z1w f.types set x.outs [g.ty])
  |none=>(false,set)
 else(false,set)
def z1k(u:Un)(f:Fl)(set:List Bool)(x:Nd)(seen:List Int)(w:Wh):Bool×List Bool :=
 if x.kind==1 then andS (z07 f.types seen x.args []) set (z1w f.types set x.outs [1])
 else if x.kind==2 then andS ((x.n==0||x.n==1)&&z07 f.types seen x.args []) set (z1w f.types set x.outs [2])
 else if x.kind==3 then andS (z2w x.op&&z07 f.types seen x.args [(z0h x.op).1]) set (z1w f.types set x.outs [(z0h x.op).2])
 else if x.kind==4 then andS (z3o x.op&&z07 f.types seen x.args [(z0h x.op).1,(z0h x.op).1]&&f.types.getD (x.args.getD 0 0).toNat 0==f.types.getD (x.args.getD 1 0).toNat 0) set (z1w f.types set x.outs [(z0h x.op).2])
 else if x.kind==5 then andS (decide (z0i x.name u.arrays 0≥0)&&z07 f.types seen x.args [1]) set (z1w f.types set x.outs [1])
 else if x.kind==6 then(decide (z0i x.name u.arrays 0≥0)&&z07 f.types seen x.args [1,1]&&(x.outs.length:Int)==0,set)
 else if x.kind==7 then zd6 u f set x seen
 else if x.kind==8 then andS ((x.args.length:Int)==0) set (z1w f.types set x.outs [1])
 else if x.kind==9 then(z07 f.types seen x.args [1]&&(x.outs.length:Int)==0,set)
 else if x.kind==12 then(w.If&&z07 f.types seen x.args w.Yield&&(x.outs.length:Int)==0,set)
 else if x.kind==13 then(w.Loop&&z07 f.types seen x.args w.Next&&(x.outs.length:Int)==0,set)
 else if x.kind==14 then(w.Loop&&z07 f.types seen x.args w.Left&&(x.outs.length:Int)==0,set)
 else if x.kind==15 then(z07 f.types seen x.args [f.ty]&&(x.outs.length:Int)==0,set)
 else(false,set)
theorem zw5(name:ByteArray):∀(l:List Fl)(i:Int),z06 name l i ≠ -1->i≥0->i<=z06 name l i/\∃g,l[(z06 name l i-i).toNat]?=some g/\eqS g.name name=true
 |[],i,h,_=>A9 rfl h
 |g::r,i,h,h0=>by
  simp only[z06]at h⊢;split
  ·rename_i hq;exact⟨Dd _,g,by simp,hq⟩
  ·rename_i hq;rw[A1 hq]at h;obtain⟨h1,g',h2,h3⟩:=zw5 name r (i+1) h oM0;refine⟨by omega,g',?_,h3⟩;rw[show(z06 name r (i+1)-i).toNat=(z06 name r (i+1)-(i+1)).toNat+1 by omega];simpa using h2
theorem ze9{name:ByteArray}{l:List Fl}(h:z06 name l 0≥0):∃g,l[(z06 name l 0).toNat]?=some g/\eqS g.name name=true:=by
 obtain⟨_,g,h2,h3⟩:=zw5 name l 0 oM0 oM0;exact⟨g,by simpa using h2,h3⟩
theorem zi9{tys seen:List Int}{v w:Int}(h:z9b tys seen v w=true):0<=v/\v.toNat<tys.length:=by
 simp[z9b]at h;omega
theorem yf3{tys seen l:List Int}{t1 t2:Int}(h:z07 tys seen l [t1,t2]=true):∃a b,l=[a,b]/\0<=a/\a.toNat<tys.length/\0<=b/\b.toNat<tys.length:=by
 match l with
 |[]=>simp[z07]at h
 |[a]=>simp[z07]at h
 |[a,b] =>
  simp[z07,z14]at h;have h1:=zi9 h.1;have h2:=zi9 h.2
  exact⟨a,b,rfl,h1.1,h1.2,h2.1,h2.2⟩
 |a::b::c::r=>simp[z07]at h;omega
def andT(r:Bool×List Bool)(k:List Bool->Bool×List Bool):Bool×List Bool:=if r.1 then k r.2 else(false,r.2)
def ne(l:List Nd)(r:Bool×List Bool):Bool×List Bool:=if l.isEmpty then(false,r.2)else r
mutual
def ndW:Nd->Nat
 |.mk _ _ _ _ args outs params kids=>1+args.length+outs.length+params.length+kdW kids
def lsW:List Nd->Nat
 |[]=>0
 |x::r=>ndW x+lsW r
def kdW:List (List Nd)->Nat
 |[]=>0
 |l::r=>1+lsW l+kdW r
end
def zg6(f:Fl)(x:Nd)(set:List Bool):Bool×List Bool :=
 andS ((x.outs.length:Int)==0 || !z04 x) set (z1w f.types set x.outs (List.replicate x.outs.length 0))
mutual
def z4x(u:Un)(f:Fl)(deep:Int)(w:Wh)(seen:List Int)(set:List Bool):Nd->Bool×List Bool
 |.mk kind op n name args outs params kids =>
  if !z1m (.mk kind op n name args outs params kids)then(false,set)
  else if kind==10 then
   if z07 f.types seen args [2]then
    match kids with
    |a::b::_ =>
     andT (ne a (r8go u f (deep+1) ⟨true,w.Loop,r8of f.types outs,w.Next,w.Left⟩ seen set a)) λs1 =>
     andT (ne b (r8go u f (deep+1) ⟨true,w.Loop,r8of f.types outs,w.Next,w.Left⟩ seen s1 b)) λs2 =>
     zg6 f (.mk kind op n name args outs params kids) s2
    |_=>(false,set)
   else(false,set)
  else if kind==11 then
   if z07 f.types seen args (r8of f.types params)then
    andT (z1w f.types set params (List.replicate params.length 0)) λs1 =>
    match kids with
    |a::_ =>
     andT (ne a (r8go u f (deep+1) ⟨false,true,[],r8of f.types params,r8of f.types outs⟩ (seen++params) s1 a)) λs2 =>
     zg6 f (.mk kind op n name args outs params kids) s2
    |_=>(false,s1)
   else(false,set)
  else z1k u f set (.mk kind op n name args outs params kids) seen w
def r8go(u:Un)(f:Fl)(deep:Int)(w:Wh)(all:List Int)(set:List Bool):List Nd->Bool×List Bool
 |[]=>(true,set)
 |x::r =>
  if deep > 100 then(false,set)
  else andT (z4x u f deep w all set x) λs1 =>
   if z04 x != r.isEmpty then(false,s1)
   else r8go u f deep w (all++x.outs) s1 r
end
def z2o(u:Un)(f:Fl)(deep:Int)(w:Wh)(all:List Int)(set:List Bool)(l:List Nd):Bool×List Bool:=ne l (r8go u f deep w all set l)
theorem y08{b:Bool}{set:List Bool}{r:Bool×List Bool}{n:Nat}(h1:set.length=n)(h2:r.2.length=n):(andS b set r).2.length=n:=by unfold andS;split<;>assumption
theorem z7n{r:Bool×List Bool}{k:List Bool->Bool×List Bool}{n:Nat}(h1:r.2.length=n)(h2:∀s,s.length=n->(k s).2.length=n):(andT r k).2.length=n:=by
 unfold andT;split
 ·exact h2 _ h1
 ·exact h1
theorem zm6{l:List Nd}{r:Bool×List Bool}{n:Nat}(h:r.2.length=n):(ne l r).2.length=n:=by unfold ne;split<;>exact h
theorem yu3{p:Prop}[Decidable p]{a b:Bool×List Bool}{n:Nat}(h1:a.2.length=n)(h2:b.2.length=n):(if p then a else b).2.length=n:=by split<;>assumption
theorem y1g(u:Un)(f:Fl)(set:List Bool)(x:Nd)(seen:List Int)(w:Wh):(z1k u f set x seen w).2.length=set.length:=by
 have hS:∀b l t,(andS b set (z1w f.types set l t)).2.length=set.length:=λb l t=>y08 rfl (z7c ..);unfold z1k zd6
 repeat' (first|exact hS _ _ _|exact rfl|refine yu3 ?_ ?_|split)
theorem zw6{f:Fl}{x:Nd}{set:List Bool}{n:Nat}(h:set.length=n):(zg6 f x set).2.length=n:=y08 h ((z7c ..).trans h)
mutual
theorem z9v(u:Un)(f:Fl):∀(x:Nd)(deep:Int)(w:Wh)(seen:List Int)(set:List Bool),(z4x u f deep w seen set x).2.length=set.length
 |.mk kind op n name args outs params kids,deep,w,seen,set=>by
  unfold z4x;split
  ·rfl
  split
  ·split
   ·match kids with
    |[]=>rfl
    |[_]=>rfl
    |a::b::_ =>
     refine z7n (zm6 (z7w u f a ..)) λs hs=>z7n (zm6 ((z7w u f b ..).trans hs)) λs hs=>zw6 hs
   ·rfl
  split
  ·split
   ·refine z7n (z7c ..) λs hs=>?_
    match kids with
    |[]=>exact hs
    |a::_=>exact z7n (zm6 ((z7w u f a ..).trans hs)) λs hs=>zw6 hs
   ·rfl
  ·exact y1g ..
theorem z7w(u:Un)(f:Fl):∀(l:List Nd)(deep:Int)(w:Wh)(all:List Int)(set:List Bool),(r8go u f deep w all set l).2.length=set.length
 |[],_,_,_,_=>by simp[r8go]
 |x::r,deep,w,all,set=>by
  unfold r8go;split
  ·rfl
  ·refine z7n (z9v u f x ..) λs hs=>?_;split
   ·exact hs
   ·exact(z7w u f r ..).trans hs
end
theorem z9u(u:Un)(f:Fl)(deep:Int)(w:Wh)(all:List Int)(set:List Bool)(l:List Nd):(z2o u f deep w all set l).2.length=set.length:=zm6 (z7w ..)
theorem ck_lend{u:Un}{f:Fl}{bt:TypeId}{set set':List Bool}(h:set'.length=set.length):∀k ob,look (up (ckHp u f bt set')) k=some ob->y40 ob=true∨(k=3/\look (up (ckHp u f bt set)) k=some ob):=by
 intro k ob hk;have hm:=z1o hk;simp only[ckHp,Aq,C1,Fp,Dz]at hm;rcases hm with⟨rfl,rfl⟩|⟨rfl,rfl⟩
 ·exact .inr ⟨rfl,by simp[ckHp,up,look,h]⟩
 ·refine .inl ?_;simp[y40,zf9,j2p]
theorem zi6{x:Nd}(h:z1m x=true):(x.kids.length:Int)=r8kn x:=by
 simp only[z1m,A0,At]at h;exact h.1.2
theorem z3h{x:Nd}(h:z1m x=true)(hk:x.kind=10):∃a b,x.kids=[a,b]:=by
 have:=zi6 h;simp[r8kn,hk]at this
 match hx:x.kids with
 |[]=>simp[hx]at this
 |[a]=>simp[hx]at this
 |[a,b]=>exact⟨a,b,rfl⟩
 |a::b::c::r=>simp[hx]at this;omega
theorem z25{x:Nd}(h:z1m x=true)(hk:x.kind=11):∃a,x.kids=[a]:=by
 have:=zi6 h;simp[r8kn,hk]at this
 match hx:x.kids with
 |[]=>simp[hx]at this
 |[a]=>exact⟨a,rfl⟩
 |a::b::r=>simp[hx]at this;omega
theorem zi7(u:Un)(f:Fl)(deep:Int)(w:Wh)(seen:List Int)(set:List Bool){x:Nd}(h:z1m x=false):z4x u f deep w seen set x=(false,set):=by
 cases x;unfold z4x;simp[h]
theorem y1f(u:Un)(f:Fl)(deep:Int)(w:Wh)(seen:List Int)(set:List Bool){x:Nd}{a b:List Nd}(h:z1m x=true)(hk:x.kind=10)(hx:x.kids=[a,b]) :
 z4x u f deep w seen set x=if z07 f.types seen x.args [2]then
  andT (z2o u f (deep+1) ⟨true,w.Loop,r8of f.types x.outs,w.Next,w.Left⟩ seen set a) λs1 =>
  andT (z2o u f (deep+1) ⟨true,w.Loop,r8of f.types x.outs,w.Next,w.Left⟩ seen s1 b) λs2=>zg6 f x s2
  else(false,set):=by
 cases x;simp only[Nd.kind,Nd.kids,Nd.args,Nd.outs]at *;subst hk hx;unfold z4x;simp[h,z2o];rfl
theorem zi8(u:Un)(f:Fl)(deep:Int)(w:Wh)(seen:List Int)(set:List Bool){x:Nd}{a:List Nd}(h:z1m x=true)(hk:x.kind=11)(hx:x.kids=[a]) :
 z4x u f deep w seen set x=if z07 f.types seen x.args (r8of f.types x.params)then
  andT (z1w f.types set x.params (List.replicate x.params.length 0)) λs1 =>
  andT (z2o u f (deep+1) ⟨false,true,[],r8of f.types x.params,r8of f.types x.outs⟩ (seen++x.params) s1 a) λs2=>zg6 f x s2
  else(false,set):=by
 cases x;simp only[Nd.kind,Nd.kids,Nd.args,Nd.outs,Nd.params]at *;subst hk hx;unfold z4x;simp[h,z2o];rfl
theorem z9w(u:Un)(f:Fl)(deep:Int)(w:Wh)(seen:List Int)(set:List Bool){x:Nd}(h:z1m x=true)(h1:(x.kind==10)=false)(h2:(x.kind==11)=false) :
 z4x u f deep w seen set x=z1k u f set x seen w:=by
 cases x;simp only[Nd.kind]at *;unfold z4x;simp[h,h1,h2]
theorem zb5(x:Nd):ndW x=1+x.args.length+x.outs.length+x.params.length+kdW x.kids:=by cases x;simp[ndW,Nd.args,Nd.outs,Nd.params,Nd.kids]
section
def z60(s:Rs):Rs:={ s with cost:=w64 (s.cost+1) }
theorem y02{v v':List Int}{x y:Int}(h:setV v x y=some v'):v'.length=v.length:=by
 rw[(j4t h).2.2,E5]
theorem z54:∀{l n v v':List Int},mSet v l n=some v'->v'.length=v.length
 |[],_,_,_,h=>by cases h;rfl
 |_::_,_,_,_,h=>by
  obtain⟨y,n',v1,rfl,h1,h2⟩:=zd0 h;rw[z54 h2,y02 h1]
theorem y8a{rec:List Nd->List Int->Rs->Option Rres}{recLoop:Nd->List Int->List Int->Rs->Option Rres}{recSum:Nd->List Int->Rs->Option (Int×Rs)}{x:Nd}{a v:List Int}{s:Rs}{r:Rres}
 (hr:∀q v s r,rec q v s=some r->r.2.1.length=v.length) (hl:∀x v a s r,recLoop x v a s=some r->r.2.1.length=v.length) (h:z5o rec recLoop recSum x a v s=some r):r.2.1.length=v.length:=by
 unfold z5o at h;split at h
 ·simp only[Ao,A8]at h;obtain⟨o,_,v',h1,rfl⟩:=h;exact y02 h1
 split at h
 ·cases h;rfl
 split at h
 ·simp only[Ao]at h;obtain⟨a0,_,q,_,r1,h1,h2⟩:=h;have h3:=hr _ _ _ _ h1;split at h2
  ·simp only[A8]at h2;obtain⟨v',h4,rfl⟩:=h2;exact(z54 h4).trans h3
  ·cases h2;exact h3
 split at h
 ·exact hl _ _ _ _ _ h
 ·simp only[Ao]at h;obtain⟨r1,h1,h2⟩:=h;split at h2
  ·simp only[Ao,A8]at h2;obtain⟨o,_,v',h4,rfl⟩:=h2;exact y02 h4
  ·cases h2;rfl
theorem zr4(u:Un):∀d,(∀l v s r,z2f u d l v s=some r->r.2.1.length=v.length)/\∀x v a s r,z3w u d x v a s=some r->r.2.1.length=v.length
 |0=>⟨λ_ _ _ _ h=>by simp[z2f]at h,λ_ _ _ _ _ h=>by simp[z3w]at h⟩
 |d+1=>by
  obtain⟨i1,i2⟩:=zr4 u d;refine⟨λl v s r h=>?_,λx v a s r h=>?_⟩
  ·cases l with
   |nil=>simp only[z2f]at h;cases h;rfl
   |cons x l =>
    rw[z2f]at h;split at h
    ·cases h;rfl
    ·simp only[Ao]at h;obtain⟨a,_,r1,h1,h2⟩:=h;have h3:=y8a i1 i2 h1;split at h2
     ·cases h2;exact h3
     ·exact(i1 _ _ _ _ h2).trans h3
  ·rw[z3w]at h;simp only[Ao]at h;obtain⟨v1,hv1,q,_,r1,h1,h2⟩:=h;have h3:=(i1 _ _ _ _ h1).trans (z54 hv1);split at h2
   ·cases h2;exact h3
   split at h2
   ·simp only[A8]at h2;obtain⟨v',h4,rfl⟩:=h2;exact(z54 h4).trans h3
   ·exact(i2 _ _ _ _ _ h2).trans h3
theorem z8x{u:Un}{d:Nat}{l:List Nd}{v:List Int}{s:Rs}{r:Rres}(h:z2f u d l v s=some r):r.2.1.length=v.length:=(zr4 u d).1 _ _ _ _ h
theorem z5g{u:Un}{d:Nat}{x:Nd}{v a:List Int}{s:Rs}{r:Rres}(h:z3w u d x v a s=some r):∃d1 v2 q r1,d=d1+1/\mSet v x.params a=some v2/\x.kids[0]?=some q/\z2f u d1 q v2 s=some r1 /\
 (if z16 r1.2.2||r1.1.1==15 then some r1 else if r1.1.1==14 then(mSet r1.2.1 x.outs r1.1.2).map λv=>((0,[]),v,r1.2.2)else z3w u d1 x r1.2.1 r1.1.2 r1.2.2)=some r:=by
 cases d with
 |zero=>simp[z3w]at h
 |succ d =>
  rw[z3w]at h;simp only[Ao]at h;obtain⟨v2,h1,q,h2,r1,h3,h4⟩:=h;exact⟨d,v2,q,r1,rfl,h1,h2,h3,h4⟩
theorem z8y{u:Un}{d:Nat}{x:Nd}{l:List Nd}{v:List Int}{s s2:Rs}{r:Rres}(hs2:(zb8 s).2=s2)(h:z2f u d (x::l) v s=some r):∃d1,d=d1+1/\(((zb8 s).1=false/\r=((0,[]),v,s2)) ∨
 ((zb8 s).1=true/\∃a r1,mOf v x.args=some a/\z5o (z2f u d1) (z3w u d1) (mSum u d1) x a v s2=some r1/\(if z16 r1.2.2||r1.1.1 != 0 then some r1 else z2f u d1 l r1.2.1 r1.2.2)=some r)):=by
 cases d with
 |zero=>simp[z2f]at h
 |succ d =>
  refine⟨d,rfl,?_⟩;subst hs2;rw[z2f]at h;split at h
  ·rename_i s' e;cases h;exact .inl ⟨by rw[e],by rw[e]⟩
  ·rename_i s' e;simp only[Ao]at h;obtain⟨a,h1,r1,h2,h3⟩:=h;exact .inr ⟨by rw[e],a,r1,h1,by rw[e];exact h2,h3⟩
section
variable {rec:List Nd->List Int->Rs->Option Rres} {recLoop:Nd->List Int->List Int->Rs->Option Rres} {recSum:Nd->List Int->Rs->Option (Int×Rs)} {x:Nd} {a v:List Int} {s:Rs} {r:Rres}
theorem z8z(h:z5o rec recLoop recSum x a v s=some r)(hk:(x.kind==1||x.kind==2)=true):∃o v2,x.outs[0]?=some o/\setV v o x.n=some v2/\r=((0,[]),v2,s):=by
 unfold z5o at h;rw[A5 hk]at h;simp only[Ao,A8]at h;obtain⟨o,h1,v2,h2,rfl⟩:=h;exact⟨o,v2,h1,h2,rfl⟩
theorem z5p(h:z5o rec recLoop recSum x a v s=some r)(hk:(x.kind==12||x.kind==13||x.kind==14||x.kind==15)=true):r=((x.kind,a),v,s):=by
 unfold z5o at h;rw[A1 (by simp only[Bb,At]at hk⊢;omega),A5 hk]at h
 cases h;rfl
theorem zm5(h:z5o rec recLoop recSum x a v s=some r)(hk:(x.kind==10)=true):∃a0 q r1,a[0]?=some a0/\x.kids[if a0 != 0 then 0 else 1]?=some q/\rec q v s=some r1 /\
 (if !z16 r1.2.2&&r1.1.1==12 then(mSet r1.2.1 x.outs r1.1.2).map λv'=>((0,[]),v',r1.2.2)else some r1)=some r:=by
 unfold z5o at h;rw[A1 (by simp only[Bb,At]at hk⊢;omega),A1 (by simp only[Bb,At]at hk⊢;omega),A5 hk]at h;simp only[Ao]at h;obtain⟨a0,h1,q,h2,r1,h3,h4⟩:=h;exact⟨a0,q,r1,h1,h2,h3,h4⟩
theorem z7i(h:z5o rec recLoop recSum x a v s=some r)(hk:(x.kind==11)=true):recLoop x v a s=some r:=by
 unfold z5o at h;rw[A1 (by simp only[Bb,At]at hk⊢;omega),A1 (by simp only[Bb,At]at hk⊢;omega),A1 (by simp only[At]at hk⊢;omega),A5 hk]at h;exact h
theorem z7q(h:z5o rec recLoop recSum x a v s=some r)(h1:(x.kind==1||x.kind==2)=false)(h2:(x.kind==12||x.kind==13||x.kind==14||x.kind==15)=false)(h3:(x.kind==10)=false)(h4:(x.kind==11)=false):∃r1,recSum x a s=some r1 /\
 (if !z16 r1.2&&decide (0<x.outs.length)then(x.outs[0]?).bind λo=>(setV v o r1.1).map λv'=>((0,[]),v',r1.2)else some ((0,[]),v,r1.2))=some r:=by
 unfold z5o at h;rw[h1,h2,h3,h4]at h;simp only[As,Bv,Ao]at h;exact h
end
theorem z7h{u:Un}{d:Nat}{k:Int}{a:List Int}{s:Rs}{r:Int×Rs}(h:z4j u d k a s=some r):∃d1 f r1,d=d1+1/\0<=k/\u.flows[k.toNat]?=some f/\a.length<=f.types.length/\f.types.length<=1073741824 /\
 z2f u d1 f.body (a++List.replicate (f.types.length-a.length) 0) s=some r1/\r=(if z16 r1.2.2 then 0 else r1.1.2.headD 0,r1.2.2):=by
 cases d with
 |zero=>simp[z4j]at h
 |succ d =>
  rw[z4j]at h;split at h
  ·rename_i hk;simp only[Ao]at h;obtain⟨f,hf,h⟩:=h;split at h
   ·rename_i hl;simp only[Ao]at h;obtain⟨r1,h1,h2⟩:=h;refine⟨d,f,r1,rfl,hk,hf,hl.1,hl.2,h1,?_⟩;split at h2<;>cases h2<;>simp_all
   ·cases h
  ·cases h
variable {u:Un} {d:Nat} {x:Nd} {a:List Int} {s:Rs} {r:Int×Rs}
theorem z6h(h:mSum u d x a s=some r):∃d',d=d'+1:=by
 cases d with
 |zero=>simp[mSum]at h
 |succ d=>exact⟨d,rfl⟩
theorem z9r(h:mSum u (d+1) x a s=some r)(hk:(x.kind==3)=true):∃a0,a[0]?=some a0/\r=(mOne x.op a0,z60 s):=by
 simp only[mSum,hk,C6,A8]at h;obtain⟨a0,h1,rfl⟩:=h;exact⟨a0,h1,rfl⟩
theorem z8a(h:mSum u (d+1) x a s=some r)(hk:(x.kind==4)=true):∃a0 a1,a[0]?=some a0/\a[1]?=some a1/\r=((mTwo x.op a0 a1).1,if (mTwo x.op a0 a1).2 then z60 s else { z60 s with st:=2 }):=by
 have h3:(x.kind==3)=false:=by have:=Av hk;rw[this];rfl
 simp only[mSum,h3,hk,C6,As,Bv,A8,Ao]at h;obtain⟨a0,h1,a1,h2,rfl⟩:=h;exact⟨a0,a1,h1,h2,rfl⟩
theorem zd1(h:mSum u (d+1) x a s=some r)(hk:(x.kind==7)=true):z4j u d (z06 x.name u.flows 0) a (z60 s)=some r:=by
 have e:=Av hk;simp only[mSum,e]at h;exact h
theorem z7k(h:mSum u (d+1) x a s=some r)(hk:(x.kind==9)=true):∃a0,a[0]?=some a0/\s.out.length<1073741824/\r=(0,{ z60 s with out:=s.out++[a0] }):=by
 have e:=Av hk;simp only[mSum,e]at h;simp only[show((9:Int)==3)=false from rfl,show((9:Int)==4)=false from rfl,show((9:Int)==5)=false from rfl,show((9:Int)==6)=false from rfl,show((9:Int)==7)=false from rfl,show((9:Int)==9)=true from rfl,C6,As,Bv,Ao]at h;obtain⟨a0,h1,h2⟩:=h;split at h2
 ·rename_i h3;cases h2;exact⟨a0,h1,h3,rfl⟩
 ·cases h2
theorem z92(h:mSum u (d+1) x a s=some r)(hk:(x.kind==8)=true):(s.ins=[]/\r=(0,{ z60 s with st:=4 }))∨∃y q,s.ins=y::q/\r=(y,{ z60 s with ins:=q }):=by
 have e:=Av hk;simp only[mSum,e]at h;simp only[show((8:Int)==3)=false from rfl,show((8:Int)==4)=false from rfl,show((8:Int)==5)=false from rfl,show((8:Int)==6)=false from rfl,show((8:Int)==7)=false from rfl,show((8:Int)==9)=false from rfl,show((8:Int)==8)=true from rfl,C6,As,Bv]at h;split at h
 ·rename_i h1;cases h;exact .inl ⟨h1,rfl⟩
 ·rename_i y q h1;cases h;exact .inr ⟨y,q,h1,rfl⟩
theorem z91(h:mSum u (d+1) x a s=some r)(h3:(x.kind==3)=false)(h4:(x.kind==4)=false)(h5:(x.kind==5)=false)(h6:(x.kind==6)=false)(h7:(x.kind==7)=false)(h9:(x.kind==9)=false)(h8:(x.kind==8)=false):r=(0,z60 s):=by
 simp only[mSum,h3,h4,h5,h6,h7,h8,h9,As,Bv]at h
 cases h;rfl
end
def arI:List (List Int)->IV
 |[]=>.pv (.val (.slice none 0 0))
 |[_]=>.bs 1003 1
 |_::_::_=>.bs 1013 2
def arH:List (List Int)->List (Nat×HO)
 |[]=>[]
 |[r]=>[(1003,.box [.sl 1004 (r.map eInt).length]),(1004,rowI r)]
 |r::r2::_=>[(1013,.box [.sl 1004 (r.map eInt).length,.sl 1014 (r2.map eInt).length]),(1004,rowI r),(1014,rowI r2)]
def rBox(u:Un)(s:Rs):HO:=.box [.pv (arrs u.arrays),.pv (flws u.flows),.pv (ints s.ins),arI s.ar,iInt s.st,iInt s.code,.sl 1002 (s.out.map eInt).length,iInt s.cost,iInt s.fuel,iBool s.spent]
def rH(u:Un)(s:Rs):List (Nat×HO):=(1001,rBox u s)::(1002,rowI s.out)::arH s.ar
def rHV(u:Un)(s:Rs)(v:List Int):List (Nat×HO):=(1001,rBox u s)::(1002,rowI s.out)::(510,rowI v)::arH s.ar
theorem z6t:PSub (.agg [vInt 0,.val (.slice none 0 0)]) (endv (0,[])):=PSub.agg (ps:=[vInt 0,.val (.slice none 0 0)]) (qs:=[vInt 0,.seq []]) (And.intro (PSub.refl _) (And.intro PSub.nil trivial))
theorem zk1{v v':List Int}{o x:Int}(h:setV v o x=some v'):0<=o/\o.toNat<v.length/\v'=v.set o.toNat x:=by
 unfold setV at h;split at h
 ·rename_i h1;cases h;exact⟨h1.1,h1.2,rfl⟩
 ·cases h
theorem y89{u:Un}{d:Nat}{v:List Int}{s:Rs}{r:Rres}(h:z2f u d [] v s=some r):r=((0,[]),v,s):=by
 cases d with
 |zero=>simp[z2f]at h
 |succ d=>simp only[z2f]at h;cases h;rfl
theorem y3s{s s':Rs}{k n:Int}(h:zc9 s k n=some (true,s')):s'=s/\0<=n/\0<=k/\∃row,s.ar[k.toNat]?=some row/\n<row.length:=by
 unfold zc9 at h;split at h
 ·cases h
 ·split at h
  ·obtain⟨row,h1,h2⟩:=Ao.1 h;split at h2
   ·cases h2
   ·cases h2
    exact⟨rfl,by omega,by omega,row,h1,by omega⟩
  ·cases h
theorem zm3{s:Rs}{k n:Int}{q:Bool×Rs}(h:zc9 s k n=some q):q.2.ar.length=s.ar.length:=by
 unfold zc9 at h;split at h
 ·cases h;rfl
 ·split at h
  ·obtain⟨row,h1,h2⟩:=Ao.1 h;split at h2<;>cases h2<;>rfl
  ·cases h
theorem two_ar{s:Rs}{k:Int}{row:List Int}(h1:s.ar.length<=2)(hk:0<=k)(h:s.ar[k.toNat]?=some row):(k=((0:Nat):Int)/\s.ar=[row])∨(k=((0:Nat):Int)/\∃r2,s.ar=[row,r2])∨(k=((1:Nat):Int)/\∃r1,s.ar=[r1,row]):=by
 have h2:=(A7.1 h).1
 match hs:s.ar,h,h1,h2 with
 |[],h,_,_=>cases h
 |[r],h,_,h2 =>
  have h3:k.toNat=0:=by simp at h2;omega
  rw[h3]at h;cases h
  exact .inl ⟨by omega,rfl⟩
 |[r,r2],h,_,h2 =>
  simp at h2;rcases(show k.toNat=0∨k.toNat=1 by omega)with h3|h3
  ·rw[h3]at h;cases h
   exact .inr (.inl ⟨by omega,r2,rfl⟩)
  ·rw[h3]at h;cases h
   exact .inr (.inr ⟨by omega,r,rfl⟩)
 |_::_::_::_,_,h1,_=>simp at h1
theorem z7j{u:Un}{d:Nat}{x:Nd}{a:List Int}{s:Rs}{r:Int×Rs}(h:mSum u (d+1) x a s=some r)(hk:x.kind=5):∃a0 b s',a[0]?=some a0/\zc9 (z60 s) (z0i x.name u.arrays 0) a0=some (b,s') /\
 ((b=false/\r=(0,s'))∨(b=true/\∃row y,(z60 s).ar[(z0i x.name u.arrays 0).toNat]?=some row/\row[a0.toNat]?=some y/\r=(y,z60 s))):=by
 simp only[mSum,hk,show((5:Int)==3)=false from rfl,show((5:Int)==4)=false from rfl,show((5:Int)==5)=true from rfl,C6,As,Bv,Ao]at h;obtain⟨a0,h1,⟨b,s'⟩,h2,h5⟩:=h;refine⟨a0,b,s',h1,h2,?_⟩
 cases b with
 |false=>exact .inl ⟨rfl,by simpa using h5.symm⟩
 |true =>
  simp only[C6,Ao,A8]at h5;obtain⟨row,h6,y,h7,h8⟩:=h5;exact .inr ⟨rfl,row,y,h6,h7,h8.symm⟩
theorem z68{u:Un}{d:Nat}{x:Nd}{a:List Int}{s:Rs}{r:Int×Rs}(h:mSum u (d+1) x a s=some r)(hk:x.kind=6):∃a0 b s',a[0]?=some a0/\zc9 (z60 s) (z0i x.name u.arrays 0) a0=some (b,s') /\
 ((b=false/\r=(0,s'))∨(b=true/\∃row y,(z60 s).ar[(z0i x.name u.arrays 0).toNat]?=some row/\a[1]?=some y/\r=(0,{ z60 s with ar:=(z60 s).ar.set (z0i x.name u.arrays 0).toNat (row.set a0.toNat y) }))):=by
 simp only[mSum,hk,show((6:Int)==3)=false from rfl,show((6:Int)==4)=false from rfl,show((6:Int)==5)=false from rfl,show((6:Int)==6)=true from rfl,C6,As,Bv,Ao]at h;obtain⟨a0,h1,⟨b,s'⟩,h2,h5⟩:=h;refine⟨a0,b,s',h1,h2,?_⟩
 cases b with
 |false=>exact .inl ⟨rfl,by simpa using h5.symm⟩
 |true =>
  simp only[C6,Ao,A8]at h5;obtain⟨y,h6,row,h7,h8⟩:=h5;exact .inr ⟨rfl,row,y,h7,h6,h8.symm⟩
theorem ba_sz(s:ByteArray):s.data.toList.length=s.size:=rfl
theorem j0m(s:ByteArray):∀(n i:Nat)(acc:List UInt8),s.size-i=n->ByteArray.toList.loop s i acc=acc.reverse++s.data.toList.drop i
 |0,i,acc,h=>by
  rw[ByteArray.toList.loop];have:¬i<s.size:=by omega
  rw[A1 this,Ae (by rw[ba_sz];omega)]
  simp
 |n+1,i,acc,h=>by
  rw[ByteArray.toList.loop];have hi:i<s.size:=by omega
  rw[A5 hi,j0m s n (i+1) _ oM0];have hi2:i<s.data.toList.length:=by rw[ba_sz];exact hi
  rw[D8 hi2];have hget:s.get! i=s.data.toList[i]:=by
   show s.data[i]! = _;rw[getElem!_pos s.data i hi];rfl
  simp[hget]
theorem z2d(s:ByteArray):s.toList=s.data.toList:=by
 rw[ByteArray.toList,j0m s _ 0 [] rfl];simp
theorem y0c(s:ByteArray):s.toList.length=s.size:=by rw[z2d];rfl
theorem y37{s:ByteArray}{i:Nat}(h:i<s.toList.length):s[i]?=some (s.toList[i]):=by
 have h2:i<s.size:=by rwa [y0c]at h
 rw[getElem?_pos s i h2]
 congr 1
 simp only[z2d];rfl
def z4i(n:Int):Bool:=(decide (n≥97)&&decide (n<=122))||(decide (n≥65)&&decide (n<=90))||n==95
def z3v(n:Int):Bool:=decide (n≥48)&&decide (n<=57)
def isLD(b:UInt8):Bool:=z4i b.toNat||z3v b.toNat
def z1l(s:ByteArray):Bool:=s.toList==ByteArray.toList ⟨#[105,110,116]⟩||s.toList==ByteArray.toList ⟨#[98,111,111,108]⟩||s.toList==ByteArray.toList ⟨#[105,102]⟩||s.toList==ByteArray.toList ⟨#[101,108,115,101]⟩||s.toList==ByteArray.toList ⟨#[119,104,105,108,101]⟩||s.toList==ByteArray.toList ⟨#[98,114,101,97,107]⟩||s.toList==ByteArray.toList ⟨#[99,111,110,116,105,110,117,101]⟩||s.toList==ByteArray.toList ⟨#[114,101,116,117,114,110]⟩||s.toList==ByteArray.toList ⟨#[112,114,105,110,116]⟩||s.toList==ByteArray.toList ⟨#[114,101,97,100]⟩||s.toList==ByteArray.toList ⟨#[116,114,117,101]⟩||s.toList==ByteArray.toList ⟨#[102,97,108,115,101]⟩||s.toList==ByteArray.toList ⟨#[105,56]⟩||s.toList==ByteArray.toList ⟨#[105,49,54]⟩||s.toList==ByteArray.toList ⟨#[105,51,50]⟩||s.toList==ByteArray.toList ⟨#[117,56]⟩||s.toList==ByteArray.toList ⟨#[117,49,54]⟩||s.toList==ByteArray.toList ⟨#[117,51,50]⟩
def z0o(s:ByteArray):Bool:=!(s.toList==[])&&decide ((s.size:Int)<=20)&&z4i (s.toList.headD 0).toNat && !z1l s&&s.toList.all isLD
mutual
def wtN:Nd->Nat
 |.mk _ _ _ name args outs params kids=>args.length+outs.length+params.length+name.size+wtK kids
def wtL:List Nd->Nat
 |[]=>0
 |x::r=>wtN x+wtL r
def wtK:List (List Nd)->Nat
 |[]=>0
 |l::r=>1+(l.length+wtL l)+wtK r
end
def z0z(l:List Nd):Nat:=l.length+wtL l
def wtA:List Ar->Nat
 |[]=>0
 |a::r=>a.name.size+wtA r
def wtF:List Fl->Nat
 |[]=>0
 |f::r=>f.name.size+f.types.length+z0z f.body+wtF r
def z0j(u:Un):Nat:=u.arrays.length+u.flows.length+wtA u.arrays+wtF u.flows
def z0x:ByteArray:=⟨#[109,97,105,110]⟩
def gArr(u:Un)(a:Ar)(i:Int):Bool:=z0o a.name && !decide (a.size<1) && !decide (a.size > 1000)&&(z0i a.name u.arrays 0==i) && !decide (z06 a.name u.flows 0≥0)
def r8gA(u:Un):List Ar->Int->Bool
 |[],_=>true
 |a::r,i=>gArr u a i&&r8gA u r (i+1)
def gFlw(u:Un)(f:Fl)(i:Int):Bool:=z0o f.name&&(z06 f.name u.flows 0==i)&&(f.ty==1||f.ty==2) && !decide (f.params<0) && !decide (f.params > f.types.length)
def r8gF(u:Un):List Fl->Int->Bool
 |[],_=>true
 |f::r,i=>gFlw u f i&&r8gF u r (i+1)
def y7s:Fl:=⟨⟨#[]⟩,0,0,[],[]⟩
def zb6(u:Un):Bool:=decide (z06 z0x u.flows 0≥0)&&(u.flows.getD (z06 z0x u.flows 0).toNat y7s).ty==1&&(u.flows.getD (z06 z0x u.flows 0).toNat y7s).params==0
def z1i(u:Un):Bool:=r8gA u u.arrays 0&&r8gF u u.flows 0&&zb6 u
theorem zs0(name:ByteArray):∀(l:List Fl)(i:Int),0<=i->z06 name l i≥0->∃k:Nat,z06 name l i=i+k/\k<l.length
 |[],i,_,h=>by simp[z06]at h
 |f::r,i,hi,h=>by
  unfold z06 at h⊢;split
  ·exact⟨0,by simp,by simp⟩
  ·rename_i hne;rw[A1 hne]at h;obtain⟨k,h1,h2⟩:=zs0 name r (i+1) oM0 h;exact⟨k+1,by omega,by simpa using h2⟩
theorem yo5{u:Un}:∀{l:List Fl}{i:Int},r8gF u l i=true->∀g∈l,0<=g.params/\g.params<=g.types.length
 |[],_,_,g,hg=>by simp at hg
 |f::r,i,h,g,hg=>by
  simp only[r8gF,A0]at h;rcases Aq.1 hg with rfl|hg
  ·have:=h.1;simp only[gFlw,A0,Bi,Cg]at this;omega
  ·exact yo5 h.2 g hg
theorem z6x{u:Un}(h:z1i u=true):∀g∈u.flows,0<=g.params/\g.params<=g.types.length:=by
 simp only[z1i,A0]at h;exact yo5 h.1.2
def z3z:Wh:=⟨false,false,[],[],[]⟩
def iota(n:Nat):List Int:=(List.range n).map λ(i:Nat)=>(i:Int)
def z5f(k n:Nat):List Bool:=List.replicate k true++List.replicate (n-k) false
def z5i(u:Un)(f:Fl):Bool:=!decide (f.params<0) && !decide (f.params > 8) && !decide (f.params > f.types.length) && !decide ((f.types.length:Int) > 20000)&&f.types.all (λt=>t==1||t==2) &&
 (z2o u f 1 z3z (iota f.params.toNat) (z5f f.params.toNat f.types.length) f.body).1
theorem j1n(n:Nat):iota n++[(n:Int)]=iota (n+1):=by simp[iota,List.range_succ]
theorem y0u(n:Nat):(iota n).length=n:=by simp[iota]
theorem z4h{k n:Nat}(h:k<=n):(z5f k n).length=n:=by simp[z5f];omega
theorem yt8{k n:Nat}(h:k<n):(z5f k n).set k true=z5f (k+1) n:=by
 unfold z5f;rw[Dh _ _ sI0,Ef,Nat.sub_self];have:n-k=(n-(k+1))+1:=by omega
 rw[this,Fe,Fk,List.replicate_succ',Ci];rfl
def z5s(u:Un):List Fl->Int->Int×Int
 |[],_=>(0,0)
 |f::r,i=>if z5i u f then z5s u r (i+1)else(80,i)
def z17(u:Un):Int×Int:=if z1i u then z5s u u.flows 0 else(1,0)
mutual
theorem ndW_le:∀x:Nd,ndW x<=1+wtN x
 |.mk k o n s a t p ks=>by
  have:=kdW_le ks;simp only[ndW,wtN];omega
theorem y88:∀l:List Nd,lsW l<=l.length+wtL l
 |[]=>by simp[lsW]
 |x::r=>by
  have h1:=ndW_le x;have h2:=y88 r;simp only[lsW,wtL,A3];omega
theorem kdW_le:∀l:List (List Nd),kdW l<=wtK l
 |[]=>by simp[kdW]
 |x::r=>by
  have h1:=y88 x;have h2:=kdW_le r;simp only[kdW,wtK];omega
end
theorem yj7:∀{l:List Fl}{f:Fl},f∈l->z0z f.body<=wtF l
 |g::r,f,h=>by
  rcases Aq.1 h with rfl|h
  ·simp only[wtF];omega
  ·have:=yj7 h;simp only[wtF];omega
def idxP{α:Type}(p:α -> Bool):List α -> Int->Int
 |[],_=>-1
 |x::r,i=>if p x then i else idxP p r (i+1)
theorem z6g{α:Type}(p:α -> Bool):∀(l:List α)(i:Int),0<=i->decide (idxP p l i≥0)=l.any p
 |[],_,_=>rfl
 |x::r,i,hi=>by
  unfold idxP
  cases hx:p x with
  |true=>simp[hx,hi]
  |false=>simp[hx,z6g p r (i+1) oM0]
def eqGo{S:Type}(p:S->Int->Int->Bool×S):S->List Int->List Int->Bool×S
 |s,x::a,y::b=>if (p s x y).1 then eqGo p (p s x y).2 a b else(false,(p s x y).2)
 |s,_,_=>(true,s)
def eqf{S:Type}(p:S->Int->Int->Bool×S)(s:S)(a b:List Int):Bool×S:=if (a.length:Int)=b.length then eqGo p s a b else(false,s)
theorem zw4:∀l:List Nd,z0m l=l.any z2n
 |[]=>rfl
 |x::r=>by simp[z0m,zw4 r]
theorem zn1:∀l:List (List Nd),z39 l=l.any z0m
 |[]=>rfl
 |x::r=>by simp[z39,zn1 r]
def z8g(l:List Nd):Bool:=match l.getLast? with
 |some x=>x.kind==12
 |none=>false
theorem y2e(l:List Nd):(z2x l != 12) = !z8g l:=by
 unfold z2x z8g
 cases l.getLast? with
 |none=>rfl
 |some x =>
  simp only[z0y]
  by_cases h:x.kind=12
  ·simp[h]
  ·have hb:(x.kind==12)=false:=by simpa using h
   by_cases h2:(decide (x.kind≥12)&&decide (x.kind<=15))=true
   ·simp only[h2,C6,bne,hb]
   ·simp[h2,h]
theorem y3m(name:ByteArray):∀(l:List Fl)(i:Int),idxP (λf:Fl=>f.name.toList==name.toList) l i=z06 name l i
 |[],_=>rfl
 |f::r,i=>by
  unfold idxP z06 eqS;rw[y3m name r]
theorem y1e(name:ByteArray):∀(l:List Ar)(i:Int),0<=i->decide (z0i name l i≥0)=l.any (λa:Ar=>a.name.toList==name.toList)
 |[],_,_=>rfl
 |f::r,i,hi=>by
  have ih:=y1e name r (i+1) oM0;rw[Gc,<- ih];rw[show z0i name (f::r) i=if (f.name.toList==name.toList)=true then i else z0i name r (i+1)from rfl]
  by_cases h:(f.name.toList==name.toList)=true
  ·rw[A5 h,h];simp[hi]
  ·rw[A1 h,(by simpa using h:(f.name.toList==name.toList)=false)];simp
def isTy(t:Int):Bool:=t==1||t==2
def z3a(op:Int):Int×Int :=
 if op==22 then(2,2)else if op==16||op==17 then(0,2)else if decide (op≥12)&&decide (op<=15)then(1,2)else(1,1)
def wSigns:List ByteArray:=[⟨#[]⟩,⟨#[43]⟩,⟨#[45]⟩,⟨#[42]⟩,⟨#[47]⟩,⟨#[37]⟩,⟨#[38]⟩,⟨#[124]⟩,⟨#[94]⟩,⟨#[60,60]⟩,⟨#[62,62]⟩,⟨#[62,62,62]⟩,⟨#[60]⟩,⟨#[60,61]⟩,⟨#[62]⟩,⟨#[62,61]⟩,⟨#[61,61]⟩,⟨#[33,61]⟩,⟨#[38,38]⟩,⟨#[124,124]⟩,⟨#[45]⟩,⟨#[126]⟩,⟨#[33]⟩,⟨#[105,56]⟩,⟨#[105,49,54]⟩,⟨#[105,51,50]⟩,⟨#[117,56]⟩,⟨#[117,49,54]⟩,⟨#[117,51,50]⟩]
def zp8(op:Int):ByteArray:=if op<0||op≥29 then⟨#[]⟩else wSigns.getD op.toNat ⟨#[]⟩
def levelTab:List Int:=[0,9,9,10,10,10,5,3,4,8,8,8,7,7,7,7,6,6,2,1,0,0,0,0,0,0,0,0,0]
def z4g(op:Int):Int:=if op<0||op≥29 then 0 else levelTab.getD op.toNat 0
theorem j0o{op:Int}(h0:0<=op)(h1:op<29):op=0∨op=1∨op=2∨op=3∨op=4∨op=5∨op=6∨op=7∨op=8∨op=9∨op=10∨op=11∨op=12∨op=13∨op=14∨op=15∨op=16∨op=17∨op=18∨op=19∨op=20∨op=21∨op=22∨op=23∨op=24∨op=25∨op=26∨op=27∨op=28:=by omega
def ckS(u:Un)(f:Fl)(it:TypeId)(st:List Int):List (Nat×HO):=[(3,.box (y5a u f (st.map eInt).length)),(4,.row ⟨it,1⟩ (st.map eInt))]
def z9h(tys:List Int)(v t:Int):Bool:=decide (0<=v)&&decide (v<tys.length)&&(t==0||tys.getD v.toNat 0==t)
def zt6(tys:List Int)(st:List Int)(v t:Int):Bool×List Int:=(z9h tys v t&&st.getD v.toNat 0==1,st)
def z5z(tys:List Int)(st:List Int)(v t:Int):Bool×List Int:=if z9h tys v t&&st.getD v.toNat 0==0 then(true,st.set v.toNat 1)else(false,st)
def z0w(tys st l want:List Int):Bool:=(eqf (zt6 tys) st l want).1
def z1s(tys st l want:List Int):Bool×List Int:=eqf (z5z tys) st l want
def z3j(st l:List Int):List Int:=l.foldl (λs v=>s.set v.toNat 2) st
theorem za5(tys st:List Int)(v t:Int):(z5z tys st v t).2.length=st.length:=by
 unfold z5z;split<;>simp
theorem zh5(tys:List Int):∀(a b st:List Int),(eqGo (z5z tys) st a b).2.length=st.length
 |[],_,st=>by simp[eqGo]
 |_::_,[],st=>by simp[eqGo]
 |x::a,y::b,st=>by
  simp only[eqGo];split
  ·rw[zh5 tys a b,za5]
  ·exact za5 ..
theorem z2b(tys st a b:List Int):(z1s tys st a b).2.length=st.length:=by
 unfold z1s eqf;split
 ·exact zh5 ..
 ·rfl
theorem z4o:∀(l st:List Int),(z3j st l).length=st.length
 |[],st=>rfl
 |v::r,st=>by
  have:=z4o r (st.set v.toNat 2);simpa[z3j]using this
theorem y4v(tys:List Int):∀(a b st:List Int),a.length=b.length->(eqGo (z5z tys) st a b).1=true->∀v∈a,0<=v/\v<tys.length
 |[],_,st,_,_,v,hv=>by simp at hv
 |_::_,[],_,hl,_,_,_=>by simp at hl
 |x::a,y::b,st,hl,h,v,hv=>by
  simp only[eqGo]at h;split at h
  ·rename_i h1;rcases Aq.1 hv with rfl|hv
   ·unfold z5z at h1;split at h1
    ·rename_i h2;simp only[z9h,A0,Ba]at h2;exact⟨h2.1.1.1,h2.1.1.2⟩
    ·cases h1
   ·exact y4v tys a b _ (by simpa using hl) h v hv
  ·cases h
theorem y2b{tys st a b:List Int}(h:(z1s tys st a b).1=true):∀v∈a,0<=v/\v<tys.length:=by
 unfold z1s eqf at h;split at h
 ·exact y4v tys a b st oM0 h
 ·cases h
def ckSp(u:Un)(f:Fl)(it:TypeId)(q:Nat)(st:List Int):List (Nat×HO):=(q,.box [.ptr 3 0])::ckS u f it st
def andP{S:Type}(b:Bool)(s:S)(r:Bool×S):Bool×S:=if b then r else(false,s)
def andQ{S:Type}(r:Bool×S)(k:S->Bool×S):Bool×S:=if r.1 then k r.2 else(false,r.2)
theorem yz8{tys st a b:List Int}(h:z0w tys st a b=true):a.length=b.length:=by
 unfold z0w eqf at h;split at h
 ·omega
 ·cases h
theorem yz9{tys st l:List Int}{t:Int}(h:z0w tys st l [t,t]=true):∃a b,l=[a,b]/\a=(a.toNat:Int)/\a.toNat<tys.length/\b=(b.toNat:Int)/\b.toNat<tys.length:=by
 have hl:=yz8 h
 match l,hl with
 |[a,b],_ =>
  unfold z0w eqf at h;simp only[A3,A6,C6,eqGo]at h;split at h
  ·rename_i h1;split at h
   ·rename_i h2;simp only[zt6,z9h,A0,Ba]at h1 h2;exact⟨a,b,rfl,by omega,by omega,by omega,by omega⟩
   ·cases h
  ·cases h
def y9s(f:Fl)(st:List Int)(x:Nd):Bool×List Int :=
 if x.kind==3 then andP (z2w x.op&&z0w f.types st x.args [(z3a x.op).1]) st (z1s f.types st x.outs [(z3a x.op).2])
 else andP (decide (z4g x.op > 0)&&decide (x.op<=17)&&z0w f.types st x.args [(z3a x.op).1,(z3a x.op).1]&&f.types.getD (x.args.getD 0 0).toNat 0==f.types.getD (x.args.getD 1 0).toNat 0) st (z1s f.types st x.outs [(z3a x.op).2])
def y9p(f:Fl)(st:List Int)(x:Nd)(w:Wh):Bool :=
 if x.kind==12 then(x.outs.length:Int)==0&&w.If&&z0w f.types st x.args w.Yield
 else if x.kind==13 then(x.outs.length:Int)==0&&w.Loop&&z0w f.types st x.args w.Next
 else if x.kind==14 then(x.outs.length:Int)==0&&w.Loop&&z0w f.types st x.args w.Left
 else(x.outs.length:Int)==0&&z0w f.types st x.args [f.ty]
def zx3(u:Un)(f:Fl)(st:List Int)(x:Nd):Bool×List Int :=
 if z06 x.name u.flows 0<0 then(false,st)else
  match u.flows[(z06 x.name u.flows 0).toNat]? with
  |some g=>andP (z0w f.types st x.args (g.types.take g.params.toNat)) st (z1s f.types st x.outs [g.ty])
  |none=>(false,st)
def z2k(u:Un)(f:Fl)(st:List Int)(x:Nd):Bool×List Int :=
 if x.kind==1 then andP (z0w f.types st x.args []) st (z1s f.types st x.outs [1])
 else if x.kind==2 then andP ((x.n==0||x.n==1)&&z0w f.types st x.args []) st (z1s f.types st x.outs [2])
 else if x.kind==3||x.kind==4 then y9s f st x
 else if x.kind==5 then andP (decide (z0i x.name u.arrays 0≥0)&&z0w f.types st x.args [1]) st (z1s f.types st x.outs [1])
 else if x.kind==6 then andP (decide (z0i x.name u.arrays 0≥0)&&z0w f.types st x.args [1,1]) st (z1s f.types st x.outs [])
 else if x.kind==8 then andP (z0w f.types st x.args []) st (z1s f.types st x.outs [1])
 else if x.kind==9 then andP (z0w f.types st x.args [1]) st (z1s f.types st x.outs [])
 else if x.kind==7 then zx3 u f st x
 else(false,st)
theorem z9j{b:Bool}{st:List Int}{r:Bool×List Int}(h:r.2.length=st.length):(andP b st r).2.length=st.length:=by
 unfold andP;split
 ·exact h
 ·rfl
theorem y9t(f:Fl)(st:List Int)(x:Nd):(y9s f st x).2.length=st.length:=by
 unfold y9s;split<;>exact z9j (z2b ..)
theorem y70(u:Un)(f:Fl)(st:List Int)(x:Nd):(zx3 u f st x).2.length=st.length:=by
 unfold zx3;split
 ·rfl
 ·split
  ·exact z9j (z2b ..)
  ·rfl
theorem y2c(u:Un)(f:Fl)(st:List Int)(x:Nd):(z2k u f st x).2.length=st.length:=by
 unfold z2k
 repeat' split
 all_goals first
  |exact z9j (z2b ..)
  |exact y9t ..
  |exact y70 ..
  |rfl
def z4d(f:Fl)(x:Nd)(st:List Int):Bool×List Int:=andP ((x.outs.length:Int)==0 || !z04 x) st (z1s f.types st x.outs (List.replicate x.outs.length 0))
def z4c(st:List Int)(l:List Nd):List Int:=l.foldl (λs x=>z3j s x.outs) st
def y9q(l:List Nd)(s:List Int):Bool×List Int:=(decide ((l.length:Int) > 0),z4c s l)
mutual
def z65(u:Un)(f:Fl)(deep:Int)(w:Wh)(st:List Int):Nd->Bool×List Int
 |.mk kind op n name args outs params kids =>
  if !z1m (.mk kind op n name args outs params kids)then(false,st)
  else if kind==10 then
   match kids with
   |a::b::_ =>
    if z0w f.types st args [2]then
     andQ (andQ (shGo u f (deep+1) ⟨true,w.Loop,r8of f.types outs,w.Next,w.Left⟩ st a) (y9q a)) λs1 =>
     andQ (andQ (shGo u f (deep+1) ⟨true,w.Loop,r8of f.types outs,w.Next,w.Left⟩ s1 b) (y9q b)) λs2 =>
     z4d f (.mk kind op n name args outs params kids) s2
    else(false,st)
   |_=>(false,st)
  else if kind==11 then
   if z0w f.types st args (r8of f.types params)then
    andQ (z1s f.types st params (List.replicate params.length 0)) λs1 =>
    match kids with
    |a::_ =>
     andQ (andQ (shGo u f (deep+1) ⟨false,true,[],r8of f.types params,r8of f.types outs⟩ s1 a) (y9q a)) λs2 =>
     z4d f (.mk kind op n name args outs params kids) (z3j s2 params)
    |_=>(false,s1)
   else(false,st)
  else if z0y kind then(y9p f st (.mk kind op n name args outs params kids) w,st)
  else z2k u f st (.mk kind op n name args outs params kids)
def shGo(u:Un)(f:Fl)(deep:Int)(w:Wh)(st:List Int):List Nd->Bool×List Int
 |[]=>(true,st)
 |x::r =>
  if deep > 100 then(false,st)
  else andQ (z65 u f deep w st x) λs1 =>
   if z04 x != r.isEmpty then(false,s1)
   else shGo u f deep w s1 r
end
def z22(u:Un)(f:Fl)(deep:Int)(w:Wh)(st:List Int)(l:List Nd):Bool×List Int:=andQ (shGo u f deep w st l) (y9q l)
theorem z3m{r:Bool×List Int}{k:List Int->Bool×List Int}{n:Nat}(h1:r.2.length=n)(h2:∀s,s.length=n->(k s).2.length=n):(andQ r k).2.length=n:=by
 unfold andQ;split
 ·exact h2 _ h1
 ·exact h1
theorem z70:∀(l:List Nd)(st:List Int),(z4c st l).length=st.length
 |[],_=>rfl
 |x::r,st=>by
  have:=z70 r (z3j st x.outs);rw[z4o]at this;simpa[z4c]using this
theorem zo6{f:Fl}{x:Nd}{st:List Int}{n:Nat}(h:st.length=n):(z4d f x st).2.length=n:=(z9j (z2b ..)).trans h
theorem z8f{l:List Nd}{s:List Int}{n:Nat}(h:s.length=n):(y9q l s).2.length=n:=(z70 l s).trans h
mutual
theorem zo5(u:Un)(f:Fl):∀(x:Nd)(deep:Int)(w:Wh)(st:List Int),(z65 u f deep w st x).2.length=st.length
 |.mk kind op n name args outs params kids,deep,w,st=>by
  unfold z65;split
  ·rfl
  split
  ·match kids with
   |[]=>rfl
   |[_]=>rfl
   |a::b::_ =>
    simp only;split
    ·exact z3m (z3m (z82 u f a ..) λs hs=>z8f hs) λs hs=>z3m (z3m ((z82 u f b ..).trans hs) λs hs=>z8f hs) λs hs=>zo6 hs
    ·rfl
  split
  ·split
   ·refine z3m (z2b ..) λs hs=>?_
    match kids with
    |[]=>exact hs
    |a::_=>exact z3m (z3m ((z82 u f a ..).trans hs) λs hs=>z8f hs) λs hs=>zo6 ((z4o ..).trans hs)
   ·rfl
  split
  ·rfl
  ·exact y2c ..
theorem z82(u:Un)(f:Fl):∀(l:List Nd)(deep:Int)(w:Wh)(st:List Int),(shGo u f deep w st l).2.length=st.length
 |[],_,_,_=>by simp[shGo]
 |x::r,deep,w,st=>by
  unfold shGo;split
  ·rfl
  ·refine z3m (zo5 u f x ..) λs hs=>?_;split
   ·exact hs
   ·exact(z82 u f r ..).trans hs
end
theorem za3(u:Un)(f:Fl)(deep:Int)(w:Wh)(st:List Int)(l:List Nd):(z22 u f deep w st l).2.length=st.length:=z3m (z82 ..) λ_ h=>z8f h
theorem zk2(u:Un)(f:Fl)(deep:Int)(w:Wh)(st:List Int){x:Nd}(h:z1m x=false):z65 u f deep w st x=(false,st):=by
 cases x;unfold z65;simp[h]
theorem y2a(u:Un)(f:Fl)(deep:Int)(w:Wh)(st:List Int){x:Nd}{a b:List Nd}(h:z1m x=true)(hk:x.kind=10)(hx:x.kids=[a,b]) :
 z65 u f deep w st x=if z0w f.types st x.args [2]then andQ (z22 u f (deep+1) ⟨true,w.Loop,r8of f.types x.outs,w.Next,w.Left⟩ st a) (λs1=>andQ (z22 u f (deep+1) ⟨true,w.Loop,r8of f.types x.outs,w.Next,w.Left⟩ s1 b) λs2=>z4d f x s2)else(false,st):=by
 cases x
 simp only[Nd.kind,Nd.kids]at hk hx;subst hk hx;unfold z65;simp only[h,Fv,As,Bv,Nd.args,Nd.outs];rfl
theorem zk3(u:Un)(f:Fl)(deep:Int)(w:Wh)(st:List Int){x:Nd}{a:List Nd}(h:z1m x=true)(hk:x.kind=11)(hx:x.kids=[a]) :
 z65 u f deep w st x=if z0w f.types st x.args (r8of f.types x.params)then andQ (z1s f.types st x.params (List.replicate x.params.length 0)) (λs1=>andQ (z22 u f (deep+1) ⟨false,true,[],r8of f.types x.params,r8of f.types x.outs⟩ s1 a) λs2=>z4d f x (z3j s2 x.params))else(false,st):=by
 cases x
 simp only[Nd.kind,Nd.kids]at hk hx;subst hk hx;unfold z65;simp only[h,Fv,As,Bv,Nd.args,Nd.outs,Nd.params];rfl
theorem zt5(u:Un)(f:Fl)(deep:Int)(w:Wh)(st:List Int){x:Nd}(h:z1m x=true)(h1:(x.kind==10)=false)(h2:(x.kind==11)=false)(h3:z0y x.kind=true):z65 u f deep w st x=(y9p f st x w,st):=by
 cases x
 simp only[Nd.kind]at h1 h2 h3;unfold z65;simp[h,h1,h2,h3]
theorem za4(u:Un)(f:Fl)(deep:Int)(w:Wh)(st:List Int){x:Nd}(h:z1m x=true)(h1:(x.kind==10)=false)(h2:(x.kind==11)=false)(h3:z0y x.kind=false):z65 u f deep w st x=z2k u f st x:=by
 cases x
 simp only[Nd.kind]at h1 h2 h3;unfold z65;simp[h,h1,h2,h3]
theorem y7f{S:Type}{b:Bool}{s:S}{r:Bool×S}(h:(andP b s r).1=true):b=true/\r.1=true:=by
 unfold andP at h;split at h
 ·rename_i hb;exact⟨hb,h⟩
 ·cases h
theorem zc0{S:Type}{r:Bool×S}{k:S->Bool×S}(h:(andQ r k).1=true):r.1=true/\(k r.2).1=true:=by
 unfold andQ at h;split at h
 ·rename_i hb;exact⟨hb,h⟩
 ·cases h
theorem y2d{f:Fl}{x:Nd}{st:List Int}(h:(z4d f x st).1=true):∀v∈x.outs,0<=v/\v<f.types.length:=y2b (y7f h).2
theorem y72{u:Un}{f:Fl}{st:List Int}{x:Nd}(h:(z2k u f st x).1=true):∀v∈x.outs,0<=v/\v<f.types.length:=by
 unfold z2k y9s zx3 at h
 repeat' split at h
 all_goals first
  |exact y2b (y7f h).2
  |cases h
theorem yz7{f:Fl}{st:List Int}{x:Nd}{w:Wh}(h:y9p f st x w=true):x.outs=[]:=by
 unfold y9p at h;have key:∀b:Bool,((x.outs.length:Int)==0&&b)=true->x.outs=[]:=λb hb=>by
  simp only[A0,At]at hb;exact Ay oM0
 repeat' split at h
 all_goals first
  |exact key _ h
  |(rw[Ea]at h;exact key _ h)
theorem yh9{u:Un}{f:Fl}{deep:Int}{w:Wh}{st:List Int}{x:Nd}(h:(z65 u f deep w st x).1=true):∀v∈x.outs,0<=v/\v<f.types.length:=by
 cases hb:z1m x with
 |false=>rw[zk2 _ _ _ _ _ hb]at h;cases h
 |true =>
  by_cases h10:x.kind=10
  ·obtain⟨a,b,hk⟩:=z3h hb h10;rw[y2a _ _ _ _ _ hb h10 hk]at h;split at h
   ·exact y2d (zc0 (zc0 h).2).2
   ·cases h
  ·by_cases h11:x.kind=11
   ·obtain⟨a,hk⟩:=z25 hb h11;rw[zk3 _ _ _ _ _ hb h11 hk]at h;split at h
    ·exact y2d (zc0 (zc0 h).2).2
    ·cases h
   ·have e10:(x.kind==10)=false:=by simpa using h10
    have e11:(x.kind==11)=false:=by simpa using h11
    cases he:z0y x.kind with
    |true=>rw[zt5 _ _ _ _ _ hb e10 e11 he]at h;intro v hv;rw[yz7 h]at hv;simp at hv
    |false=>rw[za4 _ _ _ _ _ hb e10 e11 he]at h;exact y72 h
theorem y9r{u:Un}{f:Fl}{deep:Int}{w:Wh}:∀{l:List Nd}{st:List Int},(shGo u f deep w st l).1=true->∀x∈l,∀v∈x.outs,0<=v/\v<f.types.length
 |[],_,_,x,hx=>by simp at hx
 |y::r,st,h,x,hx=>by
  unfold shGo at h;split at h
  ·cases h
  ·obtain⟨h1,h2⟩:=zc0 h;split at h2
   ·cases h2
   ·rcases Aq.1 hx with rfl|hx
    ·exact yh9 h1
    ·exact y9r h2 x hx
theorem y11:∀{l:List Nd}{x:Nd},x∈l->ndW x<=lsW l
 |y::r,x,h=>by
  rcases Aq.1 h with rfl|h
  ·simp only[lsW];omega
  ·have:=y11 h;simp only[lsW];omega
theorem z9o:∀{ks:List (List Nd)} {q:List Nd},q∈ks->lsW q<=kdW ks
 |y::r,x,h=>by
  rcases Aq.1 h with rfl|h
  ·simp only[kdW];omega
  ·have:=z9o h;simp only[kdW];omega
def zo3(k n:Nat):List Int:=List.replicate k 1++List.replicate (n-k) 0
def y29(u:Un)(f:Fl):Bool:=!(decide (f.params > 8)||decide ((f.types.length:Int) > 20000)||f.types.any (λt=>!isTy t))&&(z22 u f 1 z3z (zo3 f.params.toNat f.types.length) f.body).1
theorem zx2{k n:Nat}(h:k<=n):(zo3 k n).length=n:=by simp[zo3];omega
theorem j4q{k n:Nat}(h:k<n):(zo3 k n).set k 1=zo3 (k+1) n:=by
 unfold zo3;rw[Dh _ _ sI0,Ef,Nat.sub_self];have:n-k=(n-(k+1))+1:=by omega
 rw[this,Fe,Fk,List.replicate_succ',Ci];rfl
def bump(s:ByteArray)(es:List (Value×PV)):List (Value×PV) :=
 mput (.string s) (match z1z (.string s) es with|some (.val (.int .i64 n))=>.val (.int .i64 (IntKind.i64.wrap (n+1)))|_=>.val (.int .i64 1)) es
def zy1(a:Ar):Bool:=z0o a.name && !decide (a.size<1) && !decide (a.size > 1000)
def zo4(f:Fl):Bool:=z0o f.name&&isTy f.ty && !decide (f.params<0) && !decide (f.params > f.types.length)
def y0f(es:List (Value×PV))(l:List Ar):List (Value×PV):=l.foldl (λe a=>bump a.name e) es
def y3b(es:List (Value×PV))(l:List Fl):List (Value×PV):=l.foldl (λe a=>bump a.name e) es
def z9g(u:Un):Bool:=u.arrays.all zy1&&u.flows.all zo4&&((y3b (y0f [] u.arrays) u.flows).length:Int)==u.arrays.length+u.flows.length&&zb6 u
def za6(u:Un):List Fl->Int->Int×Int
 |[],_=>(0,0)
 |f::r,i=>if y29 u f then za6 u r (i+1)else(80,i)
def z4v(u:Un):Int×Int:=if z9g u then za6 u u.flows 0 else(1,0)
theorem y71{u:Un}(h:z9g u=true):∀g∈u.flows,0<=g.params/\g.params<=g.types.length:=by
 simp only[z9g,A0,Bj]at h;intro g hg;have:=h.1.1.2 g hg;simp only[zo4,A0,Bi,Cg]at this;omega
theorem zp1{α:Type}{p:α -> Bool}:∀{l:List α}{k:Nat}{x:α},(l.take k).all p=true->l[k]?=some x->p x=false->(l.takeWhile p).length=k/\l.all p=false
 |[],k,x,_,h,_=>by simp at h
 |a::r,0,x,_,h,hx=>by
  simp only[D5,Cl]at h;subst h
  simp[hx]
 |a::r,k+1,x,h,hg,hx=>by
  simp only[Ff,De,A0]at h;obtain⟨h1,h2⟩:=zp1 h.2 (by simpa using hg) hx;simp[h.1,h1,h2]
def yw5(s:ByteArray):ByteArray:=if s.toList.all isLD then s else s.extract 0 (s.toList.takeWhile isLD).length
theorem runOf_at{s:ByteArray}{k:Nat}{b:UInt8}(h:(s.toList.take k).all isLD=true)(hb:s.toList[k]?=some b)(hn:isLD b=false):yw5 s=s.extract 0 k:=by
 obtain⟨h1,h2⟩:=zp1 h hb hn;simp[yw5,h1,h2]
theorem runOf_eq(s:ByteArray):((yw5 s).toList==s.toList)=s.toList.all isLD:=by
 unfold yw5
 cases h:s.toList.all isLD with
 |true=>simp
 |false =>
  simp only[As,Bv];have hlt:(s.toList.takeWhile isLD).length<s.toList.length:=by
   rcases Dy (s.toList.takeWhile isLD).length s.toList.length with h1|h1
   ·exact h1
   ·have hp:=F6 (l:=s.toList) isLD;have he:=hp.eq_of_length_le h1;have:s.toList.all isLD=true:=by rw[<- he];exact List.all_takeWhile
    rw[h]at this;cases this
  have hne:(s.extract 0 (s.toList.takeWhile isLD).length).toList≠s.toList:=by
   intro he;have:=Ah List.length he;rw[y0c,Cq,y0c]at this;rw[y0c]at hlt;omega
  simpa using hne
theorem yt3{s:ByteArray}{k:Nat}(h:k<s.toList.length):((s.toList[k]).toNat<128->Utf8.decode s k=((s.toList[k]).toNat,1))/\(128<=(s.toList[k]).toNat->128<=(Utf8.decode s k).1):=by
 have hk:k<s.size:=by rwa [y0c]at h
 have e0:s.get! (k+0)=s.toList[k]:=by
  have h2:=y37 h;rw[getElem?_pos s k hk]at h2;rw[<- C0 h2];show s.get! k=_;simp[ByteArray.get!,getElem!_pos,hk];rfl
 refine⟨λhb=>?_,λhb=>?_⟩
 ·simp only[Utf8.decode,e0,hb,C6]
 ·have hn:¬(s.toList[k]).toNat<128:=by omega
  simp only[Utf8.decode,e0];rw[A1 (by simpa using hn)]
  repeat' split
  all_goals first
   |(simp[Utf8.runeError];done)
   |(rename_i hc;simp only[ge_iff_le,A0,Ba]at hc;simp only;omega)
def y2s(r:Int):Bool:=z4i r||z3v r
theorem y82{r:Int}(h:y2s r=true):r<128:=by
 simp only[y2s,z4i,z3v,Bb,A0,Ba,At]at h;omega
theorem y0h{s:ByteArray}{k:Nat}(h:k<s.toList.length):(y2s (Utf8.decode s k).1=true->(Utf8.decode s k).2=1/\isLD s.toList[k]=true)/\(y2s (Utf8.decode s k).1=false->isLD s.toList[k]=false):=by
 obtain⟨h1,h2⟩:=yt3 h
 by_cases hb:(s.toList[k]).toNat<128
 ·rw[h1 hb];exact⟨λh=>⟨rfl,h⟩,λh=>h⟩
 ·have h3:=h2 oM0;refine⟨λhl=>?_,λ_=>?_⟩
  ·have:=y82 hl;omega
  ·cases hd:isLD s.toList[k]with
   |false=>rfl
   |true=>have:=y82 (r:=((s.toList[k]).toNat:Int)) hd;omega
def Cnt(es:List (Value×PV)):Prop:=(∀e∈es,z1y .string e.1=true)/\∀e∈es,∃n,e.2=vInt n
theorem z55{k:Value}{v:PV}:∀{es:List (Value×PV)} {e:Value×PV},e∈mput k v es->e=(k,v)∨e∈es
 |[],e,h=>by simp[mput]at h;exact .inl h
 |(a,p)::r,e,h=>by
  simp only[mput]at h;split at h
  ·rcases Aq.1 h with rfl|h
   ·exact .inl rfl
   ·exact .inr (.tail _ h)
  ·rcases Aq.1 h with rfl|h
   ·exact .inr (.head _)
   ·rcases z55 h with h|h
    ·exact .inl h
    ·exact .inr (.tail _ h)
theorem z93{k:Value}{p:PV}:∀{es:List (Value×PV)},z1z k es=some p->∃a,(a,p)∈es
 |(a,q)::r,h=>by
  simp only[z1z]at h;split at h
  ·cases h;exact⟨a,.head _⟩
  ·obtain⟨b,hb⟩:=z93 h;exact⟨b,.tail _ hb⟩
theorem Cnt.find{es:List (Value×PV)}(h:Cnt es)(k:Value):∃n,(z1z k es).getD (.val (.int .i64 0))=vInt n:=by
 cases hf:z1z k es with
 |none=>exact⟨0,rfl⟩
 |some p=>obtain⟨a,ha⟩:=z93 hf;obtain⟨n,hn⟩:=h.2 _ ha;exact⟨n,hn⟩
theorem zh7{es:List (Value×PV)}{s:ByteArray}{n:Int}(h:(z1z (.string s) es).getD (.val (.int .i64 0))=vInt n):bump s es=mput (.string s) (vInt (IntKind.i64.wrap (n+1))) es:=by
 unfold bump
 cases hf:z1z (.string s) es with
 |none =>
  rw[hf]at h;simp only[Option.getD_none,vInt,PV.val.injEq,Value.int.injEq,true_and]at h;subst h
  rfl
 |some p =>
  rw[hf]at h;simp only[Cj]at h;subst h;rfl
theorem Cnt.bump{es:List (Value×PV)}(h:Cnt es)(s:ByteArray):Cnt (bump s es):=by
 obtain⟨n,hn⟩:=h.find (.string s);rw[zh7 hn];refine⟨λe he=>?_,λe he=>?_⟩
 ·rcases z55 he with rfl|he
  ·rfl
  ·exact h.1 e he
 ·rcases z55 he with rfl|he
  ·exact⟨_,rfl⟩
  ·exact h.2 e he
theorem Cnt.nil:Cnt []:=⟨λ_ h=>by simp at h,λ_ h=>by simp at h⟩
structure Rl(n:Nat)(st:List Int)(set:List Bool)(seen:List Int):Prop where
 l1:st.length=n
 l2:set.length=n
 s:∀v:Nat,v<n->set.getD v false = !(st.getD v 0==0)
 u:∀v:Nat,v<n->seen.contains (v:Int)=(st.getD v 0==1)
theorem zl5{α:Type}{l:List α}{i j:Nat}{a d:α}:(l.set i a).getD j d=if i=j/\i<l.length then a else l.getD j d:=by
 simp only[Ax,List.getElem?_set]
 by_cases h:i=j
 ·subst h
  by_cases h2:i<l.length
  iterate 2 ·simp[h2]
 ·simp[h]
theorem use_rl{tys st:List Int}{set:List Bool}{seen:List Int}(h:Rl tys.length st set seen)(v w:Int):z9b tys seen v w=(zt6 tys st v w).1:=by
 unfold z9b zt6 z9h
 by_cases h0:0<=v
 ·by_cases h1:v<tys.length
  ·have hv:v=(v.toNat:Int):=by omega
   have hu:=h.u v.toNat oM0;rw[<- hv]at hu;have e1:decide (v<0)=false:=by simpa using h0
   have e2:decide (v≥tys.length)=false:=by simpa using h1
   have e3:decide (0<=v)=true:=by simpa using h0
   have e4:decide (v<tys.length)=true:=by simpa using h1
   simp only[e1,e2,e3,e4,hu,Ce,B6];clear hv e1 e2 e3 e4
   cases hw:(w==0)<;>cases ht:(tys.getD v.toNat 0==w)<;>cases hs:(st.getD v.toNat 0==1)<;>simp_all[bne]
  ·have e2:decide (v≥tys.length)=true:=by simp;omega
   have e4:decide (v<tys.length)=false:=by simp;omega
   simp[e2,e4]
 ·have e1:decide (v<0)=true:=by simp;omega
  have e3:decide (0<=v)=false:=by simp;omega
  simp[e1,e3]
theorem ya0{tys st:List Int}{set:List Bool}{seen:List Int}(h:Rl tys.length st set seen):∀(a b:List Int),z14 tys seen a b=(eqGo (zt6 tys) st a b).1
 |[],_=>by simp[z14,eqGo]
 |_::_,[]=>by simp[z14,eqGo]
 |x::a,y::b=>by
  simp only[z14,eqGo,use_rl h x y];have h2:(zt6 tys st x y).2=st:=rfl
  cases hx:(zt6 tys st x y).1 with
  |true=>simp[h2,ya0 h a b]
  |false=>simp
theorem yj1{tys st:List Int}{set:List Bool}{seen:List Int}(h:Rl tys.length st set seen)(a b:List Int):z07 tys seen a b=z0w tys st a b:=by
 unfold z07 z0w eqf
 by_cases hl:(a.length:Int)=b.length
 ·rw[A5 hl];have:((a.length:Int)==b.length)=true:=by simpa using hl
  rw[this,B6,ya0 h]
 ·rw[A1 hl];have:((a.length:Int)==b.length)=false:=by simpa using hl
  rw[this,D2]
theorem set1_rl{tys st:List Int}{set:List Bool}{seen:List Int}(h:Rl tys.length st set seen)(v w:Int) :
 z9t tys set v w = !(z5z tys st v w).1/\((z5z tys st v w).1=true->Rl tys.length (z5z tys st v w).2 (set.set v.toNat true) (seen++[v])/\0<=v/\v<tys.length/\seen.contains v=false):=by
 unfold z9t z5z z9h
 by_cases h0:0<=v
 ·by_cases h1:v<tys.length
  ·have hv:v=(v.toNat:Int):=by omega
   have hn:v.toNat<tys.length:=by omega
   have hs:=h.s v.toNat hn;have hu:=h.u v.toNat hn;rw[<- hv]at hu;have e1:decide (v<0)=false:=by simpa using h0
   have e2:decide (v≥tys.length)=false:=by simpa using h1
   have e3:decide (0<=v)=true:=by simpa using h0
   have e4:decide (v<tys.length)=true:=by simpa using h1
   simp only[e1,e2,e3,e4,hs,Ce,B6];refine⟨by clear hv e1 e2 e3 e4;cases hw:(w==0)<;>cases ht:(tys.getD v.toNat 0==w)<;>cases hz:(st.getD v.toNat 0==0)<;>simp_all[bne],λhc=>?_⟩;split at hc
   ·rename_i hif;rw[A5 hif];simp only[A0]at hif;have hz:st.getD v.toNat 0=0:=by simpa using hif.2
    refine⟨⟨by simpa using h.l1,by simpa using h.l2,λj hj=>?_,λj hj=>?_⟩,h0,h1,by rw[hu,hz];rfl⟩
    ·rw[zl5,zl5]
     by_cases e:v.toNat=j
     ·subst e;simp[h.l1,h.l2,hn]
     ·simp only[e,false_and,Bv];exact h.s j hj
    ·rw[zl5];simp only[Ck,Ew,List.contains_nil,Ev]
     by_cases e:v.toNat=j
     ·subst e;have:((v.toNat:Int)==v)=true:=by simpa using hv.symm
      rw[this,Bk,A5 ⟨rfl,by rw[h.l1];exact hn⟩];rfl
     ·have:((j:Int)==v)=false:=by simp;omega
      simp only[e,false_and,Bv,this,Ev];exact h.u j hj
   ·cases hc
  ·have e2:decide (v≥tys.length)=true:=by simp;omega
   have e4:decide (v<tys.length)=false:=by simp;omega
   simp[e2,e4]
 ·have e1:decide (v<0)=true:=by simp;omega
  have e3:decide (0<=v)=false:=by simp;omega
  simp[e1,e3]
theorem y9m{tys:List Int}:∀(a b st:List Int)(set:List Bool)(seen:List Int),a.length=b.length->Rl tys.length st set seen ->
 (z2i tys set a b).1=(eqGo (z5z tys) st a b).1/\((eqGo (z5z tys) st a b).1=true->Rl tys.length (eqGo (z5z tys) st a b).2 (z2i tys set a b).2 (seen++a)/\∀v∈a,0<=v/\v<tys.length/\seen.contains v=false)
 |[],_,st,set,seen,_,h=>by simp[z2i,eqGo];exact h
 |_::_,[],_,_,_,hl,_=>by simp at hl
 |x::a,y::b,st,set,seen,hl,h=>by
  obtain⟨h1,h2⟩:=set1_rl h x y;simp only[z2i,eqGo,h1]
  cases hx:(z5z tys st x y).1 with
  |false=>simp
  |true =>
   obtain⟨h3,h4,h5,h6⟩:=h2 hx;obtain⟨ih1,ih2⟩:=y9m a b _ _ _ (by simpa using hl) h3;simp only[Fv,As,Bv,C6];refine⟨ih1,λhc=>?_⟩;obtain⟨h7,h8⟩:=ih2 hc;refine⟨by simpa using h7,λv hv=>?_⟩;rcases Aq.1 hv with rfl|hv
   ·exact⟨h4,h5,h6⟩
   ·obtain⟨g1,g2,g3⟩:=h8 v hv;refine⟨g1,g2,?_⟩;rw[Ck,Bn]at g3;exact g3.1
theorem j4u{tys st:List Int}{set:List Bool}{seen:List Int}(h:Rl tys.length st set seen)(a b:List Int) :
 (z1w tys set a b).1=(z1s tys st a b).1/\((z1s tys st a b).1=true->Rl tys.length (z1s tys st a b).2 (z1w tys set a b).2 (seen++a)/\∀v∈a,0<=v/\v<tys.length/\seen.contains v=false):=by
 unfold z1w z1s eqf
 by_cases hl:(a.length:Int)=b.length
 ·have e:((a.length:Int)==b.length)=true:=by simpa using hl
  rw[A5 hl,A5 e];exact y9m a b st set seen oM0 h
 ·have e:¬((a.length:Int)==b.length)=true:=by simpa using hl
  rw[A1 hl,A1 e];simp
theorem j1k{n:Nat}:∀(l st:List Int)(set:List Bool)(seen rest:List Int),(∀v∈l,0<=v/\v<n/\rest.contains v=false)->(∀v∈l,st.getD v.toNat 0≠0)->st.length=n->set.length=n ->
 (∀v:Nat,v<n->set.getD v false = !(st.getD v 0==0))->(∀v:Nat,v<n->l.contains (v:Int)=false->rest.contains (v:Int)=(st.getD v 0==1))->Rl n (z3j st l) set rest
 |[],st,set,_,rest,_,_,h1,h2,h3,h4=>⟨h1,h2,h3,λv hv=>h4 v hv rfl⟩
 |x::l,st,set,seen,rest,hin,hnz,h1,h2,h3,h4=>by
  obtain⟨hx0,hx1,hx2⟩:=hin x (.head _);have hxn:x.toNat<n:=by omega
  show Rl n (z3j (st.set x.toNat 2) l) set rest;have hg:∀j,(st.set x.toNat 2).getD j 0=if x.toNat=j then 2 else st.getD j 0:=λj=>by
   rw[zl5];simp[h1,hxn]
  -- hidden values are no more among the seen
  have key:∀v:Nat,v<n->l.contains (v:Int)=false->rest.contains (v:Int)=((st.set x.toNat 2).getD v 0==1):=by
   intro v hv hl;rw[hg]
   by_cases e:x.toNat=v
   ·have hv2:(v:Int)=x:=by omega
    rw[A5 e,hv2,hx2];rfl
   ·rw[A1 e];refine h4 v hv ?_;have:((v:Int)==x)=false:=by simp;omega
    rw[Ew,this,hl];rfl
  refine j1k l (st.set x.toNat 2) set seen rest (λv hv=>hin v (.tail _ hv)) (λv hv=>?_) (by simpa using h1) h2 (λv hv=>?_) key
  ·rw[hg];split
   ·decide
   ·exact hnz v (.tail _ hv)
  ·rw[hg,h3 v hv];split
   ·rename_i e;have:=hnz x (.head _);rw[e]at this;have hb:(st.getD v 0==0)=false:=by simpa using this
    rw[hb];rfl
   ·rfl
def PR(n:Nat)(seen outs:List Int)(r:Bool×List Int)(q:Bool×List Bool):Prop :=
 q.1=r.1/\(r.1=true->Rl n r.2 q.2 (seen++outs)/\∀v∈outs,0<=v/\v<n/\seen.contains v=false)
theorem PR.no{n:Nat}{seen outs:List Int}{st:List Int}{set:List Bool}:PR n seen outs (false,st) (false,set):=⟨rfl,λh=>by cases h⟩
theorem zv1{tys st:List Int}{set:List Bool}{seen:List Int}(h:Rl tys.length st set seen){b b':Bool}(hb:b=b')(outs want:List Int):PR tys.length seen outs (andP b st (z1s tys st outs want)) (andS b' set (z1w tys set outs want)):=by
 subst hb
 cases b with
 |false=>exact .no
 |true=>exact j4u h outs want
theorem nil_rl{tys st:List Int}{set:List Bool}{seen:List Int}(h:Rl tys.length st set seen){b b':Bool}(hb:b=b')(outs:List Int):PR tys.length seen outs (andP b st (z1s tys st outs [])) (b'&&(outs.length:Int)==0,set):=by
 subst hb
 cases b with
 |false=>exact .no
 |true =>
  cases outs with
  |nil=>exact⟨rfl,λ_=>⟨by rw[Cy];exact h,λv hv=>by simp at hv⟩⟩
  |cons v r =>
   have e:¬(((v::r).length:Int)=(([]:List Int).length:Int)):=by simp;omega
   have e2:(((v::r).length:Int)==0)=false:=by simp;omega
   simp only[andP,C6,z1s,eqf,A1 e,e2,D1];exact .no
theorem yl1{n:Nat}{st:List Int}{set:List Bool}{seen:List Int}(h:Rl n st set seen){b b':Bool}(hb:b=b'){outs:List Int}(ho:b=true->outs=[]):PR n seen outs (b,st) (b',set):=by
 subst hb;refine⟨rfl,λhb=>?_⟩;rw[ho hb];exact⟨by simpa using h,λv hv=>by simp at hv⟩
theorem ye9{op:Int}(h:z3o op=true):z3a op=z0h op:=by
 simp only[z3o,A0,Ba]at h;have h18:(op==18)=false:=by simp;omega
 have h19:(op==19)=false:=by simp;omega
 have h22:(op==22)=false:=by simp;omega
 simp only[z3a,z0h,h18,h19,h22,Ev,As,Bv]
theorem ye8{op:Int}(h:z2w op=true):z3a op=z0h op:=by
 simp only[z2w,A0,Ba]at h;have h18:(op==18)=false:=by simp;omega
 have h19:(op==19)=false:=by simp;omega
 simp only[z3a,z0h,h18,h19,Ce]
theorem j1z(op:Int):(decide (z4g op > 0)&&decide (op<=17))=z3o op:=by
 by_cases h0:op<0
 ·have:z4g op=0:=by simp[z4g,h0]
  have h2:z3o op=false:=by simp[z3o];omega
  rw[this,h2];rfl
 ·by_cases h1:op≥29
  ·have:z4g op=0:=by simp[z4g,h1]
   have h2:z3o op=false:=by simp[z3o];omega
   rw[this,h2];rfl
  ·rcases j0o (op:=op) oM0 oM0 with rfl|rfl|rfl|rfl|rfl|rfl|rfl|rfl|rfl|rfl|rfl|rfl|rfl|rfl|rfl|rfl|rfl|rfl|rfl|rfl|rfl|rfl|rfl|rfl|rfl|rfl|rfl|rfl|rfl<;>rfl
theorem j4z(u:Un)(f:Fl){st:List Int}{set:List Bool}{seen:List Int}(h:Rl f.types.length st set seen)(x:Nd)(w:Wh) :
 PR f.types.length seen x.outs (if z0y x.kind then(y9p f st x w,st)else z2k u f st x) (z1k u f set x seen w):=by
 have U:=λwant=>(yj1 h x.args want).symm;have hlen:∀b,z0w f.types st x.args []=b->((x.args.length:Int)==0)=b:=λb hb=>by
  rw[<- hb];unfold z0w eqf
  cases x.args with
  |nil=>rfl
  |cons a r =>
   have e:¬(((a::r).length:Int)=(([]:List Int).length:Int)):=by simp;omega
   have e2:(((a::r).length:Int)==0)=false:=by simp;omega
   rw[A1 e,e2]
 unfold z1k z2k y9p y9s zx3 zd6
 by_cases k1:x.kind=1
 ·simp only[k1,z0y];exact zv1 h (U _) _ _
 by_cases k2:x.kind=2
 ·simp only[k2,z0y];exact zv1 h (by rw[U]) _ _
 by_cases k3:x.kind=3
 ·simp only[k3,z0y]
  cases ho:z2w x.op with
  |false=>exact .no
  |true=>rw[ye8 ho];exact zv1 h (by rw[U]) _ _
 by_cases k4:x.kind=4
 ·simp only[k4,z0y,j1z]
  cases ho:z3o x.op with
  |false=>exact .no
  |true=>rw[ye9 ho];exact zv1 h (by rw[U]) _ _
 by_cases k5:x.kind=5
 ·simp only[k5,z0y];exact zv1 h (by rw[U]) _ _
 by_cases k6:x.kind=6
 ·simp only[k6,z0y];exact nil_rl h (by rw[U]) _
 by_cases k7:x.kind=7
 ·simp only[k7,z0y]
  by_cases hp:z06 x.name u.flows 0<0
  ·have e:¬(decide (z06 x.name u.flows 0≥0))=true:=by simp;omega
   simp only[A5 hp,A1 e];exact .no
  ·have e:(decide (z06 x.name u.flows 0≥0))=true:=by simp;omega
   simp only[A1 hp,A5 e]
   cases u.flows[(z06 x.name u.flows 0).toNat]? with
   |none=>exact .no
   |some g=>exact zv1 h (U _) _ _
 by_cases k8:x.kind=8
 ·simp only[k8,z0y];exact zv1 h (hlen _ rfl).symm _ _
 by_cases k9:x.kind=9
 ·simp only[k9,z0y];exact nil_rl h (U _) _
 have out0:∀c:Bool,((x.outs.length:Int)==0&&c)=true->x.outs=[]:=λc hc=>by
  simp only[A0,At]at hc;exact Ay oM0
 by_cases k12:x.kind=12
 ·simp only[k12,z0y];show PR _ _ _ ((x.outs.length:Int)==0&&w.If&&z0w f.types st x.args w.Yield,st) (w.If&&z07 f.types seen x.args w.Yield&&(x.outs.length:Int)==0,set);exact yl1 h (by rw[<- U];cases(w.If)<;>cases((x.outs.length:Int)==0)<;>simp) (λhb=>by rw[Ea]at hb;exact out0 _ hb)
 by_cases k13:x.kind=13
 ·simp only[k13,z0y];show PR _ _ _ ((x.outs.length:Int)==0&&w.Loop&&z0w f.types st x.args w.Next,st) (w.Loop&&z07 f.types seen x.args w.Next&&(x.outs.length:Int)==0,set);exact yl1 h (by rw[<- U];cases(w.Loop)<;>cases((x.outs.length:Int)==0)<;>simp) (λhb=>by rw[Ea]at hb;exact out0 _ hb)
 by_cases k14:x.kind=14
 ·simp only[k14,z0y];show PR _ _ _ ((x.outs.length:Int)==0&&w.Loop&&z0w f.types st x.args w.Left,st) (w.Loop&&z07 f.types seen x.args w.Left&&(x.outs.length:Int)==0,set);exact yl1 h (by rw[<- U];cases(w.Loop)<;>cases((x.outs.length:Int)==0)<;>simp) (λhb=>by rw[Ea]at hb;exact out0 _ hb)
 by_cases k15:x.kind=15
 ·simp only[k15,z0y];show PR _ _ _ ((x.outs.length:Int)==0&&z0w f.types st x.args [f.ty],st) (z07 f.types seen x.args [f.ty]&&(x.outs.length:Int)==0,set);exact yl1 h (by rw[<- U];exact Bool.and_comm _ _) (λhb=>out0 _ hb)
 have e1:(x.kind==1)=false:=by simpa using k1
 have e2:(x.kind==2)=false:=by simpa using k2
 have e3:(x.kind==3)=false:=by simpa using k3
 have e4:(x.kind==4)=false:=by simpa using k4
 have e5:(x.kind==5)=false:=by simpa using k5
 have e6:(x.kind==6)=false:=by simpa using k6
 have e7:(x.kind==7)=false:=by simpa using k7
 have e8:(x.kind==8)=false:=by simpa using k8
 have e9:(x.kind==9)=false:=by simpa using k9
 have e12:(x.kind==12)=false:=by simpa using k12
 have e13:(x.kind==13)=false:=by simpa using k13
 have e14:(x.kind==14)=false:=by simpa using k14
 have e15:(x.kind==15)=false:=by simpa using k15
 have ee:z0y x.kind=false:=by simp[z0y];omega
 simp only[e1,e2,e3,e4,e5,e6,e7,e8,e9,e12,e13,e14,e15,ee,As,Bv,Ev];exact .no
theorem y3l:∀(l:List Nd)(st:List Int),z4c st l=z3j st (l.flatMap Nd.outs)
 |[],_=>rfl
 |x::r,st=>by
  have:=y3l r (z3j st x.outs);simp only[z4c,Ee,F2,z3j,E4]at this⊢;exact this
theorem y7y{n:Nat}{st:List Int}{set:List Bool}{all l:List Int}(h:Rl n st set (all++l))(hl:∀v∈l,0<=v/\v<n/\all.contains v=false):Rl n (z3j st l) set all:=by
 refine j1k l st set [] all hl (λv hv=>?_) h.l1 h.l2 h.s (λv hv hc=>?_)
 ·obtain⟨h0,h1,_⟩:=hl v hv;have hu:=h.u v.toNat oM0;have hc:(all++l).contains ((v.toNat:Nat):Int)=true:=by
   rw[show((v.toNat:Nat):Int)=v by omega];simp[hv]
  rw[hc]at hu;have:st.getD v.toNat 0=1:=by simpa using hu.symm
  rw[this];decide
 ·have hu:=h.u v hv;rw[Ck,hc,Ev]at hu;exact hu
def LR(u:Un)(f:Fl)(l:List Nd):Prop:=∀(deep:Int)(w:Wh)(st:List Int)(set:List Bool)(seen:List Int),Rl f.types.length st set seen ->
 (z2o u f deep w seen set l).1=(z22 u f deep w st l).1/\((z22 u f deep w st l).1=true->Rl f.types.length (z22 u f deep w st l).2 (z2o u f deep w seen set l).2 seen)
theorem y09{n:Nat}{seen outs:List Int}{r:Bool×List Int}{q:Bool×List Bool}{k:List Int->Bool×List Int}{k':List Bool->Bool×List Bool}(h:q.1=r.1)(hk:r.1=true->PR n seen outs (k r.2) (k' q.2)):PR n seen outs (andQ r k) (andT q k'):=by
 unfold andQ andT;rw[h]
 cases hr:r.1 with
 |false=>exact .no
 |true=>exact hk hr
theorem j5b{f:Fl}{x:Nd}{st:List Int}{set:List Bool}{seen:List Int}(h:Rl f.types.length st set seen):PR f.types.length seen x.outs (z4d f x st) (zg6 f x set):=zv1 h rfl _ _
theorem node_rl(u:Un)(f:Fl)(x:Nd)(ih:∀q∈x.kids,LR u f q)(deep:Int)(w:Wh){st:List Int}{set:List Bool}{seen:List Int}(h:Rl f.types.length st set seen) :
 PR f.types.length seen x.outs (z65 u f deep w st x) (z4x u f deep w seen set x):=by
 cases hb:z1m x with
 |false=>rw[zk2 _ _ _ _ _ hb,zi7 _ _ _ _ _ _ hb];exact .no
 |true =>
  by_cases h10:x.kind=10
  ·obtain⟨a,b,hk⟩:=z3h hb h10;rw[y2a _ _ _ _ _ hb h10 hk,y1f _ _ _ _ _ _ hb h10 hk,yj1 h];split
   ·obtain⟨h1,h2⟩:=ih a (by rw[hk];simp) (deep+1) ⟨true,w.Loop,r8of f.types x.outs,w.Next,w.Left⟩ st set seen h;refine y09 h1 λht=>?_;obtain⟨h3,h4⟩:=ih b (by rw[hk];simp) (deep+1) ⟨true,w.Loop,r8of f.types x.outs,w.Next,w.Left⟩ _ _ seen (h2 ht);exact y09 h3 λht2=>j5b (h4 ht2)
   ·exact .no
  ·by_cases h11:x.kind=11
   ·obtain⟨a,hk⟩:=z25 hb h11;rw[zk3 _ _ _ _ _ hb h11 hk,zi8 _ _ _ _ _ _ hb h11 hk,yj1 h];split
    ·obtain⟨h1,h2⟩:=j4u h x.params (List.replicate x.params.length 0);refine y09 h1 λht=>?_;obtain⟨h3,h4⟩:=h2 ht;obtain⟨h5,h6⟩:=ih a (by rw[hk];simp) (deep+1) ⟨false,true,[],r8of f.types x.params,r8of f.types x.outs⟩ _ _ _ h3;exact y09 h5 λht2=>j5b (y7y (h6 ht2) h4)
    ·exact .no
   ·have e10:(x.kind==10)=false:=by simpa using h10
    have e11:(x.kind==11)=false:=by simpa using h11
    rw[z9w _ _ _ _ _ _ hb e10 e11];have hs:=j4z u f h x w
    cases he:z0y x.kind with
    |true=>rw[zt5 _ _ _ _ _ hb e10 e11 he];rw[A5 he]at hs;exact hs
    |false=>rw[za4 _ _ _ _ _ hb e10 e11 he];rw[A1 (by simp[he])]at hs;exact hs
theorem go_rl(u:Un)(f:Fl)(deep:Int)(w:Wh):∀(l:List Nd),(∀x∈l,∀q∈x.kids,LR u f q)->∀(st:List Int)(set:List Bool)(all:List Int),Rl f.types.length st set all ->
 PR f.types.length all (l.flatMap Nd.outs) (shGo u f deep w st l) (r8go u f deep w all set l)
 |[],_,st,set,all,h=>by
  unfold shGo r8go
  exact⟨rfl,λ_=>⟨by simpa using h,λv hv=>by simp at hv⟩⟩
 |x::r,ih,st,set,all,h=>by
  unfold shGo r8go
  by_cases hd:deep > 100
  ·rw[A5 hd,A5 hd];exact .no
  ·rw[A1 hd,A1 hd];obtain⟨h1,h2⟩:=node_rl u f x (ih x (.head _)) deep w h;refine y09 h1 λht=>?_;obtain⟨h3,h4⟩:=h2 ht
   by_cases hc:(z04 x != r.isEmpty)=true
   ·rw[A5 hc,A5 hc];exact .no
   ·rw[A1 hc,A1 hc];obtain⟨h5,h6⟩:=go_rl u f deep w r (λy hy=>ih y (.tail _ hy)) _ _ _ h3;refine⟨h5,λht2=>?_⟩;obtain⟨h7,h8⟩:=h6 ht2;refine⟨by simpa using h7,λv hv=>?_⟩;rw[F2,B3]at hv;rcases hv with hv|hv
    ·exact h4 v hv
    ·obtain⟨g1,g2,g3⟩:=h8 v hv;rw[Ck,Bn]at g3;exact⟨g1,g2,g3.1⟩
theorem j20(u:Un)(f:Fl):∀(N:Nat)(l:List Nd),SizeOf.sizeOf l<N->LR u f l
 |0,_,h=>A9 h (An _)
 |N+1,l,hN=>by
  intro deep w st set seen h;have ih:∀x∈l,∀q∈x.kids,LR u f q:=λx hx q hq=>j20 u f N q (Bg (zc7 hx rfl hq) (C7 hN));obtain⟨h1,h2⟩:=go_rl u f deep w l ih st set seen h;unfold z2o z22 ne andQ
  cases l with
  |nil =>
   simp only[List.isEmpty_nil,C6];unfold shGo
   simp[y9q]
  |cons x r =>
   simp only[List.isEmpty_cons,As,Bv];rw[h1]
   cases hg:(shGo u f deep w st (x::r)).1 with
   |false=>simp[hg]
   |true =>
    obtain⟨h3,h4⟩:=h2 hg;simp only[C6,y9q];refine⟨by simp,λ_=>?_⟩;rw[y3l];exact y7y h3 h4
theorem j4x(u:Un)(f:Fl)(deep:Int)(w:Wh){st:List Int}{set:List Bool}{seen:List Int}(h:Rl f.types.length st set seen)(l:List Nd):(z22 u f deep w st l).1=(z2o u f deep w seen set l).1 :=
 ((j20 u f _ l (Ac _)) deep w st set seen h).1.symm
theorem start_rl{k n:Nat}(h:k<=n):Rl n (zo3 k n) (z5f k n) (iota k):=by
 refine⟨zx2 h,z4h h,λv hv=>?_,λv hv=>?_⟩
 ·simp only[z5f,zo3,Ax]
  by_cases e:v<k
  ·rw[Au (by simpa using e),Au (by simpa using e)];simp[E7,e]
  ·rw[B4 (by simpa using e),B4 (by simpa using e)];simp only[Ef,E7];rw[A5 oM0,A5 oM0];rfl
 ·have hc:(iota k).contains (v:Int)=decide (v<k):=by
   simp only[iota]
   by_cases e:v<k
   ·simp[e];exact⟨v,e,rfl⟩
   ·simp[e];intro x hx;omega
  rw[hc];simp only[zo3,Ax]
  by_cases e:v<k
  ·rw[Au (by simpa using e)];simp[E7,e]
  ·rw[B4 (by simpa using e)];simp only[Ef,E7];rw[A5 oM0];simp[e]
theorem yk6:∀l:List Int,l.any (λt=>!isTy t) = !l.all (λt=>t==1||t==2)
 |[]=>rfl
 |t::r=>by rw[Gc,De,yk6 r,Bool.not_and];rfl
theorem j4v(u:Un)(f:Fl)(h0:0<=f.params)(h1:f.params<=f.types.length):y29 u f=z5i u f:=by
 unfold y29 z5i;rw[j4x u f 1 z3z (start_rl (k:=f.params.toNat) oM0) f.body];have e1:decide (f.params<0)=false:=by simp;omega
 have e2:decide (f.params > f.types.length)=false:=by simp;omega
 have e3:=yk6 f.types;rw[e1,e2,e3]
 cases decide (f.params > 8)<;>cases decide ((f.types.length:Int) > 20000)<;>cases f.types.all (λt=>t==1||t==2)<;>simp
def nmA(l:List Ar):List (List UInt8):=l.map λa=>a.name.toList
def nmF(l:List Fl):List (List UInt8):=l.map λa=>a.name.toList
theorem y0a(nm:ByteArray):∀(pre l:List Ar)(i:Int),(nm.toList∈nmA pre->i<=z0i nm (pre++l) i/\z0i nm (pre++l) i<i+pre.length)/\(nm.toList∉nmA pre->z0i nm (pre++l) i=z0i nm l (i+pre.length))
 |[],l,i=>by simp[nmA]
 |a::pre,l,i=>by
  obtain⟨h1,h2⟩:=y0a nm pre l (i+1);rw[Be,show z0i nm (a::(pre++l)) i=if (a.name.toList==nm.toList)=true then i else z0i nm (pre++l) (i+1)from rfl]
  by_cases e:a.name.toList=nm.toList
  ·have eb:(a.name.toList==nm.toList)=true:=by simpa using e
   rw[A5 eb];refine⟨λ_=>⟨Dd _,by simp;omega⟩,λh=>A9 (by simp[nmA,e]) h⟩
  ·have eb:¬(a.name.toList==nm.toList)=true:=by simpa using e
   rw[A1 eb];refine⟨λh=>?_,λh=>?_⟩
   ·have:nm.toList∈nmA pre:=by
     simp only[nmA,B7,Aq]at h;exact h.resolve_left λh=>e h.symm
    have:=h1 this;simp only[A3];omega
   ·have:nm.toList∉nmA pre:=λhm=>h (by simp only[nmA,B7,Aq];exact .inr hm);rw[h2 this]
    congr 1
    simp only[A3];omega
theorem zi5(nm:ByteArray):∀(pre l:List Fl)(i:Int),(nm.toList∈nmF pre->i<=z06 nm (pre++l) i/\z06 nm (pre++l) i<i+pre.length)/\(nm.toList∉nmF pre->z06 nm (pre++l) i=z06 nm l (i+pre.length))
 |[],l,i=>by simp[nmF]
 |a::pre,l,i=>by
  obtain⟨h1,h2⟩:=zi5 nm pre l (i+1);rw[Be,show z06 nm (a::(pre++l)) i=if (a.name.toList==nm.toList)=true then i else z06 nm (pre++l) (i+1)from rfl]
  by_cases e:a.name.toList=nm.toList
  ·have eb:(a.name.toList==nm.toList)=true:=by simpa using e
   rw[A5 eb];refine⟨λ_=>⟨Dd _,by simp;omega⟩,λh=>A9 (by simp[nmF,e]) h⟩
  ·have eb:¬(a.name.toList==nm.toList)=true:=by simpa using e
   rw[A1 eb];refine⟨λh=>?_,λh=>?_⟩
   ·have:nm.toList∈nmF pre:=by
     simp only[nmF,B7,Aq]at h;exact h.resolve_left λh=>e h.symm
    have:=h1 this;simp only[A3];omega
   ·have:nm.toList∉nmF pre:=λhm=>h (by simp only[nmF,B7,Aq];exact .inr hm);rw[h2 this]
    congr 1
    simp only[A3];omega
theorem j2o(nm:ByteArray)(l:List Fl):z06 nm l 0≥0↔nm.toList∈nmF l:=by
 obtain⟨h1,h2⟩:=zi5 nm l [] 0;rw[Cy]at h1 h2
 by_cases h:nm.toList∈nmF l
 ·exact⟨λ_=>h,λh=>(h1 h).1⟩
 ·refine⟨λh3=>?_,λh4=>A9 h4 h⟩;rw[h2 h]at h3;simp[z06]at h3
theorem array_at(nm:ByteArray)(pre r:List Ar)(a:Ar)(h:a.name.toList=nm.toList):z0i nm (pre++a::r) 0=pre.length↔nm.toList∉nmA pre:=by
 obtain⟨h1,h2⟩:=y0a nm pre (a::r) 0
 by_cases e:nm.toList∈nmA pre
 ·have:=h1 e;exact⟨λh=>by omega,λh=>A9 e h⟩
 ·refine⟨λ_=>e,λ_=>?_⟩;rw[h2 e];have eb:(a.name.toList==nm.toList)=true:=by simpa using h
  rw[show z0i nm (a::r) (0+pre.length)=if (a.name.toList==nm.toList)=true then(0+pre.length:Int)else z0i nm r (0+pre.length+1)from rfl,A5 eb];omega
theorem place_at(nm:ByteArray)(pre r:List Fl)(a:Fl)(h:a.name.toList=nm.toList):z06 nm (pre++a::r) 0=pre.length↔nm.toList∉nmF pre:=by
 obtain⟨h1,h2⟩:=zi5 nm pre (a::r) 0
 by_cases e:nm.toList∈nmF pre
 ·have:=h1 e;exact⟨λh=>by omega,λh=>A9 e h⟩
 ·refine⟨λ_=>e,λ_=>?_⟩;rw[h2 e];have eb:(a.name.toList==nm.toList)=true:=by simpa using h
  rw[show z06 nm (a::r) (0+pre.length)=if (a.name.toList==nm.toList)=true then(0+pre.length:Int)else z06 nm r (0+pre.length+1)from rfl,A5 eb];omega
theorem gA_iff(u:Un):∀(pre l:List Ar),u.arrays=pre++l->(r8gA u l pre.length=true↔(∀a∈l,zy1 a=true/\a.name.toList∉nmF u.flows/\a.name.toList∉nmA pre)/\(nmA l).Nodup)
 |pre,[],_=>by simp[r8gA,nmA]
 |pre,a::r,hu=>by
  have ih:=gA_iff u (pre++[a]) r (by simp[hu]);have hlen:(((pre++[a]).length:Nat):Int)=(pre.length:Int)+1:=by simp
  rw[hlen]at ih;rw[r8gA,A0,ih];have ha:gArr u a pre.length=true↔zy1 a=true/\a.name.toList∉nmA pre/\a.name.toList∉nmF u.flows:=by
   have h1:=array_at a.name pre r a rfl;have h2:=j2o a.name u.flows;rw[<- hu]at h1;unfold gArr zy1;simp only[A0,Bi,Cg,At,h1,h2];constructor
   ·rintro⟨⟨⟨⟨a1,a2⟩,a3⟩,a4⟩,a5⟩;exact⟨⟨⟨a1,a2⟩,a3⟩,a4,a5⟩
   ·rintro⟨⟨⟨a1,a2⟩,a3⟩,a4,a5⟩;exact⟨⟨⟨⟨a1,a2⟩,a3⟩,a4⟩,a5⟩
  rw[ha];constructor
  ·rintro⟨⟨b1,b2,b3⟩,b4,b5⟩;refine⟨λx hx=>?_,?_⟩
   ·rcases Aq.1 hx with rfl|hx
    ·exact⟨b1,b3,b2⟩
    ·obtain⟨c1,c2,c3⟩:=b4 x hx;exact⟨c1,c2,λh=>c3 (by simp only[nmA,Cp,B3];exact .inl h)⟩
   ·refine Eh.2 ⟨λh=>?_,b5⟩;obtain⟨x,hx,e⟩:=Bz.1 h;exact(b4 x hx).2.2 (by simp only[nmA,Cp,B3,B7,Cv,Al];exact .inr e)
  ·rintro⟨b1,b2⟩;have b3:=Eh.1 b2;obtain⟨c1,c2,c3⟩:=b1 a (.head _);refine⟨⟨c1,c3,c2⟩,λx hx=>?_,b3.2⟩;obtain⟨d1,d2,d3⟩:=b1 x (.tail _ hx);refine⟨d1,d2,λh=>?_⟩;simp only[nmA,Cp,B3,B7,Cv,Al]at h;rcases h with h|h
   ·exact d3 h
   ·exact b3.1 (Bz.2 ⟨x,hx,h⟩)
theorem gF_iff(u:Un):∀(pre l:List Fl),u.flows=pre++l->(r8gF u l pre.length=true↔(∀a∈l,zo4 a=true/\a.name.toList∉nmF pre)/\(nmF l).Nodup)
 |pre,[],_=>by simp[r8gF,nmF]
 |pre,a::r,hu=>by
  have ih:=gF_iff u (pre++[a]) r (by simp[hu]);have hlen:(((pre++[a]).length:Nat):Int)=(pre.length:Int)+1:=by simp
  rw[hlen]at ih;rw[r8gF,A0,ih];have ha:gFlw u a pre.length=true↔zo4 a=true/\a.name.toList∉nmF pre:=by
   have h1:=place_at a.name pre r a rfl;rw[<- hu]at h1;unfold gFlw zo4 isTy;simp only[A0,Bi,Cg,At,h1];constructor
   ·rintro⟨⟨⟨⟨a1,a2⟩,a3⟩,a4⟩,a5⟩;exact⟨⟨⟨⟨a1,a3⟩,a4⟩,a5⟩,a2⟩
   ·rintro⟨⟨⟨⟨a1,a3⟩,a4⟩,a5⟩,a2⟩;exact⟨⟨⟨⟨a1,a2⟩,a3⟩,a4⟩,a5⟩
  rw[ha];constructor
  ·rintro⟨⟨b1,b2⟩,b4,b5⟩;refine⟨λx hx=>?_,?_⟩
   ·rcases Aq.1 hx with rfl|hx
    ·exact⟨b1,b2⟩
    ·obtain⟨c1,c3⟩:=b4 x hx;exact⟨c1,λh=>c3 (by simp only[nmF,Cp,B3];exact .inl h)⟩
   ·refine Eh.2 ⟨λh=>?_,b5⟩;obtain⟨x,hx,e⟩:=Bz.1 h;exact(b4 x hx).2 (by simp only[nmF,Cp,B3,B7,Cv,Al];exact .inr e)
  ·rintro⟨b1,b2⟩;have b3:=Eh.1 b2;obtain⟨c1,c3⟩:=b1 a (.head _);refine⟨⟨c1,c3⟩,λx hx=>?_,b3.2⟩;obtain⟨d1,d3⟩:=b1 x (.tail _ hx);refine⟨d1,λh=>?_⟩;simp only[nmF,Cp,B3,B7,Cv,Al]at h;rcases h with h|h
   ·exact d3 h
   ·exact b3.1 (Bz.2 ⟨x,hx,h⟩)
def z2q(es:List (Value×PV)):List (List UInt8):=es.map λe=>match e.1 with
 |.string s=>s.toList
 |_=>[]
theorem y0z(s:ByteArray)(v:PV):∀(es:List (Value×PV)),Cnt es->(s.toList∈z2q es->z2q (mput (.string s) v es)=z2q es)/\(s.toList∉z2q es->z2q (mput (.string s) v es)=z2q es++[s.toList])
 |[],_=>by simp[z2q,mput]
 |(a,p)::r,h=>by
  have ha:=h.1 (a,p) (.head _);have hr:Cnt r:=⟨λe he=>h.1 e (.tail _ he),λe he=>h.2 e (.tail _ he)⟩;obtain⟨h1,h2⟩:=y0z s v r hr
  cases a with
  |string t =>
   simp only[mput]
   by_cases e:s.toList=t.toList
   ·have eb:keyB (.string s) (.string t)=true:=by simpa[keyB]using e
    rw[A5 eb];exact⟨λ_=>by simp[z2q,e],λh=>A9 (by simp[z2q,e]) h⟩
   ·have eb:¬keyB (.string s) (.string t)=true:=by simpa[keyB]using e
    rw[A1 eb];refine⟨λh=>?_,λh=>?_⟩
    ·have:s.toList∈z2q r:=by
      simp only[z2q,B7,Aq]at h;exact h.resolve_left e
     have h3:=h1 this;simp only[z2q,B7]at h3⊢;rw[h3]
    ·have:s.toList∉z2q r:=λhm=>h (by simp only[z2q,B7,Aq];exact .inr hm);have h3:=h2 this;simp only[z2q,B7,Be]at h3⊢
     rw[h3]
  |_=>simp[z1y]at ha
theorem yb6(s:ByteArray){es:List (Value×PV)}(h:Cnt es):(s.toList∈z2q es->z2q (bump s es)=z2q es)/\(s.toList∉z2q es->z2q (bump s es)=z2q es++[s.toList]):=by
 obtain⟨n,hn⟩:=h.find (.string s);rw[zh7 hn];exact y0z s _ es h
def y0g(es:List (Value×PV))(l:List ByteArray):List (Value×PV):=l.foldl (λe s=>bump s e) es
def nmS(l:List ByteArray):List (List UInt8):=l.map ByteArray.toList
theorem y3c:∀(l:List ByteArray) (es:List (Value×PV)),Cnt es->(z2q (y0g es l)).length<=(z2q es).length+l.length /\
 ((z2q (y0g es l)).length=(z2q es).length+l.length↔(∀s∈l,s.toList∉z2q es)/\(nmS l).Nodup)
 |[],es,_=>by simp[y0g,nmS]
 |s::r,es,h=>by
  obtain⟨ih1,ih2⟩:=y3c r (bump s es) (h.bump s);obtain⟨h1,h2⟩:=yb6 s h;show(z2q (y0g (bump s es) r)).length<=_/\((z2q (y0g (bump s es) r)).length=_↔_)
  by_cases e:s.toList∈z2q es
  ·rw[h1 e]at ih1;refine⟨by simp only[A3];omega,λhl=>by simp only[A3]at hl;omega,λhb=>A9 e (hb.1 s (.head _))⟩
  ·have hk:=h2 e;rw[hk]at ih1 ih2;simp only[B8,A3,A6]at ih1 ih2⊢;refine⟨by omega,?_⟩;rw[show(z2q es).length+(r.length+1)=(z2q es).length+(0+1)+r.length by omega,ih2];constructor
   ·rintro⟨b1,b2⟩;refine⟨λx hx=>?_,Eh.2 ⟨λhm=>?_,b2⟩⟩
    ·rcases Aq.1 hx with rfl|hx
     ·exact e
     ·exact λhm=>b1 x hx (B3.2 (.inl hm))
    ·obtain⟨x,hx,he⟩:=Bz.1 hm;exact b1 x hx (by rw[he];simp)
   ·rintro⟨b1,b2⟩;have b3:=Eh.1 b2;refine⟨λx hx hm=>?_,b3.2⟩;rcases B3.1 hm with hm|hm
    ·exact b1 x (.tail _ hx) hm
    ·exact b3.1 (Bz.2 ⟨x,hx,by simpa using hm⟩)
theorem j10(u:Un):((y3b (y0f [] u.arrays) u.flows).length:Int)=u.arrays.length+u.flows.length↔(nmA u.arrays++nmF u.flows).Nodup:=by
 have e:y3b (y0f [] u.arrays) u.flows=y0g [] (u.arrays.map Ar.name++u.flows.map Fl.name):=by
  simp only[y3b,y0f,y0g,E4,List.foldl_map]
 have hn:nmS (u.arrays.map Ar.name++u.flows.map Fl.name)=nmA u.arrays++nmF u.flows:=by
  simp only[nmS,nmA,nmF,Cp,Eg];rfl
 obtain⟨_,h2⟩:=y3c (u.arrays.map Ar.name++u.flows.map Fl.name) [] .nil;rw[e];simp only[z2q,Ab,B8,A6,Bu]at h2;rw[<- hn];constructor
 ·intro h;exact(h2.1 oM0).2
 ·intro h;have:=h2.2 ⟨λs _=>by simp,h⟩;omega
theorem j4w(u:Un):z9g u=z1i u:=by
 have hA:=gA_iff u [] u.arrays rfl;have hF:=gF_iff u [] u.flows rfl;simp only[A6]at hA hF;rw[Cn];unfold z9g z1i;simp only[A0,Bj,At,j10];rw[show((0:Nat):Int)=0 from rfl]at hA hF;rw[hA,hF,Cr];constructor
 ·rintro⟨⟨⟨a1,a2⟩,a3,a4,a5⟩,a6⟩;exact⟨⟨⟨λa ha=>⟨a1 a ha,λhm=>a5 _ (Bz.2 ⟨a,ha,rfl⟩) _ hm rfl,by simp[nmA]⟩,a3⟩,λf hf=>⟨a2 f hf,by simp[nmF]⟩,a4⟩,a6⟩
 ·rintro⟨⟨⟨a1,a3⟩,a2,a4⟩,a6⟩;refine⟨⟨⟨λa ha=>(a1 a ha).1,λf hf=>(a2 f hf).1⟩,a3,a4,λx hx y hy e=>?_⟩,a6⟩;obtain⟨a,ha,rfl⟩:=Bz.1 hx;exact(a1 a ha).2.1 (e▸hy)
theorem y4w(u:Un):∀(l:List Fl)(i:Int),(∀f∈l,0<=f.params/\f.params<=f.types.length)->za6 u l i=z5s u l i
 |[],_,_=>rfl
 |f::r,i,h=>by
  obtain⟨h1,h2⟩:=h f (.head _);simp only[za6,z5s,j4v u f h1 h2,y4w u r (i+1) (λf hf=>h f (.tail _ hf))]
theorem z9f(u:Un):z4v u=z17 u:=by
 unfold z4v z17;rw[j4w]
 cases h:z1i u with
 |false=>rfl
 |true=>simp only[C6];exact y4w u _ _ (z6x h)
def zh0(x:Nd):Bool:=x.kind==1||x.kind==2||x.kind==3||(x.kind==4&&x.op != 4&&x.op != 5)
def vKey(v:Int):Value:=.int .i64 v
theorem yl0(l:List Nd)(x:Nd):(l++[x]).map Nd.enc=l.map Nd.enc++[[vInt x.kind,vInt x.op,vInt x.n,vStr x.name,ints x.args,ints x.outs,ints x.params,kids x.kids]]:=by
 rw[Cp,B7,Cv,Nd.enc_eq,Nd.cells_eta]
theorem ym2:∀ks:List (List Nd),ks.length<=kdW ks
 |[]=>by simp
 |l::r=>by have:=ym2 r;simp only[kdW,A3];omega
def inR(n:Nat)(ds:List Int):Prop:=∀v∈ds,0<=v/\v<n
def Frs(set:List Bool)(ds:List Int):Prop:=ds.Nodup/\∀v∈ds,set.getD v.toNat false=false
def z38(set:List Bool)(ds:List Int):List Bool:=ds.foldl (λs v=>s.set v.toNat true) set
theorem z49:∀(ds:List Int)(set:List Bool),(z38 set ds).length=set.length
 |[],_=>rfl
 |v::r,set=>by have:=z49 r (set.set v.toNat true);simpa[z38]using this
theorem zd2(set:List Bool)(a b:List Int):z38 set (a++b)=z38 (z38 set a) b:=by simp[z38]
theorem y0y{n:Nat}:∀(ds:List Int)(set:List Bool),set.length=n->inR n ds->∀v:Int,0<=v->v<n->(z38 set ds).getD v.toNat false=(ds.contains v||set.getD v.toNat false)
 |[],set,_,_,v,_,_=>by simp[z38]
 |d::r,set,hn,hr,v,h0,h1=>by
  have ih:=y0y r (set.set d.toNat true) (by simpa using hn) (λv hv=>hr v (.tail _ hv)) v h0 h1;obtain⟨d0,d1⟩:=hr d (.head _);show(z38 (set.set d.toNat true) r).getD v.toNat false=_;rw[ih,zl5,Ew]
  by_cases e:v=d
  ·subst e;rw[A5 ⟨rfl,by omega⟩];simp
  ·have e2:¬(d.toNat=v.toNat/\d.toNat<set.length):=by omega
   have e3:(v==d)=false:=by simpa using e
   rw[A1 e2,e3,Ce]
theorem y0o{n:Nat}{set:List Bool}{a b:List Int}(hn:set.length=n)(ha:inR n a)(hb:inR n b):Frs set (a++b)↔Frs set a/\Frs (z38 set a) b:=by
 unfold Frs;rw[Cr];constructor
 ·rintro⟨⟨h1,h2,h3⟩,h4⟩;refine⟨⟨h1,λv hv=>h4 v (by simp[hv])⟩,h2,λv hv=>?_⟩;rw[y0y a set hn ha v (hb v hv).1 (hb v hv).2,h4 v (by simp[hv])];have:a.contains v=false:=by
   rw[<- Dv,List.contains_iff_mem];exact λhm=>h3 v hm v hv rfl
  rw[this];rfl
 ·rintro⟨⟨h1,h2⟩,h3,h4⟩;have hkey:∀v∈b,a.contains v=false/\set.getD v.toNat false=false:=λv hv=>by
   have:=h4 v hv;rw[y0y a set hn ha v (hb v hv).1 (hb v hv).2,Bn]at this;exact this
  refine⟨⟨h1,h3,λx hx y hy e=>?_⟩,λv hv=>?_⟩
  ·subst e;have:=(hkey x hy).1;rw[<- Dv,List.contains_iff_mem]at this;exact this hx
  ·rcases B3.1 hv with hv|hv
   ·exact h2 v hv
   ·exact(hkey v hv).2
def z62(tys:List Int):List Int->List Int->Bool
 |[],[]=>true
 |v::r,w::ws=>z9h tys v w&&z62 tys r ws
 |_,_=>false
theorem z2z{tys:List Int}:∀{l want:List Int},z62 tys l want=true->inR tys.length l
 |[],[],_=>λv hv=>by simp at hv
 |[],_::_,h=>by simp[z62]at h
 |_::_,[],h=>by simp[z62]at h
 |x::r,w::ws,h=>by
  simp only[z62,A0,z9h,Ba]at h;intro v hv;rcases Aq.1 hv with rfl|hv
  ·exact⟨h.1.1.1,h.1.1.2⟩
  ·exact z2z h.2 v hv
theorem zp6{tys:List Int}:∀{l want:List Int},z62 tys l want=true->l.length=want.length
 |[],[],_=>rfl
 |[],_::_,h=>by simp[z62]at h
 |_::_,[],h=>by simp[z62]at h
 |x::r,w::ws,h=>by
  simp only[z62,A0]at h;simp[zp6 h.2]
theorem j0n(tys:List Int)(set:List Bool)(v w:Int):z9t tys set v w=false↔z9h tys v w=true/\set.getD v.toNat false=false:=by
 unfold z9t z9h;simp only[Bn,Cg,A0,Ba,Bb];constructor
 ·rintro⟨⟨⟨h1,h2⟩,h3⟩,h4⟩;refine⟨⟨⟨by omega,by omega⟩,?_⟩,h3⟩
  cases hw:(w==0)with
  |true=>exact .inl rfl
  |false=>exact .inr (by simpa[bne,hw]using h4)
 ·rintro⟨⟨⟨h1,h2⟩,h4⟩,h3⟩;refine⟨⟨⟨by omega,by omega⟩,h3⟩,?_⟩;rcases h4 with h4|h4
  ·simp[bne,h4]
  ·rw[show(tys.getD v.toNat 0 != w)=false from by rw[bne,h4];rfl,D1]
theorem y4u(tys:List Int):∀(l want:List Int)(set:List Bool),l.length=want.length->set.length=tys.length ->
 ((z2i tys set l want).1=true↔z62 tys l want=true/\Frs set l)/\((z2i tys set l want).1=true->(z2i tys set l want).2=z38 set l)
 |[],[],set,_,_=>by simp[z2i,z62,Frs,z38]
 |[],_::_,_,h,_=>by simp at h
 |_::_,[],_,h,_=>by simp at h
 |x::r,w::ws,set,hl,hn=>by
  obtain⟨ih1,ih2⟩:=y4u tys r ws (set.set x.toNat true) (by simpa using hl) (by simpa using hn);simp only[z2i]
  cases hb:z9t tys set x w with
  |true =>
   simp only[C6,As,false_iff,not_and,false_implies,and_true];intro h1 h2;simp only[z62,A0]at h1;have:=(j0n tys set x w).2 ⟨h1.1,h2.2 x (.head _)⟩
   rw[hb]at this;cases this
  |false =>
   obtain⟨b1,b2⟩:=(j0n tys set x w).1 hb;simp only[As,Bv];refine⟨?_,λh=>ih2 h⟩;rw[ih1];simp only[z62,b1,B6];refine Ej λhv=>?_;have hx:inR tys.length [x]:=λv hv=>by
    obtain rfl:=Al.1 hv;simp only[z9h,A0,Ba]at b1;exact⟨b1.1.1,b1.1.2⟩
   have:=y0o (a:=[x]) (b:=r) hn hx (z2z hv);rw[show x::r=[x]++r from rfl,this];exact⟨λh=>⟨⟨by simp,λv hv=>by obtain rfl:=Al.1 hv;exact b2⟩,h⟩,λh=>h.2⟩
theorem y6z(tys:List Int)(set:List Bool)(l want:List Int)(hn:set.length=tys.length) :
 ((z1w tys set l want).1=true↔z62 tys l want=true/\Frs set l)/\((z1w tys set l want).1=true->(z1w tys set l want).2=z38 set l):=by
 unfold z1w
 by_cases hl:l.length=want.length
 ·have e:((l.length:Int)==want.length)=true:=by simp;omega
  rw[A5 e];exact y4u tys l want set hl hn
 ·have e:¬((l.length:Int)==want.length)=true:=by simp;omega
  rw[A1 e];refine⟨⟨λh=>(by cases h),λh=>A9 (zp6 h.1) hl⟩,λh=>by cases h⟩
structure SForm where
 b:Bool
 want:Option (List Int)
def SForm.run(s:SForm)(tys:List Int)(outs:List Int)(set:List Bool):Bool×List Bool:=match s.want with
 |some wt=>andS s.b set (z1w tys set outs wt)
 |none=>(s.b&&(outs.length:Int)==0,set)
def SForm.ok(s:SForm)(tys:List Int)(outs:List Int):Bool:=match s.want with
 |some wt=>s.b&&z62 tys outs wt
 |none=>s.b&&(outs.length:Int)==0
def z8u(u:Un)(f:Fl)(x:Nd)(seen:List Int)(w:Wh):SForm :=
 if x.kind==1 then⟨z07 f.types seen x.args [],some [1]⟩
 else if x.kind==2 then⟨(x.n==0||x.n==1)&&z07 f.types seen x.args [],some [2]⟩
 else if x.kind==3 then⟨z2w x.op&&z07 f.types seen x.args [(z0h x.op).1],some [(z0h x.op).2]⟩
 else if x.kind==4 then⟨z3o x.op&&z07 f.types seen x.args [(z0h x.op).1,(z0h x.op).1]&&f.types.getD (x.args.getD 0 0).toNat 0==f.types.getD (x.args.getD 1 0).toNat 0,some [(z0h x.op).2]⟩
 else if x.kind==5 then⟨decide (z0i x.name u.arrays 0≥0)&&z07 f.types seen x.args [1],some [1]⟩
 else if x.kind==6 then⟨decide (z0i x.name u.arrays 0≥0)&&z07 f.types seen x.args [1,1],none⟩
 else if x.kind==7 then(if decide (z06 x.name u.flows 0≥0)=true then match u.flows[(z06 x.name u.flows 0).toNat]? with
  |some g=>⟨z07 f.types seen x.args (g.types.take g.params.toNat),some [g.ty]⟩
  |none=>⟨false,none⟩
  else⟨false,none⟩)
 else if x.kind==8 then⟨(x.args.length:Int)==0,some [1]⟩
 else if x.kind==9 then⟨z07 f.types seen x.args [1],none⟩
 else if x.kind==12 then⟨w.If&&z07 f.types seen x.args w.Yield,none⟩
 else if x.kind==13 then⟨w.Loop&&z07 f.types seen x.args w.Next,none⟩
 else if x.kind==14 then⟨w.Loop&&z07 f.types seen x.args w.Left,none⟩
 else if x.kind==15 then⟨z07 f.types seen x.args [f.ty],none⟩
 else⟨false,none⟩
theorem yi0(u:Un)(f:Fl)(set:List Bool)(x:Nd)(seen:List Int)(w:Wh):z1k u f set x seen w=(z8u u f x seen w).run f.types x.outs set:=by
 unfold z1k z8u zd6
 by_cases k1:(x.kind==1)=true
 ·rw[A5 k1,A5 k1];rfl
 rw[A1 k1,A1 k1]
 by_cases k2:(x.kind==2)=true
 ·rw[A5 k2,A5 k2];rfl
 rw[A1 k2,A1 k2]
 by_cases k3:(x.kind==3)=true
 ·rw[A5 k3,A5 k3];rfl
 rw[A1 k3,A1 k3]
 by_cases k4:(x.kind==4)=true
 ·rw[A5 k4,A5 k4];rfl
 rw[A1 k4,A1 k4]
 by_cases k5:(x.kind==5)=true
 ·rw[A5 k5,A5 k5];rfl
 rw[A1 k5,A1 k5]
 by_cases k6:(x.kind==6)=true
 ·rw[A5 k6,A5 k6];rfl
 rw[A1 k6,A1 k6]
 by_cases k7:(x.kind==7)=true
 ·rw[A5 k7,A5 k7]
  by_cases hp:decide (z06 x.name u.flows 0≥0)=true
  ·rw[A5 hp,A5 hp]
   cases u.flows[(z06 x.name u.flows 0).toNat]? with
   |none=>rfl
   |some g=>rfl
  ·rw[A1 hp,A1 hp];rfl
 rw[A1 k7,A1 k7]
 by_cases k8:(x.kind==8)=true
 ·rw[A5 k8,A5 k8];rfl
 rw[A1 k8,A1 k8]
 by_cases k9:(x.kind==9)=true
 ·rw[A5 k9,A5 k9];rfl
 rw[A1 k9,A1 k9]
 by_cases k12:(x.kind==12)=true
 ·rw[A5 k12,A5 k12];rfl
 rw[A1 k12,A1 k12]
 by_cases k13:(x.kind==13)=true
 ·rw[A5 k13,A5 k13];rfl
 rw[A1 k13,A1 k13]
 by_cases k14:(x.kind==14)=true
 ·rw[A5 k14,A5 k14];rfl
 rw[A1 k14,A1 k14]
 by_cases k15:(x.kind==15)=true
 ·rw[A5 k15,A5 k15];rfl
 rw[A1 k15,A1 k15];rfl
theorem run_iff{tys outs:List Int}{set:List Bool}(s:SForm)(hn:set.length=tys.length):((s.run tys outs set).1=true↔s.ok tys outs=true/\Frs set outs)/\((s.run tys outs set).1=true->(s.run tys outs set).2=z38 set outs):=by
 obtain⟨b,want⟩:=s
 cases want with
 |some wt =>
  obtain⟨h1,h2⟩:=y6z tys set outs wt hn;simp only[SForm.run,SForm.ok,andS]
  cases b with
  |false=>simp
  |true=>simp only[C6,B6];exact⟨h1,h2⟩
 |none =>
  simp only[SForm.run,SForm.ok];constructor
  ·constructor
   ·intro h;refine⟨h,?_⟩;simp only[A0,At]at h;have:outs=[]:=Ay oM0;subst this;exact⟨by simp,λv hv=>by simp at hv⟩
   ·exact λh=>h.1
  ·intro h;simp only[A0,At]at h;have:outs=[]:=Ay oM0;subst this;rfl
theorem ok_in{tys outs:List Int}{s:SForm}(h:s.ok tys outs=true):inR tys.length outs:=by
 obtain⟨b,want⟩:=s
 cases want with
 |some wt=>simp only[SForm.ok,A0]at h;exact z2z h.2
 |none =>
  simp only[SForm.ok,A0,At]at h;have:outs=[]:=Ay oM0;subst this;exact λv hv=>by simp at hv
mutual
def dN:Nd->List Int
 |.mk _ _ _ _ _ outs params ks=>params++(dK ks++outs)
def dL:List Nd->List Int
 |[]=>[]
 |x::r=>dN x++dL r
def dK:List (List Nd)->List Int
 |[]=>[]
 |l::r=>dL l++dK r
end
theorem y7m(x:Nd):dN x=x.params++(dK x.kids++x.outs):=by cases x;simp[dN,Nd.params,Nd.kids,Nd.outs]
def zer(l:List Int):List Int:=List.replicate l.length 0
def w1(w:Wh)(f:Fl)(x:Nd):Wh:=⟨true,w.Loop,r8of f.types x.outs,w.Next,w.Left⟩
def w2(f:Fl)(x:Nd):Wh:=⟨false,true,[],r8of f.types x.params,r8of f.types x.outs⟩
def y63(x:Nd):Bool:=(x.outs.length:Int)==0 || !z04 x
mutual
def z85(u:Un)(f:Fl)(deep:Int)(w:Wh)(seen:List Int):Nd->Bool
 |.mk kind op n name args outs params kids =>
  z1m (.mk kind op n name args outs params kids) &&
  (if kind==10 then
   match kids with
   |a::b::_=>z07 f.types seen args [2]&&(!a.isEmpty&&vGo u f (deep+1) (w1 w f (.mk kind op n name args outs params kids)) seen a)&&(!b.isEmpty&&vGo u f (deep+1) (w1 w f (.mk kind op n name args outs params kids)) seen b) &&
    y63 (.mk kind op n name args outs params kids)&&z62 f.types outs (zer outs)
   |_=>false
  else if kind==11 then
   match kids with
   |a::_=>z07 f.types seen args (r8of f.types params)&&z62 f.types params (zer params)&&(!a.isEmpty&&vGo u f (deep+1) (w2 f (.mk kind op n name args outs params kids)) (seen++params) a) &&
    y63 (.mk kind op n name args outs params kids)&&z62 f.types outs (zer outs)
   |_=>false
  else(z8u u f (.mk kind op n name args outs params kids) seen w).ok f.types outs)
def vGo(u:Un)(f:Fl)(deep:Int)(w:Wh)(all:List Int):List Nd->Bool
 |[]=>true
 |x::r=>!decide (deep > 100)&&z85 u f deep w all x&&(z04 x==r.isEmpty)&&vGo u f deep w (all++x.outs) r
end
def z4p(u:Un)(f:Fl)(deep:Int)(w:Wh)(all:List Int)(l:List Nd):Bool:=!l.isEmpty&&vGo u f deep w all l
theorem z6l(u:Un)(f:Fl)(deep:Int)(w:Wh)(seen:List Int){x:Nd}{a b:List Nd}(h:z1m x=true)(hk:x.kind=10)(hx:x.kids=[a,b]) :
 z85 u f deep w seen x=(z07 f.types seen x.args [2]&&z4p u f (deep+1) (w1 w f x) seen a&&z4p u f (deep+1) (w1 w f x) seen b&&y63 x&&z62 f.types x.outs (zer x.outs)):=by
 cases x
 simp only[Nd.kind,Nd.kids]at hk hx;subst hk hx;unfold z85;simp only[h,B6,Nd.args,Nd.outs];rfl
theorem z4q(u:Un)(f:Fl)(deep:Int)(w:Wh)(seen:List Int){x:Nd}{a:List Nd}(h:z1m x=true)(hk:x.kind=11)(hx:x.kids=[a]) :
 z85 u f deep w seen x=(z07 f.types seen x.args (r8of f.types x.params)&&z62 f.types x.params (zer x.params)&&z4p u f (deep+1) (w2 f x) (seen++x.params) a&&y63 x&&z62 f.types x.outs (zer x.outs)):=by
 cases x
 simp only[Nd.kind,Nd.kids]at hk hx;subst hk hx;unfold z85;simp only[h,B6,Nd.args,Nd.outs,Nd.params];rfl
theorem z1e(u:Un)(f:Fl)(deep:Int)(w:Wh)(seen:List Int){x:Nd}(h:z1m x=true)(h1:(x.kind==10)=false)(h2:(x.kind==11)=false) :
 z85 u f deep w seen x=(z8u u f x seen w).ok f.types x.outs:=by
 cases x
 simp only[Nd.kind]at h1 h2;unfold z85;simp only[h,B6,Nd.outs,h1,h2,As,Bv]
theorem z2s(u:Un)(f:Fl)(deep:Int)(w:Wh)(seen:List Int){x:Nd}(h:z85 u f deep w seen x=true):z1m x=true:=by
 cases x
 unfold z85 at h;simp only[A0]at h;exact h.1
theorem y0d{x:Nd}(h:z1m x=true)(hk:(x.kind==11)=false):x.params=[]:=by
 simp only[z1m,A0,hk,Ce,At]at h;exact Ay oM0
theorem z66{x:Nd}(h:z1m x=true)(h1:(x.kind==10)=false)(h2:(x.kind==11)=false):x.kids=[]:=by
 have:=zi6 h;simp only[r8kn,h1,h2,As,Bv]at this;exact Ay oM0
theorem y7n{x:Nd}(h:z1m x=true)(h1:(x.kind==10)=false)(h2:(x.kind==11)=false):dN x=x.outs:=by
 rw[y7m,y0d h h2,z66 h h1 h2];rfl
theorem dN_if{x:Nd}{a b:List Nd}(h:z1m x=true)(hk:x.kind=10)(hx:x.kids=[a,b]):dN x=dL a++(dL b++x.outs):=by
 rw[y7m,y0d h (by rw[hk];rfl),hx];simp[dK]
theorem yc0{x:Nd}{a:List Nd}(hx:x.kids=[a]):dN x=x.params++(dL a++x.outs):=by
 rw[y7m,hx];simp[dK]
theorem zq9{n:Nat}{a b:List Int}:inR n (a++b)↔inR n a/\inR n b :=
 ⟨λh=>⟨λv hv=>h v (by simp[hv]),λv hv=>h v (by simp[hv])⟩,λh v hv=>(B3.1 hv).elim (h.1 v) (h.2 v)⟩
theorem zy7{n:Nat}{set:List Bool}{a b d:List Int}(hn:set.length=n)(ha:inR n a)(hb:inR n b)(hd:inR n d):Frs set (a++(b++d))↔Frs set a/\Frs (z38 set a) b/\Frs (z38 (z38 set a) b) d:=by
 rw[y0o hn ha (zq9.2 ⟨hb,hd⟩),y0o ((z49 a set).trans hn) hb hd]
def RG(u:Un)(f:Fl)(l:List Nd):Prop:=∀(deep:Int)(w:Wh)(all:List Int),vGo u f deep w all l=true->inR f.types.length (dL l)
theorem yd9(u:Un)(f:Fl)(x:Nd)(ih:∀q∈x.kids,RG u f q)(deep:Int)(w:Wh)(seen:List Int)(h:z85 u f deep w seen x=true):inR f.types.length (dN x):=by
 have hb:=z2s u f deep w seen h
 by_cases h10:x.kind=10
 ·obtain⟨a,b,hk⟩:=z3h hb h10;rw[z6l u f deep w seen hb h10 hk]at h;simp only[A0,z4p]at h;rw[dN_if hb h10 hk];exact zq9.2 ⟨ih a (by rw[hk];simp) _ _ _ h.1.1.1.2.2,zq9.2 ⟨ih b (by rw[hk];simp) _ _ _ h.1.1.2.2,z2z h.2⟩⟩
 ·by_cases h11:x.kind=11
  ·obtain⟨a,hk⟩:=z25 hb h11;rw[z4q u f deep w seen hb h11 hk]at h;simp only[A0,z4p]at h;rw[yc0 hk];exact zq9.2 ⟨z2z h.1.1.1.2,zq9.2 ⟨ih a (by rw[hk];simp) _ _ _ h.1.1.2.2,z2z h.2⟩⟩
  ·have e10:(x.kind==10)=false:=by simpa using h10
   have e11:(x.kind==11)=false:=by simpa using h11
   rw[z1e u f deep w seen hb e10 e11]at h;rw[y7n hb e10 e11];exact ok_in h
theorem go_in(u:Un)(f:Fl):∀(l:List Nd),(∀x∈l,∀q∈x.kids,RG u f q)->RG u f l
 |[],_=>λ_ _ _ _ v hv=>by simp[dL]at hv
 |x::r,ih=>λdeep w all h=>by
  simp only[vGo,A0]at h;exact zq9.2 ⟨yd9 u f x (ih x (.head _)) _ _ _ h.1.1.2,go_in u f r (λy hy=>ih y (.tail _ hy)) _ _ _ h.2⟩
theorem rg_all(u:Un)(f:Fl):∀(N:Nat)(l:List Nd),SizeOf.sizeOf l<N->RG u f l
 |0,_,h=>A9 h (An _)
 |N+1,l,hN=>go_in u f l λx hx q hq=>rg_all u f N q (Bg (zc7 hx rfl hq) (C7 hN))
theorem rg(u:Un)(f:Fl)(l:List Nd):RG u f l:=rg_all u f _ l (Ac _)
def CH(u:Un)(f:Fl)(l:List Nd):Prop:=∀(deep:Int)(w:Wh)(seen:List Int)(set:List Bool),set.length=f.types.length ->
 ((z2o u f deep w seen set l).1=true↔z4p u f deep w seen l=true/\Frs set (dL l))/\((z2o u f deep w seen set l).1=true->(z2o u f deep w seen set l).2=z38 set (dL l))
theorem z50{q:Bool×List Bool}{k:List Bool->Bool×List Bool}:((andT q k).1=true↔q.1=true/\(k q.2).1=true)/\((andT q k).1=true->(andT q k).2=(k q.2).2):=by
 unfold andT
 cases q.1 with
 |false=>simp
 |true=>simp
theorem j13(f:Fl)(x:Nd)(set:List Bool)(hn:set.length=f.types.length):((zg6 f x set).1=true↔(y63 x=true/\z62 f.types x.outs (zer x.outs)=true)/\Frs set x.outs)/\((zg6 f x set).1=true->(zg6 f x set).2=z38 set x.outs):=by
 obtain⟨h1,h2⟩:=y6z f.types set x.outs (zer x.outs) hn;unfold zg6 andS;show((if y63 x=true then _ else _:Bool×List Bool).1=true↔_)/\_
 by_cases ho:y63 x=true
 ·simp only[ho,C6,true_and];exact⟨h1,λh=>by
   have ho2:((x.outs.length:Int)==0 || !z04 x)=true:=ho;rw[A5 ho2]at h⊢;exact h2 h⟩
 ·have ho2:¬((x.outs.length:Int)==0 || !z04 x)=true:=ho;rw[A1 ho,A1 ho2];simp[ho]
theorem node_iff(u:Un)(f:Fl)(x:Nd)(ih:∀q∈x.kids,CH u f q)(deep:Int)(w:Wh)(seen:List Int)(set:List Bool)(hn:set.length=f.types.length) :
 ((z4x u f deep w seen set x).1=true↔z85 u f deep w seen x=true/\Frs set (dN x))/\((z4x u f deep w seen set x).1=true->(z4x u f deep w seen set x).2=z38 set (dN x)):=by
 cases hb:z1m x with
 |false =>
  rw[zi7 _ _ _ _ _ _ hb];refine⟨⟨λh=>(by cases h),λh=>?_⟩,λh=>by cases h⟩;have:=z2s u f deep w seen h.1
  rw[hb]at this;cases this
 |true =>
  by_cases h10:x.kind=10
  ·obtain⟨a,b,hk⟩:=z3h hb h10;rw[y1f _ _ _ _ _ _ hb h10 hk,z6l u f deep w seen hb h10 hk,dN_if hb h10 hk,show(⟨true,w.Loop,r8of f.types x.outs,w.Next,w.Left⟩:Wh)=w1 w f x from rfl]
   by_cases ht:z07 f.types seen x.args [2]=true
   ·rw[A5 ht];obtain⟨a1,a2⟩:=ih a (by rw[hk];simp) (deep+1) (w1 w f x) seen set hn;have hna:(z38 set (dL a)).length=f.types.length:=(z49 _ _).trans hn;obtain⟨b1,b2⟩:=ih b (by rw[hk];simp) (deep+1) (w1 w f x) seen (z38 set (dL a)) hna;have hnb:(z38 (z38 set (dL a)) (dL b)).length=f.types.length:=(z49 _ _).trans hna;obtain⟨e1,e2⟩:=j13 f x (z38 (z38 set (dL a)) (dL b)) hnb;have key:(andT (z2o u f (deep+1) (w1 w f x) seen set a) (λs1=>andT (z2o u f (deep+1) (w1 w f x) seen s1 b) λs2=>zg6 f x s2)).1=true ↔
     (z2o u f (deep+1) (w1 w f x) seen set a).1=true/\(z2o u f (deep+1) (w1 w f x) seen (z38 set (dL a)) b).1=true/\(zg6 f x (z38 (z38 set (dL a)) (dL b))).1=true:=by
     rw[z50.1];refine Ej λh=>?_;rw[a2 h,z50.1];exact Ej λh2=>by rw[b2 h2]
    refine⟨?_,λh=>?_⟩
    ·rw[key,a1,b1,e1];simp only[ht,B6,A0];constructor
     ·rintro⟨⟨c1,c2⟩,⟨c3,c4⟩,⟨c5,c6⟩,c7⟩;have ra:=rg u f a _ _ _ (by simp only[z4p,A0]at c1;exact c1.2);have rb:=rg u f b _ _ _ (by simp only[z4p,A0]at c3;exact c3.2);exact⟨⟨⟨⟨c1,c3⟩,c5⟩,c6⟩,(zy7 hn ra rb (z2z c6)).2 ⟨c2,c4,c7⟩⟩
     ·rintro⟨⟨⟨⟨c1,c3⟩,c5⟩,c6⟩,c7⟩;have ra:=rg u f a _ _ _ (by simp only[z4p,A0]at c1;exact c1.2);have rb:=rg u f b _ _ _ (by simp only[z4p,A0]at c3;exact c3.2);obtain⟨d1,d2,d3⟩:=(zy7 hn ra rb (z2z c6)).1 c7;exact⟨⟨c1,d1⟩,⟨c3,d2⟩,⟨c5,c6⟩,d3⟩
    ·obtain⟨k1,k2,k3⟩:=key.1 h;have h':=(z50.1.1 h).2;rw[z50.2 h,a2 k1];rw[a2 k1]at h';rw[z50.2 h',b2 k2,e2 k3,zd2,zd2]
   ·rw[A1 ht];refine⟨⟨λh=>(by cases h),λh=>?_⟩,λh=>by cases h⟩;simp only[A0]at h;exact A9 h.1.1.1.1.1 ht
  ·by_cases h11:x.kind=11
   ·obtain⟨a,hk⟩:=z25 hb h11;rw[zi8 _ _ _ _ _ _ hb h11 hk,z4q u f deep w seen hb h11 hk,yc0 hk,show(⟨false,true,[],r8of f.types x.params,r8of f.types x.outs⟩:Wh)=w2 f x from rfl,show List.replicate x.params.length 0=zer x.params from rfl]
    by_cases ht:z07 f.types seen x.args (r8of f.types x.params)=true
    ·rw[A5 ht];obtain⟨a1,a2⟩:=y6z f.types set x.params (zer x.params) hn;have hna:(z38 set x.params).length=f.types.length:=(z49 _ _).trans hn;obtain⟨b1,b2⟩:=ih a (by rw[hk];simp) (deep+1) (w2 f x) (seen++x.params) (z38 set x.params) hna;have hnb:(z38 (z38 set x.params) (dL a)).length=f.types.length:=(z49 _ _).trans hna;obtain⟨e1,e2⟩:=j13 f x (z38 (z38 set x.params) (dL a)) hnb;have key:(andT (z1w f.types set x.params (zer x.params)) (λs1=>andT (z2o u f (deep+1) (w2 f x) (seen++x.params) s1 a) λs2=>zg6 f x s2)).1=true ↔
      (z1w f.types set x.params (zer x.params)).1=true/\(z2o u f (deep+1) (w2 f x) (seen++x.params) (z38 set x.params) a).1=true/\(zg6 f x (z38 (z38 set x.params) (dL a))).1=true:=by
      rw[z50.1];refine Ej λh=>?_;rw[a2 h,z50.1];exact Ej λh2=>by rw[b2 h2]
     refine⟨?_,λh=>?_⟩
     ·rw[key,a1,b1,e1];simp only[ht,B6,A0];constructor
      ·rintro⟨⟨c1,c2⟩,⟨c3,c4⟩,⟨c5,c6⟩,c7⟩;have rb:=rg u f a _ _ _ (by simp only[z4p,A0]at c3;exact c3.2);exact⟨⟨⟨⟨c1,c3⟩,c5⟩,c6⟩,(zy7 hn (z2z c1) rb (z2z c6)).2 ⟨c2,c4,c7⟩⟩
      ·rintro⟨⟨⟨⟨c1,c3⟩,c5⟩,c6⟩,c7⟩;have rb:=rg u f a _ _ _ (by simp only[z4p,A0]at c3;exact c3.2);obtain⟨d1,d2,d3⟩:=(zy7 hn (z2z c1) rb (z2z c6)).1 c7;exact⟨⟨c1,d1⟩,⟨c3,d2⟩,⟨c5,c6⟩,d3⟩
     ·obtain⟨k1,k2,k3⟩:=key.1 h;have h':=(z50.1.1 h).2;rw[z50.2 h,a2 k1];rw[a2 k1]at h';rw[z50.2 h',b2 k2,e2 k3,zd2,zd2]
    ·rw[A1 ht];refine⟨⟨λh=>(by cases h),λh=>?_⟩,λh=>by cases h⟩;simp only[A0]at h;exact A9 h.1.1.1.1.1 ht
   ·have e10:(x.kind==10)=false:=by simpa using h10
    have e11:(x.kind==11)=false:=by simpa using h11
    rw[z9w _ _ _ _ _ _ hb e10 e11,z1e u f deep w seen hb e10 e11,y7n hb e10 e11,yi0];exact run_iff _ hn
theorem go_iff(u:Un)(f:Fl)(deep:Int)(w:Wh):∀(l:List Nd),(∀x∈l,∀q∈x.kids,CH u f q)->∀(all:List Int)(set:List Bool),set.length=f.types.length ->
 ((r8go u f deep w all set l).1=true↔vGo u f deep w all l=true/\Frs set (dL l))/\((r8go u f deep w all set l).1=true->(r8go u f deep w all set l).2=z38 set (dL l))
 |[],_,all,set,_=>by simp[r8go,vGo,dL,Frs,z38]
 |x::r,ih,all,set,hn=>by
  obtain⟨n1,n2⟩:=node_iff u f x (ih x (.head _)) deep w all set hn;have hm:(z38 set (dN x)).length=f.types.length:=(z49 _ _).trans hn;obtain⟨r1,r2⟩:=go_iff u f deep w r (λy hy=>ih y (.tail _ hy)) (all++x.outs) (z38 set (dN x)) hm;unfold r8go vGo
  by_cases hd:deep > 100
  ·rw[A5 hd];simp[hd]
  ·rw[A1 hd];have hdb:(!decide (deep > 100))=true:=by simpa using hd
   by_cases hc:(z04 x != r.isEmpty)=true
   ·have hcb:(z04 x==r.isEmpty)=false:=by
     cases hcc:(z04 x==r.isEmpty)with
     |false=>rfl
     |true=>simp[bne,hcc]at hc
    simp only[A5 hc,hcb,D1,D2,As,false_and,iff_false,Dv];have:(andT (z4x u f deep w all set x) λs1=>(false,s1)).1=false:=by
     unfold andT;split<;>rfl
    exact⟨this,λh=>by rw[this]at h;cases h⟩
   ·have hcb:(z04 x==r.isEmpty)=true:=by
     cases hcc:(z04 x==r.isEmpty)with
     |true=>rfl
     |false=>simp[bne,hcc]at hc
    simp only[A1 hc,hcb,hdb,B6,Cd,A0];have key:(andT (z4x u f deep w all set x) λs1=>r8go u f deep w (all++x.outs) s1 r).1=true↔(z4x u f deep w all set x).1=true/\(r8go u f deep w (all++x.outs) (z38 set (dN x)) r).1=true:=by
     rw[z50.1];exact Ej λh=>by rw[n2 h]
    refine⟨?_,λh=>?_⟩
    ·rw[key,n1,r1];constructor
     ·rintro⟨⟨c1,c2⟩,c3,c4⟩;exact⟨⟨c1,c3⟩,(y0o hn (yd9 u f x (λq _=>rg u f q) _ _ _ c1) (rg u f r _ _ _ c3)).2 ⟨c2,c4⟩⟩
     ·rintro⟨⟨c1,c3⟩,c4⟩;obtain⟨d1,d2⟩:=(y0o hn (yd9 u f x (λq _=>rg u f q) _ _ _ c1) (rg u f r _ _ _ c3)).1 c4;exact⟨⟨c1,d1⟩,c3,d2⟩
    ·obtain⟨k1,k2⟩:=key.1 h;rw[z50.2 h,n2 k1,r2 k2];show _=z38 set (dN x++dL r);rw[zd2]
theorem ch_all(u:Un)(f:Fl):∀(N:Nat)(l:List Nd),SizeOf.sizeOf l<N->CH u f l
 |0,_,h=>A9 h (An _)
 |N+1,l,hN=>by
  intro deep w seen set hn;obtain⟨h1,h2⟩:=go_iff u f deep w l (λx hx q hq=>ch_all u f N q (Bg (zc7 hx rfl hq) (C7 hN))) seen set hn;unfold z2o ne z4p
  cases l with
  |nil=>simp
  |cons x r=>simpa using⟨h1,h2⟩
theorem zf0(u:Un)(f:Fl)(l:List Nd)(deep:Int)(w:Wh)(seen:List Int)(set:List Bool)(hn:set.length=f.types.length):(z2o u f deep w seen set l).1=true↔z4p u f deep w seen l=true/\Frs set (dL l) :=
 (ch_all u f _ l (Ac _) deep w seen set hn).1
theorem zi2{x:Nd}(h:zh0 x=true):(x.kind=1∨x.kind=2∨x.kind=3∨x.kind=4):=by
 simp only[zh0,Bb,A0,At]at h;rcases h with((h|h)|h)|h
 ·exact .inl h
 ·exact .inr (.inl h)
 ·exact .inr (.inr (.inl h))
 ·exact .inr (.inr (.inr h.1.1))
theorem j1l{x:Nd}(h:zh0 x=true):(x.kind==10)=false/\(x.kind==11)=false/\z04 x=false/\z2n x=false:=by
 have hk:=zi2 h;have h10:(x.kind==10)=false:=by simp;omega
 have h11:(x.kind==11)=false:=by simp;omega
 have h14:(x.kind==14)=false:=by simp;omega
 refine⟨h10,h11,?_,?_⟩
 ·simp only[z04,h10,h11,D2,As,Bv,z0y];simp;omega
 ·rw[z4a,h10,h14];rfl
theorem dL_app:∀(a b:List Nd),dL (a++b)=dL a++dL b
 |[],_=>rfl
 |x::r,b=>by simp only[Be,dL,dL_app r b,Ci]
theorem y3o:∀(a b:List Nd),z0m (a++b)=(z0m a||z0m b)
 |[],b=>by simp[z0m]
 |x::r,b=>by simp only[Be,z0m,y3o r b,Bool.or_assoc]
def Oks(B:Int)(s:Rs):Prop:=0<=s.fuel/\0<=s.cost/\s.cost+s.fuel<=B
def Live(s:Rs):Prop:=s.spent=false/\s.st=0
def dec(s:Rs):Rs:={ s with fuel:=s.fuel-1 }
def gone(s:Rs):Rs:={ s with spent:=true }
def bmp(s:Rs):Rs:={ s with cost:=s.cost+1 }
theorem j65{n:Int}(h:0<=n)(h2:n<=4611686018427387904):w64 n=n:=D3 n oM0
theorem z8b{s:Rs}:z16 s=false↔Live s:=by
 unfold z16 Live;simp
theorem z0s{s:Rs}(h:Live s):z16 s=false:=z8b.2 h
theorem zk8{s:Rs}{B:Int}(hB:B<=4611686018427387903)(ho:Oks B s):z60 s=bmp s:=by
 obtain⟨h1,h2,h3⟩:=ho;unfold z60 bmp;rw[j65 oM0 oM0]
theorem y50{s:Rs}{B:Int}(hB:B<=4611686018427387903)(ho:Oks B s)(hl:Live s):(s.fuel<1/\zb8 s=(false,gone s))∨(1<=s.fuel/\zb8 s=(true,dec s)):=by
 obtain⟨h1,h2,h3⟩:=ho;unfold zb8;rw[z0s hl];simp only[As,Bv]
 by_cases h:s.fuel<1
 ·rw[A5 h];exact .inl ⟨h,rfl⟩
 ·rw[A1 h,j65 oM0 oM0];exact .inr ⟨by omega,rfl⟩
theorem yl5{u:Un}{d:Nat}{x:Nd}{l:List Nd}{a:List Int}{s:Rs}{r:Rres}{B:Int}(hB:B<=4611686018427387903)(h:z2f u d (x::l) a s=some r)(ho:Oks B s)(hl:Live s) :
 ∃d1,d=d1+1/\((s.fuel<1/\r=((0,[]),a,gone s))∨(1<=s.fuel/\∃p r1,mOf a x.args=some p/\z5o (z2f u d1) (z3w u d1) (mSum u d1) x p a (dec s)=some r1/\(if z16 r1.2.2||r1.1.1 != 0 then some r1 else z2f u d1 l r1.2.1 r1.2.2)=some r)):=by
 obtain⟨d1,rfl,h2⟩:=z8y rfl h;refine⟨d1,rfl,?_⟩;rcases y50 hB ho hl with⟨h3,h4⟩|⟨h3,h4⟩
 ·rw[h4]at h2;rcases h2 with⟨_,h2⟩|⟨h2,_⟩
  ·exact .inl ⟨h3,h2⟩
  ·cases h2
 ·rw[h4]at h2;rcases h2 with⟨h2,_⟩|⟨_,h2⟩
  ·cases h2
  ·exact .inr ⟨h3,h2⟩
def hc(x:Nd):Nat:=if x.kind=3∨x.kind=4 then 1 else 0
def zg1(x:Nd)(p:List Int):Option Int :=
 if x.kind=1∨x.kind=2 then some x.n
 else if x.kind=3 then(p[0]?).map λa=>mOne x.op a
 else(p[0]?).bind λa=>(p[1]?).map λb=>(mTwo x.op a b).1
def HL(x:Nd):Prop:=zh0 x=true/\(x.kind=4->z3o x.op=true)/\x.outs≠[]
def hRun(x:Nd)(a a2:List Int):Prop:=∃p y o,mOf a x.args=some p/\zg1 x p=some y/\x.outs[0]?=some o/\setV a o y=some a2
theorem two_ok{op a b:Int}(h:z3o op=true)(h4:op≠4)(h5:op≠5):(mTwo op a b).2=true:=by
 simp only[z3o,A0,Ba]at h;have:op=1∨op=2∨op=3∨op=6∨op=7∨op=8∨op=9∨op=10∨op=11∨op=12∨op=13∨op=14∨op=15∨op=16∨op=17:=by omega
 rcases this with rfl|rfl|rfl|rfl|rfl|rfl|rfl|rfl|rfl|rfl|rfl|rfl|rfl|rfl|rfl<;>rfl
def hSt(x:Nd)(s:Rs):Rs:={ s with cost:=s.cost+hc x }
theorem hc_01(x:Nd):hc x=0∨hc x=1:=by unfold hc;split<;>simp
theorem hSt0{x:Nd}{s:Rs}(h:hc x=0):hSt x s=s:=by unfold hSt;rw[h];simp
theorem yu1{u:Un}{d:Nat}{x:Nd}{p a:List Int}{s:Rs}{r:Rres}{B:Int}(hB:B<=4611686018427387903)(ho:Oks B s)(hl:Live s)(hx:HL x)(h:z5o (z2f u d) (z3w u d) (mSum u d) x p a s=some r) :
 ∃y o a2,zg1 x p=some y/\x.outs[0]?=some o/\setV a o y=some a2/\r=((0,[]),a2,hSt x s):=by
 obtain⟨h1,h2,h3⟩:=hx;obtain⟨n10,n11,_,_⟩:=j1l h1;have hk:=zi2 h1;rcases hk with hk|hk|hk|hk
 iterate 2 ·obtain⟨o,v2,g1,g2,rfl⟩:=z8z h (by rw[hk];rfl);exact⟨x.n,o,v2,by simp[zg1,hk],g1,g2,by rw[hSt0];simp[hc,hk]⟩
 ·obtain⟨r1,g1,g2⟩:=z7q h (by rw[hk];rfl) (by rw[hk];rfl) n10 n11;obtain⟨d',rfl⟩:=z6h g1;obtain⟨a0,g3,rfl⟩:=z9r g1 (by rw[hk];rfl);rw[zk8 hB ho]at g2;have hov:z16 (bmp s)=false:=z0s hl;rw[hov]at g2;have hlen:0<x.outs.length:=D0.2 h3;simp only[Dn,B6,Cb hlen,C6,Ao,A8]at g2;obtain⟨o,g4,v2,g5,rfl⟩:=g2;exact⟨_,o,v2,by simp[zg1,hk,g3],g4,g5,by simp[hSt,hc,hk,bmp]⟩
 ·have h4:=h2 hk;have hop:x.op≠4/\x.op≠5:=by
   simp only[zh0,hk]at h1;simpa using h1
  obtain⟨r1,g1,g2⟩:=z7q h (by rw[hk];rfl) (by rw[hk];rfl) n10 n11;obtain⟨d',rfl⟩:=z6h g1;obtain⟨a0,a1,g3,g3',rfl⟩:=z8a g1 (by rw[hk];rfl);rw[two_ok h4 hop.1 hop.2,A5 rfl,zk8 hB ho]at g2;have hov:z16 (bmp s)=false:=z0s hl;rw[hov]at g2;have hlen:0<x.outs.length:=D0.2 h3;simp only[Dn,B6,Cb hlen,C6,Ao,A8]at g2;obtain⟨o,g4,v2,g5,rfl⟩:=g2;exact⟨_,o,v2,by simp[zg1,hk,g3,g3'],g4,g5,by simp[hSt,hc,hk,bmp]⟩
structure Ext(B:Int)(s t:Rs):Prop where
 ok:Oks B t
 out:s.out <+: t.out
 ar:t.ar.length=s.ar.length
 fuel:t.fuel<=s.fuel
theorem Ext.rfl{B:Int}{s:Rs}(h:Oks B s):Ext B s s:=⟨h,Cm _,Eq.refl _,Dd _⟩
theorem Ext.trans{B:Int}{s t w:Rs}(h:Ext B s t)(h2:Ext B t w):Ext B s w:=⟨h2.ok,h.out.trans h2.out,h2.ar.trans h.ar,Int.le_trans h2.fuel h.fuel⟩
theorem z9p{s:Rs}{k n:Int}{q:Bool×Rs}(h:zc9 s k n=some q):(q=(false,{ s with st:=3 }))∨q=(true,s):=by
 unfold zc9 at h;split at h
 ·cases h;exact .inl (Eq.refl _)
 ·split at h
  ·obtain⟨row,h1,h2⟩:=Ao.1 h;split at h2
   ·cases h2;exact .inl (Eq.refl _)
   ·cases h2;exact .inr (Eq.refl _)
  ·cases h
theorem sum_ext{u:Un}{d:Nat}{x:Nd}{p:List Int}{s:Rs}{r:Int×Rs}{B:Int}(hB:B<=4611686018427387903)(ho:Oks B s)(ho1:s.cost+s.fuel+1<=B)
 (hC:∀d' k a r,d=d'+1->z4j u d' k a (bmp s)=some r->Ext B (bmp s) r.2) (h:mSum u d x p s=some r):Ext B s r.2:=by
 obtain⟨d',rfl⟩:=z6h h;have hb:Oks B (bmp s):=⟨ho.1,by have:=ho.2.1;show 0<=s.cost+1;omega,by show s.cost+1+s.fuel<=B;omega⟩;have e:=zk8 hB ho;have E0:Ext B s (bmp s):=⟨hb,Cm _,Eq.refl _,Dd _⟩;have ne:∀{i:Int},x.kind≠i->(x.kind==i)=false:=λh=>Aa.2 h
 by_cases k3:x.kind=3
 ·obtain⟨a0,_,rfl⟩:=z9r h (At.2 k3);rw[e];exact E0
 by_cases k4:x.kind=4
 ·obtain⟨a0,a1,_,_,rfl⟩:=z8a h (At.2 k4);rw[e];split
  ·exact E0
  ·exact⟨hb,Cm _,Eq.refl _,Dd _⟩
 by_cases k5:x.kind=5
 ·obtain⟨a0,b,s',_,h2,h3⟩:=z7j h k5;rw[e]at h2 h3;rcases h3 with⟨rfl,rfl⟩|⟨rfl,row,y,_,_,rfl⟩
  ·rcases z9p h2 with h4|h4
   ·obtain⟨_,rfl⟩:=Ei h4;exact⟨hb,Cm _,Eq.refl _,Dd _⟩
   ·cases(Ei h4).1
  ·exact E0
 by_cases k6:x.kind=6
 ·obtain⟨a0,b,s',_,h2,h3⟩:=z68 h k6;rw[e]at h2 h3;rcases h3 with⟨rfl,rfl⟩|⟨rfl,row,y,_,_,rfl⟩
  ·rcases z9p h2 with h4|h4
   ·obtain⟨_,rfl⟩:=Ei h4;exact⟨hb,Cm _,Eq.refl _,Dd _⟩
   ·cases(Ei h4).1
  ·exact⟨hb,Cm _,by simp[bmp],Dd _⟩
 by_cases k7:x.kind=7
 ·have h2:=zd1 h (At.2 k7);rw[e]at h2;exact E0.trans (hC _ _ _ _ (Eq.refl _) h2)
 by_cases k9:x.kind=9
 ·obtain⟨a0,_,_,rfl⟩:=z7k h (At.2 k9);rw[e];exact⟨hb,List.prefix_append _ _,Eq.refl _,Dd _⟩
 by_cases k8:x.kind=8
 ·rcases z92 h (At.2 k8)with⟨_,rfl⟩|⟨y,q,_,rfl⟩<;>rw[e]<;>exact⟨hb,Cm _,Eq.refl _,Dd _⟩
 ·obtain rfl:=z91 h (ne k3) (ne k4) (ne k5) (ne k6) (ne k7) (ne k9) (ne k8);rw[e];exact E0
theorem z4r{s:Rs}{B:Int}(ho:Oks B s)(h:1<=s.fuel):Oks B (dec s)/\(dec s).cost+(dec s).fuel+1<=B:=by
 obtain⟨h1,h2,h3⟩:=ho;refine⟨⟨?_,h2,?_⟩,?_⟩
 ·show 0<=s.fuel-1;omega
 ·show s.cost+(s.fuel-1)<=B;omega
 ·show s.cost+(s.fuel-1)+1<=B;omega
theorem j2l{u:Un}{d:Nat}{l:List Nd}{a:List Int}{s:Rs}{r:Rres}(h:z2f u d l a s=some r)(ho:z16 s=true):r=((0,[]),a,s):=by
 cases l with
 |nil=>exact y89 h
 |cons x l =>
  obtain⟨d1,rfl,h2⟩:=z8y rfl h;have:zb8 s=(false,s):=by unfold zb8;rw[ho];rfl
  rw[this]at h2;rcases h2 with⟨_,h2⟩|⟨h2,_⟩
  ·exact h2
  ·cases h2
theorem y5d(u:Un){B:Int}(hB:B<=4611686018427387903):∀d,
 (∀l a s r,z2f u d l a s=some r->Oks B s->Ext B s r.2.2)/\(∀x p a s r,z3w u d x p a s=some r->Oks B s->Ext B s r.2.2) /\
 (∀k p s r,z4j u d k p s=some r->Oks B s->Ext B s r.2)/\∀x p s r,mSum u d x p s=some r->Oks B s->s.cost+s.fuel+1<=B->Ext B s r.2
 |0=>⟨λ_ _ _ _ h=>by simp[z2f]at h,λ_ _ _ _ _ h=>by simp[z3w]at h,λ_ _ _ _ h=>by simp[z4j]at h,λ_ _ _ _ h=>by simp[mSum]at h⟩
 |d+1=>by
  obtain⟨i1,i2,i3,i4⟩:=y5d u hB d;refine⟨λl a s r h ho=>?_,λx p a s r h ho=>?_,λk p s r h ho=>?_,λx p s r h ho ho1=>?_⟩
  ·cases l with
   |nil=>rw[y89 h];exact Ext.rfl ho
   |cons x l =>
    cases hov:z16 s with
    |true=>rw[j2l h hov];exact Ext.rfl ho
    |false =>
     obtain⟨d1,e,h2⟩:=yl5 hB h ho (z8b.1 hov);obtain rfl:d1=d:=by omega
     rcases h2 with⟨_,rfl⟩|⟨hf,p,r1,_,h3,h4⟩
     ·exact⟨ho,Cm _,rfl,Dd _⟩
     ·obtain⟨o1,o2⟩:=z4r ho hf;have E0:Ext B s (dec s):=⟨o1,Cm _,rfl,by show s.fuel-1<=s.fuel;omega⟩;have E1:Ext B (dec s) r1.2.2:=by
       unfold z5o at h3;split at h3
       ·simp only[Ao,A8]at h3;obtain⟨o,_,v',_,rfl⟩:=h3;exact Ext.rfl o1
       split at h3
       ·cases h3;exact Ext.rfl o1
       split at h3
       ·simp only[Ao]at h3;obtain⟨a0,_,q,_,r2,h5,h6⟩:=h3;have h7:=i1 _ _ _ _ h5 o1;split at h6
        ·simp only[A8]at h6;obtain⟨v',_,rfl⟩:=h6;exact h7
        ·cases h6;exact h7
       split at h3
       ·exact i2 _ _ _ _ _ h3 o1
       ·simp only[Ao]at h3;obtain⟨r2,h5,h6⟩:=h3;have h7:=i4 _ _ _ _ h5 o1 o2;split at h6
        ·simp only[Ao,A8]at h6;obtain⟨o,_,v',_,rfl⟩:=h6;exact h7
        ·cases h6;exact h7
      split at h4
      ·cases h4;exact E0.trans E1
      ·exact(E0.trans E1).trans (i1 _ _ _ _ h4 E1.ok)
  ·obtain⟨d1,v2,q,r1,e,_,_,h3,h4⟩:=z5g h;obtain rfl:d1=d:=by omega
   have E1:=i1 _ _ _ _ h3 ho;split at h4
   ·cases h4;exact E1
   split at h4
   ·simp only[A8]at h4;obtain⟨v',_,rfl⟩:=h4;exact E1
   ·exact E1.trans (i2 _ _ _ _ _ h4 E1.ok)
  ·obtain⟨d1,f,r1,e,_,_,_,_,h3,rfl⟩:=z7h h;obtain rfl:d1=d:=by omega
   exact i1 _ _ _ _ h3 ho
  ·refine sum_ext hB ho ho1 (λd' k a r e h2=>?_) h;obtain rfl:d'=d:=by omega
   have hb:Oks B (bmp s):=⟨ho.1,by have:=ho.2.1;show 0<=s.cost+1;omega,by show s.cost+1+s.fuel<=B;omega⟩;exact i3 _ _ _ _ h2 hb
theorem z88{u:Un}{d:Nat}{l:List Nd}{a:List Int}{s:Rs}{r:Rres}{B:Int}(hB:B<=4611686018427387903)(h:z2f u d l a s=some r)(ho:Oks B s):Ext B s r.2.2:=(y5d u hB d).1 _ _ _ _ h ho
theorem zl0{u:Un}{d:Nat}{x:Nd}{p a:List Int}{s:Rs}{r:Rres}{B:Int}(hB:B<=4611686018427387903)(h:z3w u d x p a s=some r)(ho:Oks B s):Ext B s r.2.2:=(y5d u hB d).2.1 _ _ _ _ _ h ho
theorem yc3{u:Un}{d:Nat}{x:Nd}{p:List Int}{s:Rs}{r:Int×Rs}{B:Int}(hB:B<=4611686018427387903)(h:mSum u d x p s=some r)(ho:Oks B s)(ho1:s.cost+s.fuel+1<=B):Ext B s r.2:=(y5d u hB d).2.2.2 _ _ _ _ h ho ho1
section
def I64(y:Int):Prop:=-9223372036854775808<=y/\y<=9223372036854775807
def P64(p:List Int):Prop:=∀y∈p,I64 y
def Rg(s:Rs):Prop:=P64 s.ins/\∀row∈s.ar,P64 row
def Two(x:Nd)(p:List Int)(y:Int):Prop:=x.kind=4->∃a0 a1,p[0]?=some a0/\p[1]?=some a1/\mTwo x.op a0 a1=(y,true)
structure KF where
 k:Int
 outs:List Int
 rest:List Nd
mutual
def nsz:Nd->Nat
 |.mk _ _ _ _ _ _ _ ks=>1+kdz ks
def lsz:List Nd->Nat
 |[]=>0
 |x::r=>nsz x+lsz r
def kdz:List (List Nd)->Nat
 |[]=>0
 |l::r=>lsz l+kdz r
end
theorem y3w(x:Nd):nsz x=1+kdz x.kids:=by cases x;simp[nsz,Nd.kids]
def ksz:List KF->Nat
 |[]=>0
 |f::K=>lsz f.rest+ksz K
abbrev VR:=List Int->List Int->Prop
abbrev ER:=Int->List Int->List Int->List Int->List Int->Prop
def setO(outs a:List Int)(y:Int)(a2:List Int):Prop:=match outs with
 |[]=>a2=a
 |o::_=>setV a o y=some a2
inductive LRel:Nat->Nat->VR->List Nd->List KF->List Nd->ER->Prop
 |dead {I l K l' E}:(∀a b,¬I a b)->LRel 0 0 I l K l' E
 |weak {k c I I' l K l' E}:(∀a b,I a b->I' a b)->LRel k c I' l K l' E->LRel k c I l K l' E
 |both {k c I J x x' l K l' E}:HL x->HL x'->hc x'<=hc x->(∀a b a2 b2,I a b->hRun x a a2->hRun x' b b2->J a2 b2)->LRel k c J l K l' E->LRel k c I (x::l) K (x'::l') E
 |skip {k c I J x l K l' E}:HL x->(∀a b a2,I a b->hRun x a a2->J a2 b)->LRel k c J l K l' E->LRel k c I (x::l) K l' E
 |drop {I J x l K l' E}:x.kind=4->x.outs≠[]->(∀a b p a0 a1,I a b->mOf a x.args=some p->p[0]?=some a0->p[1]?=some a1->(mTwo x.op a0 a1).2=true)->(∀a b a2,I a b->hRun x a a2->J a2 b)->LRel 0 0 J l K l' E->LRel 0 0 I (x::l) K l' E
 |paid {k c I J x l K l' E}:HL x->(∀a b a2,I a b->hRun x a a2->J a2 b)->l≠[]->LRel k c J l K l' E->LRel (k+1) (c+hc x) I (x::l) K l' E
 |add {k c I J x' l K l' E}:HL x'->l≠[]->(∀a b b2,I a b->hRun x' b b2->J a b2)->LRel (k+1) (c+hc x') J l K l' E->LRel k c I l K (x'::l') E
 |eff {I J x x' l K l' E}:(x.kind≠1/\x.kind≠2/\x.kind≠10/\x.kind≠11/\x.kind≠12/\x.kind≠13/\x.kind≠14/\x.kind≠15)->x'.kind=x.kind->x'.op=x.op->x'.name=x.name->x'.outs.length=x.outs.length ->
  (∀a b p,I a b->mOf a x.args=some p->P64 p)->(∀a b p p',I a b->mOf a x.args=some p->mOf b x'.args=some p'->p'=p)->(∀a b p a2 b2 y,I a b->mOf b x'.args=some p->I64 y->Two x p y->setO x.outs a y a2->setO x'.outs b y b2->J a2 b2)->LRel 0 0 J l K l' E->LRel 0 0 I (x::l) K (x'::l') E
 |ite {I J E2 x x' q0 q1 q0' q1' l K l' E}:x.kind=10->x'.kind=10->x.kids=[q0,q1]->x'.kids=[q0',q1']->(∀a b p p',I a b->mOf a x.args=some p->mOf b x'.args=some p'->p'[0]?=p[0]?) ->
  LRel 0 0 I q0 [] q0' E2->LRel 0 0 I q1 [] q1' E2 ->
  (∀n p p' a b,E2 n p p' a b->(n=12/\∀a2 b2,mSet a x.outs p=some a2->mSet b x'.outs p'=some b2->J a2 b2)∨(n≠12/\n≠0/\(K=[]∨n=15)/\E n p p' a b)) ->
  LRel 0 0 J l K l' E->LRel 0 0 I (x::l) K (x'::l') E
 |loop {k c I I2 J E2 x x' q q' l K l' E}:x.kind=11->x'.kind=11->x.kids=[q]->x'.kids=[q'] ->
  (∀a b p p' a2 b2,I a b->mOf a x.args=some p->mOf b x'.args=some p'->mSet a x.params p=some a2->mSet b x'.params p'=some b2->I2 a2 b2) ->
  LRel k c I2 q [] q' E2 ->
  (∀n p p' a b,E2 n p p' a b->(n=15/\E 15 p p' a b)∨(n=14/\∀a2 b2,mSet a x.outs p=some a2->mSet b x'.outs p'=some b2->J a2 b2)∨(n=13/\∀a2 b2,mSet a x.params p=some a2->mSet b x'.params p'=some b2->I2 a2 b2)) ->
  LRel 0 0 J l K l' E->LRel k c I (x::l) K (x'::l') E
 |ender {I x x' l K l' E}:12<=x.kind->x.kind<=15->x'.kind=x.kind->(K=[]∨x.kind=15)->(∀a b p p',I a b->mOf a x.args=some p->mOf b x'.args=some p'->E x.kind p p' a b)->LRel 0 0 I (x::l) K (x'::l') E
 |once {k c I J x q l K l' E}:x.kind=11->x.kids=[q]->(∀a b p a2,I a b->mOf a x.args=some p->mSet a x.params p=some a2->J a2 b)->LRel k c J q (⟨14,x.outs,l⟩::K) l' E->LRel k c I (x::l) K l' E
 |leave {k c I J y l f K l' E}:y.kind=f.k->f.k=12∨f.k=14->(∀a b p a2,I a b->mOf a y.args=some p->mSet a f.outs p=some a2->J a2 b)->LRel k c J f.rest K l' E->LRel k c I (y::l) (f::K) l' E
 |fork {k c I x q0 q1 l K l' E}:x.kind=10->x.kids=[q0,q1]->LRel k c I q0 (⟨12,x.outs,l⟩::K) l' E->LRel k c I q1 (⟨12,x.outs,l⟩::K) l' E->LRel k c I (x::l) K l' E
theorem LRel.nil{k c:Nat}{I:VR}{l:List Nd}{K:List KF}{l':List Nd}{E:ER}(h:LRel k c I l K l' E):l=[]->k=0:=by
 induction h with
 |dead _=>exact λ_=>rfl
 |weak _ _ ih=>exact ih
 |add _ h1 _ _ _=>exact λe=>A9 e h1
 |_=>intro e;cases e
def KFin(u:Un)(D:Nat):List KF->Rres->Rres->Prop
 |[],r1,r=>r=r1
 |f::K,r1,r=>if r1.1.1=15 then r=r1 else if r1.1.1=f.k then ∃a2 d r2,d<=D/\mSet r1.2.1 f.outs r1.1.2=some a2/\z2f u d f.rest a2 r1.2.2=some r2/\(if z16 r2.2.2=true then r=r2 else KFin u D K r2 r)else r1.2.2.out <+: r.2.2.out
def KRun(u:Un)(D:Nat)(l:List Nd)(K:List KF)(a:List Int)(s:Rs)(r:Rres):Prop:=∃d r1,d<=D/\z2f u d l a s=some r1/\(if z16 r1.2.2=true then r=r1 else KFin u D K r1 r)
def KNext(u:Un)(D:Nat)(l:List Nd)(K:List KF)(r1 r:Rres):Prop:=(z16 r1.2.2=true/\r=r1)∨(Live r1.2.2/\r1.1.1≠0/\KFin u D K r1 r)∨(Live r1.2.2/\r1.1.1=0/\KRun u D l K r1.2.1 r1.2.2 r)
section
variable {u:Un} {D:Nat} {l:List Nd} {K:List KF} {a:List Int} {s:Rs} {r:Rres} {B:Int}
theorem KFin.out(hB:B<=4611686018427387903):∀{K:List KF}{r1 r:Rres},KFin u D K r1 r->Oks B r1.2.2->r1.2.2.out <+: r.2.2.out
 |[],r1,r,h,ho=>by obtain rfl:r=r1:=h;exact Cm _
 |f::K,r1,r,h,ho=>by
  unfold KFin at h;split at h
  ·subst h;exact Cm _
  split at h
  ·obtain⟨a2,d,r2,_,_,h2,h3⟩:=h;have e:=z88 hB h2 ho;split at h3
   ·subst h3;exact e.out
   ·exact e.out.trans (KFin.out hB h3 e.ok)
  ·exact h
theorem KRun.out(hB:B<=4611686018427387903)(h:KRun u D l K a s r)(ho:Oks B s):s.out <+: r.2.2.out:=by
 obtain⟨d,r1,_,h1,h2⟩:=h;have e:=z88 hB h1 ho;split at h2
 ·subst h2;exact e.out
 ·exact e.out.trans (KFin.out hB h2 e.ok)
theorem KNext.out{r1:Rres}(hB:B<=4611686018427387903)(h:KNext u D l K r1 r)(ho:Oks B r1.2.2):r1.2.2.out <+: r.2.2.out:=by
 rcases h with⟨_,rfl⟩|⟨_,_,h⟩|⟨_,_,h⟩
 ·exact Cm _
 ·exact KFin.out hB h ho
 ·exact h.out hB ho
theorem zr0{x:Nd}(hB:B<=4611686018427387903)(h:KRun u D (x::l) K a s r)(ho:Oks B s)(hl:Live s) :
 (s.fuel<1/\r=((0,[]),a,gone s))∨(1<=s.fuel/\∃d1 p r1,d1<D/\mOf a x.args=some p/\z5o (z2f u d1) (z3w u d1) (mSum u d1) x p a (dec s)=some r1/\KNext u D l K r1 r):=by
 obtain⟨d,r0,hd,h1,h2⟩:=h;obtain⟨d1,rfl,h3⟩:=yl5 hB h1 ho hl;rcases h3 with⟨h3,rfl⟩|⟨h3,p,r1,h4,h5,h6⟩
 ·rw[A5 (by simp[z16,gone])]at h2;exact .inl ⟨h3,h2⟩
 ·refine .inr ⟨h3,d1,p,r1,hd,h4,h5,?_⟩
  cases hov:z16 r1.2.2 with
  |true =>
   rw[hov]at h6
   cases h6
   rw[A5 hov]at h2
   exact .inl ⟨hov,h2⟩
  |false =>
   rw[hov]at h6
   by_cases hk:r1.1.1=0
   ·rw[hk]at h6;exact .inr (.inr ⟨z8b.1 hov,hk,d1,r0,by omega,h6,h2⟩)
   ·have:(false||r1.1.1 != 0)=true:=by simpa using hk
    rw[A5 this]at h6
    cases h6
    rw[A1 (by rw[hov];decide)]at h2;exact .inr (.inl ⟨z8b.1 hov,hk,h2⟩)
theorem z7a(hl:Live s):Live (dec s):=hl
theorem y5r{x:Nd}(hl:Live s):Live (hSt x s):=hl
theorem zm9{x:Nd}(ho:Oks B s)(h:1<=s.fuel):Oks B (hSt x (dec s)):=by
 obtain⟨h1,h2,h3⟩:=ho;have:=hc_01 x;refine⟨?_,?_,?_⟩
 ·show 0<=s.fuel-1;omega
 ·show 0<=s.cost+(hc x:Int);omega
 ·show s.cost+(hc x:Int)+(s.fuel-1)<=B;omega
theorem y7z{x:Nd}(hB:B<=4611686018427387903)(hx:HL x)(h:KRun u D (x::l) K a s r)(ho:Oks B s)(hl:Live s) :
 (s.fuel<1/\r=((0,[]),a,gone s))∨(1<=s.fuel/\∃a2,hRun x a a2/\KRun u D l K a2 (hSt x (dec s)) r):=by
 rcases zr0 hB h ho hl with h1|⟨h1,d1,p,r1,_,h2,h3,h4⟩
 ·exact .inl h1
 ·obtain⟨y,o,a2,g1,g2,g3,rfl⟩:=yu1 hB (z4r ho h1).1 (z7a hl) hx h3;refine .inr ⟨h1,a2,⟨p,y,o,h2,g1,g2,g3⟩,?_⟩;rcases h4 with⟨h5,_⟩|⟨_,h5,_⟩|⟨_,_,h5⟩
  ·have:z16 (hSt x (dec s))=false:=z0s hl;rw[show(((0,[]),a2,hSt x (dec s)):Rres).2.2=hSt x (dec s)from rfl,this]at h5
   cases h5
  ·exact A9 rfl h5
  ·exact h5
theorem j11{x:Nd}(hB:B<=4611686018427387903)(h4:x.kind=4)(hou:x.outs≠[])(hok:∀p a0 a1,mOf a x.args=some p->p[0]?=some a0->p[1]?=some a1->(mTwo x.op a0 a1).2=true)(h:KRun u D (x::l) K a s r)(ho:Oks B s)(hl:Live s) :
 (s.fuel<1/\r=((0,[]),a,gone s))∨(1<=s.fuel/\∃a2,hRun x a a2/\KRun u D l K a2 (hSt x (dec s)) r):=by
 rcases zr0 hB h ho hl with h1|⟨h1,d1,p,r1,_,h2,h3,h5⟩
 ·exact .inl h1
 ·obtain⟨q,g1,g2⟩:=z7q h3 (by rw[h4];rfl) (by rw[h4];rfl) (by rw[h4];rfl) (by rw[h4];rfl);obtain⟨d',rfl⟩:=z6h g1;obtain⟨a0,a1,g3,g3',rfl⟩:=z8a g1 (by rw[h4];rfl);have ho1:=(z4r ho h1).1;rw[hok p a0 a1 h2 g3 g3',A5 rfl,zk8 hB ho1]at g2;have hov:z16 (bmp (dec s))=false:=z0s hl;rw[hov]at g2;have hlen:0<x.outs.length:=D0.2 hou;simp only[Dn,B6,Cb hlen,C6,Ao,A8]at g2;obtain⟨o,g4,v2,g5,rfl⟩:=g2;refine .inr ⟨h1,v2,⟨p,_,o,h2,by simp[zg1,h4,g3,g3'],g4,g5⟩,?_⟩;have eS:hSt x (dec s)=bmp (dec s):=by simp[hSt,hc,h4,bmp]
  rw[eS];rcases h5 with⟨h5,_⟩|⟨_,h5,_⟩|⟨_,_,h5⟩
  ·rw[show(((0,[]),v2,bmp (dec s)):Rres).2.2=bmp (dec s)from rfl,hov]at h5
   cases h5
  ·exact A9 rfl h5
  ·exact h5
theorem y8o{x:Nd}{q:List Nd}(hB:B<=4611686018427387903)(hx:x.kind=11)(hq:x.kids=[q])(h:KRun u D (x::l) K a s r)(ho:Oks B s)(hl:Live s) :
 (s.fuel<1/\r=((0,[]),a,gone s))∨(1<=s.fuel/\∃p a2,mOf a x.args=some p/\mSet a x.params p=some a2/\KRun u D q (⟨14,x.outs,l⟩::K) a2 (dec s) r):=by
 rcases zr0 hB h ho hl with h1|⟨h1,d1,p,r1,hd,h2,h3,h4⟩
 ·exact .inl h1
 ·have h5:=z7i h3 (by rw[hx];rfl);have ho1:=(z4r ho h1).1;obtain⟨d2,v2,q2,r2,rfl,g1,g2,g3,g4⟩:=z5g h5;rw[hq]at g2;obtain rfl:q=q2:=by simpa using g2
  refine .inr ⟨h1,p,v2,h2,g1,d2,r2,by omega,g3,?_⟩;have e:=z88 hB g3 ho1
  cases hov:z16 r2.2.2 with
  |true =>
   rw[hov]at g4
   cases g4
   rw[A5 rfl];rcases h4 with⟨_,h4⟩|⟨h4,_⟩|⟨h4,_⟩
   ·exact h4
   iterate 2 ·rw[z0s h4]at hov;cases hov
  |false =>
   rw[hov]at g4;rw[A1 dC0];unfold KFin
   by_cases k15:r2.1.1=15
   ·rw[k15]at g4
    cases g4
    rw[A5 k15];rcases h4 with⟨h4,_⟩|⟨_,_,h4⟩|⟨_,h4,_⟩
    ·rw[hov]at h4;cases h4
    ·cases K with
     |nil=>exact h4
     |cons f K=>unfold KFin at h4;rw[A5 k15]at h4;exact h4
    ·rw[k15]at h4;exact A9 h4 dC0
   ·rw[A1 k15];have n15:(false||r2.1.1==15)=false:=by simpa using k15
    rw[n15,A1 dC0]at g4
    by_cases k14:r2.1.1=14
    ·rw[A5 k14];rw[A5 (by rw[k14];rfl)]at g4;obtain⟨v3,g5,rfl⟩:=A8.1 g4;rcases h4 with⟨h4,_⟩|⟨_,h4,_⟩|⟨_,_,d3,r3,h6,h7,h8⟩
     ·rw[show(((0,[]),v3,r2.2.2):Rres).2.2=r2.2.2 from rfl,hov]at h4;cases h4
     ·exact A9 rfl h4
     ·exact⟨v3,d3,r3,h6,g5,h7,h8⟩
    ·rw[A1 k14];rw[A1 (by simpa using k14)]at g4;have e2:=zl0 hB g4 e.ok;exact e2.out.trans (h4.out hB e2.ok)
theorem yt6{x:Nd}{d:Nat}{p:List Int}{r1:Rres}(h1:12<=x.kind)(h2:x.kind<=15)(h:z5o (z2f u d) (z3w u d) (mSum u d) x p a s=some r1):r1=((x.kind,p),a,s) :=
 z5p h (by rcases(show x.kind=12∨x.kind=13∨x.kind=14∨x.kind=15 by omega)with e|e|e|e<;>rw[e]<;>rfl)
theorem zq6{x:Nd}(hB:B<=4611686018427387903)(h1:12<=x.kind)(h2:x.kind<=15)(h:KRun u D (x::l) K a s r)(ho:Oks B s)(hl:Live s) :
 (s.fuel<1/\r=((0,[]),a,gone s))∨(1<=s.fuel/\∃p,mOf a x.args=some p/\KFin u D K ((x.kind,p),a,dec s) r):=by
 rcases zr0 hB h ho hl with h3|⟨h3,d1,p,r1,hd,h4,h5,h6⟩
 ·exact .inl h3
 ·obtain rfl:=yt6 h1 h2 h5;refine .inr ⟨h3,p,h4,?_⟩;rcases h6 with⟨h6,_⟩|⟨_,_,h6⟩|⟨_,h6,_⟩
  ·have:z16 (dec s)=false:=z0s hl;rw[show((x.kind,p),a,dec s).2.2=dec s from rfl,this]at h6
   cases h6
  ·exact h6
  ·exact A9 h6 (by show x.kind≠0;omega)
theorem y3n{y:Nd}{f:KF}(hB:B<=4611686018427387903)(hy:y.kind=f.k)(hf:f.k=12∨f.k=14)(h:KRun u D (y::l) (f::K) a s r)(ho:Oks B s)(hl:Live s) :
 (s.fuel<1/\r=((0,[]),a,gone s))∨(1<=s.fuel/\∃p a2,mOf a y.args=some p/\mSet a f.outs p=some a2/\KRun u D f.rest K a2 (dec s) r):=by
 rcases zq6 hB oM0 oM0 h ho hl with h3|⟨h3,p,h4,h5⟩
 ·exact .inl h3
 ·unfold KFin at h5;rw[show(((y.kind,p),a,dec s):Rres).1.1=f.k from hy,A1 oM0,A5 rfl]at h5;obtain⟨a2,d,r2,g1,g2,g3,g4⟩:=h5;exact .inr ⟨h3,p,a2,h4,g2,d,r2,g1,g3,g4⟩
theorem y7u{x:Nd}{q0 q1:List Nd}(hB:B<=4611686018427387903)(hx:x.kind=10)(hq:x.kids=[q0,q1])(h:KRun u D (x::l) K a s r)(ho:Oks B s)(hl:Live s) :
 (s.fuel<1/\r=((0,[]),a,gone s))∨(1<=s.fuel/\∃q,(q=q0∨q=q1)/\KRun u D q (⟨12,x.outs,l⟩::K) a (dec s) r):=by
 rcases zr0 hB h ho hl with h1|⟨h1,d1,p,r1,hd,h2,h3,h4⟩
 ·exact .inl h1
 ·have ho1:=(z4r ho h1).1;obtain⟨a0,q,r2,_,g2,g3,g4⟩:=zm5 h3 (by rw[hx];rfl);refine .inr ⟨h1,q,?_,d1,r2,by omega,g3,?_⟩
  ·rw[hq]at g2
   by_cases e:(a0 != 0)=true
   ·rw[A5 e]at g2;exact .inl (by simpa using g2.symm)
   ·rw[A1 e]at g2;exact .inr (by simpa using g2.symm)
  have e:=z88 hB g3 ho1
  cases hov:z16 r2.2.2 with
  |true =>
   rw[hov]at g4
   cases g4
   rw[A5 rfl];rcases h4 with⟨_,h4⟩|⟨h4,_⟩|⟨h4,_⟩
   ·exact h4
   iterate 2 ·rw[z0s h4]at hov;cases hov
  |false =>
   rw[hov]at g4;rw[A1 dC0];unfold KFin
   by_cases k15:r2.1.1=15
   ·rw[k15]at g4
    cases g4
    rw[A5 k15];rcases h4 with⟨h4,_⟩|⟨_,_,h4⟩|⟨_,h4,_⟩
    ·rw[hov]at h4;cases h4
    ·cases K with
     |nil=>exact h4
     |cons f K=>unfold KFin at h4;rw[A5 k15]at h4;exact h4
    ·rw[k15]at h4;exact A9 h4 dC0
   ·rw[A1 k15]
    by_cases k12:r2.1.1=12
    ·rw[A5 k12];rw[k12]at g4;obtain⟨v3,g5,rfl⟩:=A8.1 g4;rcases h4 with⟨h4,_⟩|⟨_,h4,_⟩|⟨_,_,d3,r3,h6,h7,h8⟩
     ·rw[show(((0,[]),v3,r2.2.2):Rres).2.2=r2.2.2 from rfl,hov]at h4;cases h4
     ·exact A9 rfl h4
     ·exact⟨v3,d3,r3,h6,g5,h7,h8⟩
    ·rw[A1 k12];have n12:(!false&&r2.1.1==12)=false:=by simpa using k12
     rw[n12,A1 dC0]at g4
     cases g4
     exact h4.out hB e.ok
end
end
theorem yb5{kind op n:Int}{name:ByteArray}{args outs params:List Int}{ks ks':List (List Nd)}(h:ks'.length=ks.length):z1m (.mk kind op n name args outs params ks')=z1m (.mk kind op n name args outs params ks):=by
 unfold z1m r8op r8num yo6 r8kn;simp only[Nd.kind,Nd.op,Nd.n,Nd.name,Nd.kids,Nd.params];rw[h];rfl
theorem y7t(u:Un):∀(l:List Fl)(i:Int),(z5s u l i).1=0↔∀f∈l,z5i u f=true
 |[],_=>by simp[z5s]
 |f::r,i=>by
  unfold z5s
  cases h:z5i u f with
  |false=>simp[h]
  |true=>simp[h,y7t u r (i+1)]
theorem y3f(u:Un):∀(l:List Fl)(i:Int),(∀f∈l,z5i u f=true)->z5s u l i=(0,0)
 |[],_,_=>rfl
 |f::r,i,h=>by
  unfold z5s;rw[A5 (h f (.head _))];exact y3f u r (i+1) λg hg=>h g (.tail _ hg)
theorem z6m(u:Un):(z17 u).1=0↔z1i u=true/\∀f∈u.flows,z5i u f=true:=by
 unfold z17
 cases h:z1i u with
 |false=>simp
 |true=>simp[y7t]
theorem yk0:∀(a b:List Nd),wtL (a++b)=wtL a+wtL b
 |[],b=>by simp[wtL]
 |x::r,b=>by simp only[Be,wtL,yk0 r b];omega
theorem use_in{tys seen:List Int}:∀{l want:List Int},l.length=want.length->z14 tys seen l want=true->inR tys.length l
 |[],_,_,_=>λv hv=>by simp at hv
 |_::_,[],h,_=>by simp at h
 |x::r,w::ws,h,hg=>by
  simp only[z14,A0]at hg;intro v hv;rcases Aq.1 hv with rfl|hv
  ·obtain⟨h1,h2⟩:=zi9 hg.1;exact⟨h1,by omega⟩
  ·exact use_in (by simpa using h) hg.2 v hv
theorem zp4{tys seen l want:List Int}(h:z07 tys seen l want=true):l.length=want.length/\inR tys.length l:=by
 simp only[z07,A0,At]at h;have:l.length=want.length:=by omega
 exact⟨this,use_in this h.2⟩
theorem getV_tot{a:List Int}{i:Int}(h:0<=i/\i<a.length):∃y,getV a i=some y:=by
 unfold getV;rw[A5 h.1];exact⟨_,Ad oM0⟩
theorem y6y{a:List Int}{i y:Int}(h:0<=i/\i<a.length):∃a2,setV a i y=some a2:=by
 unfold setV;rw[A5 ⟨h.1,by omega⟩];exact⟨_,rfl⟩
theorem y5s{a:List Int}:∀{l:List Int},inR a.length l->∃p,mOf a l=some p/\p.length=l.length
 |[],_=>⟨[],rfl,rfl⟩
 |i::r,h=>by
  obtain⟨y,hy⟩:=getV_tot (h i (.head _));obtain⟨p,hp,hl⟩:=y5s (l:=r) λv hv=>h v (.tail _ hv);exact⟨y::p,by simp[mOf,hy,hp],by simp[hl]⟩
theorem zz3:∀{l p a:List Int},inR a.length l->p.length=l.length->∃a2,mSet a l p=some a2
 |[],_,a,_,_=>⟨a,rfl⟩
 |_::_,[],_,_,h=>by simp at h
 |i::r,y::p,a,h,hl=>by
  obtain⟨a1,h1⟩:=y6y (y:=y) (h i (.head _));have hl1:=y02 h1;obtain⟨a2,h2⟩:=zz3 (l:=r) (p:=p) (a:=a1) (λv hv=>by rw[hl1];exact h v (.tail _ hv)) (by simpa using hl);exact⟨a2,by simp[mSet,h1,h2]⟩
theorem zz9{tys l:List Int}(h:inR tys.length l):(r8of tys l).length=l.length:=by
 unfold r8of;have:l.all (zs1 tys)=true:=Bj.2 λv hv=>by
  have:=h v hv;simp only[zs1,A0,Ba];omega
 rw[A5 this,Ab]
theorem y42(name:ByteArray):∀(l:List Ar)(i:Int),0<=i->z0i name l i≥0->∃k:Nat,z0i name l i=i+k/\k<l.length
 |[],i,_,h=>by simp[z0i]at h
 |f::r,i,hi,h=>by
  unfold z0i at h⊢;split
  ·exact⟨0,by simp,by simp⟩
  ·rename_i hne;rw[A1 hne]at h;obtain⟨k,h1,h2⟩:=y42 name r (i+1) oM0 h;exact⟨k+1,by omega,by simpa using h2⟩
structure Inv(n:Nat)(B M:Int)(s:Rs):Prop where
 ok:Oks B s
 out:(s.out.length:Int)+s.fuel<=M
 ar:s.ar.length=n
structure InvS(n:Nat)(B M:Int)(s:Rs):Prop where
 ok:Oks B s
 ok1:s.cost+s.fuel+1<=B
 out:(s.out.length:Int)+s.fuel+1<=M
 ar:s.ar.length=n
def EOk(w:Wh)(y lv:Bool)(r:Rres):Prop:=(r.1.1=12/\y=true/\w.If=true/\r.1.2.length=w.Yield.length)∨(r.1.1=13/\r.1.2.length=w.Next.length)∨(r.1.1=14/\lv=true/\r.1.2.length=w.Left.length)∨(r.1.1=15/\r.1.2.length=1)
def VF(u:Un)(g:Fl):Prop:=z4p u g 1 z3z (iota g.params.toNat) g.body=true/\g.types.length<=20000/\0<=g.params/\g.params<=g.types.length
theorem vf_of{u:Un}(h:(z17 u).1=0):∀g∈u.flows,VF u g:=by
 intro g hg;obtain⟨h1,h2⟩:=(z6m u).1 h;have hf:=h2 g hg;have hp:=z6x h1 g hg;unfold z5i at hf;simp only[A0]at hf;obtain⟨⟨⟨⟨⟨f1,f2⟩,f3⟩,f4⟩,f5⟩,f6⟩:=hf;simp only[Bi,Cg]at f1 f2 f3 f4;rw[zf0 u g g.body 1 z3z _ _ (z4h oM0)]at f6;exact⟨f6.1,by omega,hp.1,hp.2⟩
def SumOk(u:Un)(x:Nd)(k:Nat):Prop :=
 (x.kind=3->1<=k)/\(x.kind=4->2<=k)/\(x.kind=5->1<=k/\0<=z0i x.name u.arrays 0)/\(x.kind=6->2<=k/\0<=z0i x.name u.arrays 0) /\
 (x.kind=7->0<=z06 x.name u.flows 0/\∀g,u.flows[(z06 x.name u.flows 0).toNat]?=some g->(k:Int)=g.params)/\(x.kind=9->1<=k)
theorem zv5{p:List Int}{i:Nat}(h:i<p.length):∃y,p[i]?=some y:=⟨_,Ad h⟩
theorem sum_tot{u:Un}{n:Nat}{B M:Int}(hB:B<=4611686018427387903)(hM:M<=1073741824)(hn:n=u.arrays.length)(hv:∀g∈u.flows,VF u g){d:Nat}
 (hC:∀k p s,0<=k->(∃g,u.flows[k.toNat]?=some g/\(p.length:Int)=g.params)->Inv n B M s->3*s.fuel+2<=d->∃r,z4j u d k p s=some r/\Inv n B M r.2)
 (x:Nd) (p:List Int) (s:Rs) (hx:SumOk u x p.length) (hi:InvS n B M s) (hd:3*s.fuel+3<=((d+1:Nat):Int)):∃r,mSum u (d+1) x p s=some r/\Inv n B M r.2:=by
 have e:=zk8 hB hi.ok;have hb:Inv n B M (bmp s):=⟨⟨hi.ok.1,by have:=hi.ok.2.1;show 0<=s.cost+1;omega,by have:=hi.ok1;show s.cost+1+s.fuel<=B;omega⟩,by have:=hi.out;show(s.out.length:Int)+s.fuel<=M;omega,hi.ar⟩;obtain⟨x3,x4,x5,x6,x7,x9⟩:=hx;have ne:∀{i:Int},x.kind≠i->(x.kind==i)=false:=λh=>Aa.2 h;have cell:∀{a0:Int},0<=z0i x.name u.arrays 0->∃q,zc9 (bmp s) (z0i x.name u.arrays 0) a0=some q/\((q.1=false/\q.2={ bmp s with st:=3 })∨(q.1=true/\q.2=bmp s/\∃row y,s.ar[(z0i x.name u.arrays 0).toNat]?=some row/\row[a0.toNat]?=some y)):=by
  intro a0 hk;obtain⟨j,hj,hjl⟩:=y42 x.name u.arrays 0 oM0 hk;obtain⟨row,hrow⟩:∃row,s.ar[(z0i x.name u.arrays 0).toNat]?=some row:=⟨_,Ad (by rw[hi.ar];omega)⟩;unfold zc9
  by_cases h0:a0<0
  ·rw[A5 h0];exact⟨_,rfl,.inl ⟨rfl,rfl⟩⟩
  ·rw[A1 h0,A5 hk,show(bmp s).ar=s.ar from rfl,hrow,Bt]
   by_cases h1:a0≥row.length
   ·rw[A5 h1];exact⟨_,rfl,.inl ⟨rfl,rfl⟩⟩
   ·rw[A1 h1];exact⟨_,rfl,.inr ⟨rfl,rfl,row,_,rfl,Ad oM0⟩⟩
 have c3:Inv n B M { bmp s with st:=3 }:=⟨hb.ok,hb.out,hb.ar⟩;rw[mSum];simp only[show w64 (s.cost+1)=s.cost+1 from j65 (by have:=hi.ok.2.1;omega) (by have:=hi.ok.1;have:=hi.ok1;omega)]
 by_cases k3:x.kind=3
 ·obtain⟨a0,h0⟩:=zv5 (x3 k3);rw[k3,h0];exact⟨_,rfl,hb⟩
 by_cases k4:x.kind=4
 ·obtain⟨a0,h0⟩:=zv5 (show 0<p.length by have:=x4 k4;omega);obtain⟨a1,h1⟩:=zv5 (show 1<p.length by have:=x4 k4;omega);rw[k4,h0,h1];refine⟨_,rfl,?_⟩;dsimp only;split
  ·exact hb
  ·exact⟨hb.ok,hb.out,hb.ar⟩
 by_cases k5:x.kind=5
 ·obtain⟨a0,h0⟩:=zv5 (x5 k5).1;obtain⟨⟨qb,qs⟩,hq,hq2⟩:=cell (a0:=a0) (x5 k5).2;rw[ne k3,ne k4,k5,h0];simp only[As,Bv,show((5:Int)==5)=true from rfl,C6,Bt]
  erw [hq]
  simp only[Bt];rcases hq2 with⟨rfl,rfl⟩|⟨rfl,rfl,row,y,hr,hy⟩
  ·exact⟨_,rfl,c3⟩
  ·rw[A5 rfl,hr,Bt,hy];exact⟨_,rfl,hb⟩
 by_cases k6:x.kind=6
 ·obtain⟨a0,h0⟩:=zv5 (show 0<p.length by have:=(x6 k6).1;omega);obtain⟨a1,h1⟩:=zv5 (show 1<p.length by have:=(x6 k6).1;omega);obtain⟨⟨qb,qs⟩,hq,hq2⟩:=cell (a0:=a0) (x6 k6).2;rw[ne k3,ne k4,ne k5,k6,h0];simp only[As,Bv,show((6:Int)==6)=true from rfl,C6,Bt]
  erw [hq]
  simp only[Bt];rcases hq2 with⟨rfl,rfl⟩|⟨rfl,rfl,row,y,hr,hy⟩
  ·exact⟨_,rfl,c3⟩
  ·rw[A5 rfl,hr,h1];exact⟨_,rfl,⟨hb.ok,hb.out,by simp only[E5];exact hb.ar⟩⟩
 by_cases k7:x.kind=7
 ·rw[ne k3,ne k4,ne k5,ne k6,k7];obtain⟨h0,h1⟩:=x7 k7;obtain⟨j,hj,hjl⟩:=zs0 x.name u.flows 0 oM0 h0;obtain⟨g,hg⟩:∃g,u.flows[(z06 x.name u.flows 0).toNat]?=some g:=⟨_,Ad oM0⟩;exact hC _ p (bmp s) h0 ⟨g,hg,h1 g hg⟩ hb (by show 3*s.fuel+2<=(d:Int);omega)
 by_cases k9:x.kind=9
 ·obtain⟨a0,h0⟩:=zv5 (x9 k9);have hfu:=hi.ok.1;have hlo:s.out.length<1073741824:=by have:=hi.out;omega
  rw[ne k3,ne k4,ne k5,ne k6,ne k7,k9,h0];simp only[As,Bv,show((9:Int)==9)=true from rfl,C6,Bt,A5 hlo];exact⟨_,rfl,⟨hb.ok,by have:=hi.out;show((s.out++[a0]).length:Int)+s.fuel<=M;simp;omega,hb.ar⟩⟩
 by_cases k8:x.kind=8
 ·rw[ne k3,ne k4,ne k5,ne k6,ne k7,ne k9,k8];simp only[As,Bv,show((8:Int)==8)=true from rfl,C6]
  cases hin:s.ins with
  |nil=>exact⟨_,rfl,⟨hb.ok,hb.out,hb.ar⟩⟩
  |cons y q=>exact⟨_,rfl,⟨hb.ok,hb.out,hb.ar⟩⟩
 ·rw[ne k3,ne k4,ne k5,ne k6,ne k7,ne k9,ne k8];exact⟨_,rfl,hb⟩
theorem smp_ok{u:Un}{f:Fl}{x:Nd}{seen:List Int}{w:Wh}(hgp:∀g∈u.flows,VF u g)(h:(z8u u f x seen w).ok f.types x.outs=true) :
 inR f.types.length x.outs/\inR f.types.length x.args/\SumOk u x x.args.length/\((x.kind=1∨x.kind=2)->x.outs≠[]) /\
 (x.kind=12->w.If=true/\x.args.length=w.Yield.length)/\(x.kind=13->x.args.length=w.Next.length)/\(x.kind=14->x.args.length=w.Left.length)/\(x.kind=15->x.args.length=1):=by
 refine⟨ok_in h,?_⟩;have V:∀{b:Bool} {want:Option (List Int)},SForm.ok ⟨b,want⟩ f.types x.outs=true->b=true:=λ{b want} h=>by
  cases want<;>simp only[SForm.ok,A0]at h<;>exact h.1
 have V1:∀{b:Bool}{t:Int},SForm.ok ⟨b,some [t]⟩ f.types x.outs=true->x.outs≠[]:=λ{b t} h e=>by
  simp only[SForm.ok,A0]at h;have:=zp6 h.2;rw[e]at this;simp at this
 have T:∀{want:List Int},z07 f.types seen x.args want=true->inR f.types.length x.args/\x.args.length=want.length:=λh=>⟨(zp4 h).2,(zp4 h).1⟩;have tr:∀{k:Int}{P:Prop}{j:Int},x.kind=k->k≠j->x.kind=j->P:=λh1 h2 h3=>A9 (h1.symm.trans h3) h2;unfold z8u at h
 by_cases k1:x.kind=1
 ·rw[A5 (At.2 k1)]at h;obtain⟨t1,t2⟩:=T (V h);refine⟨t1,⟨tr k1 dC0,tr k1 dC0,tr k1 dC0,tr k1 dC0,tr k1 dC0,tr k1 dC0⟩,λ_=>V1 h,tr k1 dC0,tr k1 dC0,tr k1 dC0,tr k1 dC0⟩
 rw[A1 (by simpa using k1)]at h
 by_cases k2:x.kind=2
 ·rw[A5 (At.2 k2)]at h;have hb:=V h;simp only[A0]at hb;obtain⟨t1,t2⟩:=T hb.2;refine⟨t1,⟨tr k2 dC0,tr k2 dC0,tr k2 dC0,tr k2 dC0,tr k2 dC0,tr k2 dC0⟩,λ_=>V1 h,tr k2 dC0,tr k2 dC0,tr k2 dC0,tr k2 dC0⟩
 rw[A1 (by simpa using k2)]at h;have n12:¬(x.kind=1∨x.kind=2):=by rintro(h|h)<;>contradiction
 by_cases k3:x.kind=3
 ·rw[A5 (At.2 k3)]at h;have hb:=V h;simp only[A0]at hb;obtain⟨t1,t2⟩:=T hb.2;refine⟨t1,⟨λ_=>by rw[t2];exact Ag _,tr k3 dC0,tr k3 dC0,tr k3 dC0,tr k3 dC0,tr k3 dC0⟩,λh=>A9 h n12,tr k3 dC0,tr k3 dC0,tr k3 dC0,tr k3 dC0⟩
 rw[A1 (by simpa using k3)]at h
 by_cases k4:x.kind=4
 ·rw[A5 (At.2 k4)]at h;have hb:=V h;simp only[A0]at hb;obtain⟨t1,t2⟩:=T hb.1.2;refine⟨t1,⟨tr k4 dC0,λ_=>by rw[t2];exact Ag _,tr k4 dC0,tr k4 dC0,tr k4 dC0,tr k4 dC0⟩,λh=>A9 h n12,tr k4 dC0,tr k4 dC0,tr k4 dC0,tr k4 dC0⟩
 rw[A1 (by simpa using k4)]at h
 by_cases k5:x.kind=5
 ·rw[A5 (At.2 k5)]at h;have hb:=V h;simp only[A0,Ba]at hb;obtain⟨t1,t2⟩:=T hb.2;refine⟨t1,⟨tr k5 dC0,tr k5 dC0,λ_=>⟨by rw[t2];exact Ag _,hb.1⟩,tr k5 dC0,tr k5 dC0,tr k5 dC0⟩,λh=>A9 h n12,tr k5 dC0,tr k5 dC0,tr k5 dC0,tr k5 dC0⟩
 rw[A1 (by simpa using k5)]at h
 by_cases k6:x.kind=6
 ·rw[A5 (At.2 k6)]at h;have hb:=V h;simp only[A0,Ba]at hb;obtain⟨t1,t2⟩:=T hb.2;refine⟨t1,⟨tr k6 dC0,tr k6 dC0,tr k6 dC0,λ_=>⟨by rw[t2];exact Ag _,hb.1⟩,tr k6 dC0,tr k6 dC0⟩,λh=>A9 h n12,tr k6 dC0,tr k6 dC0,tr k6 dC0,tr k6 dC0⟩
 rw[A1 (by simpa using k6)]at h
 by_cases k7:x.kind=7
 ·rw[A5 (At.2 k7)]at h
  by_cases hp:decide (z06 x.name u.flows 0≥0)=true
  ·rw[A5 hp]at h;have hp':0<=z06 x.name u.flows 0:=by simpa using hp
   cases hg:u.flows[(z06 x.name u.flows 0).toNat]? with
   |none=>rw[hg]at h;exact A9 (V h) dC0
   |some g =>
    rw[hg]at h;obtain⟨t1,t2⟩:=T (V h);obtain⟨_,_,g1,g2⟩:=hgp g (Af hg);refine⟨t1,⟨tr k7 dC0,tr k7 dC0,tr k7 dC0,tr k7 dC0,λ_=>⟨hp',λg' hg'=>?_⟩,tr k7 dC0⟩,λh=>A9 h n12,tr k7 dC0,tr k7 dC0,tr k7 dC0,tr k7 dC0⟩;rw[hg]at hg'
    cases hg'
    rw[t2,Db];omega
  ·rw[A1 hp]at h;exact A9 (V h) dC0
 rw[A1 (by simpa using k7)]at h
 by_cases k8:x.kind=8
 ·rw[A5 (At.2 k8)]at h;have hb:=V h;have:x.args=[]:=Ay (by simp at hb;simp[hb]);refine⟨by rw[this];exact λv hv=>by simp at hv,⟨tr k8 dC0,tr k8 dC0,tr k8 dC0,tr k8 dC0,tr k8 dC0,tr k8 dC0⟩,λh=>A9 h n12,tr k8 dC0,tr k8 dC0,tr k8 dC0,tr k8 dC0⟩
 rw[A1 (by simpa using k8)]at h
 by_cases k9:x.kind=9
 ·rw[A5 (At.2 k9)]at h;obtain⟨t1,t2⟩:=T (V h);refine⟨t1,⟨tr k9 dC0,tr k9 dC0,tr k9 dC0,tr k9 dC0,tr k9 dC0,λ_=>by rw[t2];exact Ag _⟩,λh=>A9 h n12,tr k9 dC0,tr k9 dC0,tr k9 dC0,tr k9 dC0⟩
 rw[A1 (by simpa using k9)]at h;have S:SumOk u x x.args.length:=⟨λh=>A9 h k3,λh=>A9 h k4,λh=>A9 h k5,λh=>A9 h k6,λh=>A9 h k7,λh=>A9 h k9⟩
 by_cases k12:x.kind=12
 ·rw[A5 (At.2 k12)]at h;have hb:=V h;simp only[A0]at hb;obtain⟨t1,t2⟩:=T hb.2;exact⟨t1,S,λh=>A9 h n12,λ_=>⟨hb.1,t2⟩,tr k12 dC0,tr k12 dC0,tr k12 dC0⟩
 rw[A1 (by simpa using k12)]at h
 by_cases k13:x.kind=13
 ·rw[A5 (At.2 k13)]at h;have hb:=V h;simp only[A0]at hb;obtain⟨t1,t2⟩:=T hb.2;exact⟨t1,S,λh=>A9 h n12,tr k13 dC0,λ_=>t2,tr k13 dC0,tr k13 dC0⟩
 rw[A1 (by simpa using k13)]at h
 by_cases k14:x.kind=14
 ·rw[A5 (At.2 k14)]at h;have hb:=V h;simp only[A0]at hb;obtain⟨t1,t2⟩:=T hb.2;exact⟨t1,S,λh=>A9 h n12,tr k14 dC0,tr k14 dC0,λ_=>t2,tr k14 dC0⟩
 rw[A1 (by simpa using k14)]at h
 by_cases k15:x.kind=15
 ·rw[A5 (At.2 k15)]at h;obtain⟨t1,t2⟩:=T (V h);exact⟨t1,S,λh=>A9 h n12,tr k15 dC0,tr k15 dC0,tr k15 dC0,λ_=>t2⟩
 rw[A1 (by simpa using k15)]at h;exact A9 (V h) dC0
theorem LRel.monoE{k c:Nat}{I:VR}{l:List Nd}{K:List KF}{l':List Nd}{E:ER}(h:LRel k c I l K l' E):∀{E':ER},(∀n p p' a b,E n p p' a b->E' n p p' a b)->LRel k c I l K l' E':=by
 induction h with
 |dead h=>exact λ_=>.dead h
 |weak h _ ih=>exact λhe=>.weak h (ih he)
 |both h1 h2 h3 h4 _ ih=>exact λhe=>.both h1 h2 h3 h4 (ih he)
 |skip h1 h2 _ ih=>exact λhe=>.skip h1 h2 (ih he)
 |paid h1 h2 h3 _ ih=>exact λhe=>.paid h1 h2 h3 (ih he)
 |add h1 h2 h3 _ ih=>exact λhe=>.add h1 h2 h3 (ih he)
 |eff h1 h2 h3 h4 h5 h6 h7 h8 _ ih=>exact λhe=>.eff h1 h2 h3 h4 h5 h6 h7 h8 (ih he)
 |drop h1 h2 h3 h4 _ ih=>exact λhe=>.drop h1 h2 h3 h4 (ih he)
 |ite h1 h2 h3 h4 h5 h6 h7 h8 _ _ _ ih=>exact λhe=>.ite h1 h2 h3 h4 h5 h6 h7 (λn p p' a b hh=>(h8 n p p' a b hh).imp_right λ⟨x,y,z,w⟩=>⟨x,y,z,he _ _ _ _ _ w⟩) (ih he)
 |loop h1 h2 h3 h4 h5 h6 h7 _ _ ih=>exact λhe=>.loop h1 h2 h3 h4 h5 h6 (λn p p' a b hh=>(h7 n p p' a b hh).imp_left λ⟨x,y⟩=>⟨x,he _ _ _ _ _ y⟩) (ih he)
 |ender h1 h2 h3 h4 h5=>exact λhe=>.ender h1 h2 h3 h4 λa b p p' x y z=>he _ _ _ _ _ (h5 a b p p' x y z)
 |once h1 h2 h3 _ ih=>exact λhe=>.once h1 h2 h3 (ih he)
 |leave h1 h2 h3 _ ih=>exact λhe=>.leave h1 h2 h3 (ih he)
 |fork h1 h2 _ _ ih0 ih1=>exact λhe=>.fork h1 h2 (ih0 he) (ih1 he)
def EqS(S:List Int)(a b:List Int):Prop:=∀x∈S,getV a x=getV b x
theorem z9n{a a2:List Int}{o y x:Int}(h:setV a o y=some a2):getV a2 x=if x=o then some y else getV a x:=by
 obtain⟨h1,h2,rfl⟩:=zk1 h;unfold getV
 by_cases hx:0<=x
 ·rw[A5 hx]
  by_cases e:x=o
  ·subst e;rw[A5 rfl,Bp h2]
  ·rw[A1 e,A5 hx,Bo oM0]
 ·rw[A1 hx,A1 hx,A1 oM0]
theorem zz2:∀{l p a a2:List Int}{x:Int},mSet a l p=some a2->x∉l->getV a2 x=getV a x
 |[],_,_,_,_,h,_=>by cases h;rfl
 |i::r,p,a,a2,x,h,hx=>by
  obtain⟨y,p',a1,rfl,h1,h2⟩:=zd0 h;simp only[Aq,not_or]at hx;rw[zz2 h2 hx.2,z9n h1,A1 hx.1]
theorem y6x{outs a a2:List Int}{y x:Int}(h:setO outs a y a2)(hx:x∉outs):getV a2 x=getV a x:=by
 cases outs with
 |nil=>obtain rfl:a2=a:=h;rfl
 |cons o os =>
  simp only[Aq,not_or]at hx;rw[z9n h,A1 hx.1]
theorem EqS.set{S:List Int}{a b a2 b2:List Int}{o y:Int}(h:EqS S a b)(h1:setV a o y=some a2)(h2:setV b o y=some b2):EqS (S++[o]) a2 b2:=by
 intro x hx;rw[z9n h1,z9n h2]
 by_cases e:x=o
 ·rw[A5 e,A5 e]
 ·rw[A1 e,A1 e];rcases B3.1 hx with hx|hx
  ·exact h x hx
  ·exact A9 (Al.1 hx) e
theorem EqS.msets:∀{l p S a b a2 b2:List Int},EqS S a b->mSet a l p=some a2->mSet b l p=some b2->EqS (S++l) a2 b2
 |[],p,S,a,b,a2,b2,h,h1,h2=>by cases h1;cases h2;simpa using h
 |i::r,p,S,a,b,a2,b2,h,h1,h2=>by
  obtain⟨y,p',a1,rfl,g1,g2⟩:=zd0 h1;obtain⟨y',p'',b1,e,g1',g2'⟩:=zd0 h2;obtain⟨rfl,rfl⟩:=List.cons.inj e;have:=EqS.msets (h.set g1 g1') g2 g2';simpa using this
theorem EqS.setO{S outs:List Int}{a b a2 b2:List Int}{y:Int}(h:EqS S a b)(ho:outs.length<=1)(h1:setO outs a y a2)(h2:setO outs b y b2):EqS (S++outs) a2 b2:=by
 cases outs with
 |nil=>obtain rfl:a2=a:=h1;obtain rfl:b2=b:=h2;simpa using h
 |cons o os =>
  have:os=[]:=Ay (by simpa using ho);subst this;exact h.set h1 h2
theorem ys3{tys seen:List Int}:∀{l want:List Int},l.length=want.length->z14 tys seen l want=true->∀v∈l,v∈seen
 |[],_,_,_=>λv hv=>by simp at hv
 |_::_,[],h,_=>by simp at h
 |x::r,w::ws,h,hg=>by
  simp only[z14,A0]at hg;intro v hv;rcases Aq.1 hv with rfl|hv
  ·have:=hg.1;unfold z9b at this;simp only[Bi,Bn]at this;simpa using this.1.2
  ·exact ys3 (by simpa using h) hg.2 v hv
theorem z2l{tys seen l want:List Int}(h:z07 tys seen l want=true):∀v∈l,v∈seen:=by
 have h0:=(zp4 h).1;simp only[z07,A0]at h;exact ys3 h0 h.2
theorem za7{u:Un}{f:Fl}{x:Nd}{seen:List Int}{w:Wh}(h:(z8u u f x seen w).ok f.types x.outs=true) :
 (∀v∈x.args,v∈seen)/\x.outs.length<=1/\(zh0 x=true->HL x/\∃o,x.outs=[o])/\(x.kind=12->w.If=true)/\(12<=x.kind->x.kind<=15):=by
 have V:∀{b:Bool} {want:Option (List Int)},SForm.ok ⟨b,want⟩ f.types x.outs=true->b=true:=λ{b want} h=>by
  cases want<;>simp only[SForm.ok,A0]at h<;>exact h.1
 have V1:∀{b:Bool}{t:Int},SForm.ok ⟨b,some [t]⟩ f.types x.outs=true->x.outs.length=1:=λ{b t} h=>by
  simp only[SForm.ok,A0]at h;exact zp6 h.2
 have V0:∀{b:Bool},SForm.ok ⟨b,none⟩ f.types x.outs=true->x.outs.length=0:=λ{b} h=>by
  simp only[SForm.ok,A0,At]at h;omega
 have ex1:x.outs.length=1->∃o,x.outs=[o]:=λh=>Eb.1 h;have hne:x.outs.length=1->x.outs≠[]:=λh e=>by rw[e]at h;cases h
 unfold z8u at h
 by_cases k1:x.kind=1
 ·rw[A5 (At.2 k1)]at h;have h1:=V1 h;exact⟨z2l (V h),by omega,λhm=>⟨⟨hm,λh=>A9 (k1.symm.trans h) dC0,hne h1⟩,ex1 h1⟩,λh=>A9 (k1.symm.trans h) dC0,by omega⟩
 rw[A1 (by simpa using k1)]at h
 by_cases k2:x.kind=2
 ·rw[A5 (At.2 k2)]at h;have h1:=V1 h;have hb:=V h;simp only[A0]at hb;exact⟨z2l hb.2,by omega,λhm=>⟨⟨hm,λh=>A9 (k2.symm.trans h) dC0,hne h1⟩,ex1 h1⟩,λh=>A9 (k2.symm.trans h) dC0,by omega⟩
 rw[A1 (by simpa using k2)]at h
 by_cases k3:x.kind=3
 ·rw[A5 (At.2 k3)]at h;have h1:=V1 h;have hb:=V h;simp only[A0]at hb;exact⟨z2l hb.2,by omega,λhm=>⟨⟨hm,λh=>A9 (k3.symm.trans h) dC0,hne h1⟩,ex1 h1⟩,λh=>A9 (k3.symm.trans h) dC0,by omega⟩
 rw[A1 (by simpa using k3)]at h
 by_cases k4:x.kind=4
 ·rw[A5 (At.2 k4)]at h;have h1:=V1 h;have hb:=V h;simp only[A0]at hb;exact⟨z2l hb.1.2,by omega,λhm=>⟨⟨hm,λ_=>hb.1.1,hne h1⟩,ex1 h1⟩,λh=>A9 (k4.symm.trans h) dC0,by omega⟩
 rw[A1 (by simpa using k4)]at h;have hno:zh0 x=false:=by
  cases hx:zh0 x with
  |false=>rfl
  |true=>have:=zi2 hx;omega
 have hm0:zh0 x=true->HL x/\∃o,x.outs=[o]:=λh=>by rw[hno]at h;cases h
 by_cases k5:x.kind=5
 ·rw[A5 (At.2 k5)]at h;have hb:=V h;simp only[A0]at hb;exact⟨z2l hb.2,by have:=V1 h;omega,hm0,λh=>A9 (k5.symm.trans h) dC0,by omega⟩
 rw[A1 (by simpa using k5)]at h
 by_cases k6:x.kind=6
 ·rw[A5 (At.2 k6)]at h;have hb:=V h;simp only[A0]at hb;exact⟨z2l hb.2,by have:=V0 h;omega,hm0,λh=>A9 (k6.symm.trans h) dC0,by omega⟩
 rw[A1 (by simpa using k6)]at h
 by_cases k7:x.kind=7
 ·rw[A5 (At.2 k7)]at h
  by_cases hp:decide (z06 x.name u.flows 0≥0)=true
  ·rw[A5 hp]at h
   cases hg:u.flows[(z06 x.name u.flows 0).toNat]? with
   |none=>rw[hg]at h;exact A9 (V h) dC0
   |some g=>rw[hg]at h;exact⟨z2l (V h),by have:=V1 h;omega,hm0,λh=>A9 (k7.symm.trans h) dC0,by omega⟩
  ·rw[A1 hp]at h;exact A9 (V h) dC0
 rw[A1 (by simpa using k7)]at h
 by_cases k8:x.kind=8
 ·rw[A5 (At.2 k8)]at h;have hb:=V h;have:x.args=[]:=Ay (by simp at hb;simp[hb]);exact⟨by rw[this];exact λv hv=>by simp at hv,by have:=V1 h;omega,hm0,λh=>A9 (k8.symm.trans h) dC0,by omega⟩
 rw[A1 (by simpa using k8)]at h
 by_cases k9:x.kind=9
 ·rw[A5 (At.2 k9)]at h;exact⟨z2l (V h),by have:=V0 h;omega,hm0,λh=>A9 (k9.symm.trans h) dC0,by omega⟩
 rw[A1 (by simpa using k9)]at h
 by_cases k12:x.kind=12
 ·rw[A5 (At.2 k12)]at h;have hb:=V h;simp only[A0]at hb;exact⟨z2l hb.2,by have:=V0 h;omega,hm0,λ_=>hb.1,by omega⟩
 rw[A1 (by simpa using k12)]at h
 by_cases k13:x.kind=13
 ·rw[A5 (At.2 k13)]at h;have hb:=V h;simp only[A0]at hb;exact⟨z2l hb.2,by have:=V0 h;omega,hm0,λh=>A9 (k13.symm.trans h) dC0,by omega⟩
 rw[A1 (by simpa using k13)]at h
 by_cases k14:x.kind=14
 ·rw[A5 (At.2 k14)]at h;have hb:=V h;simp only[A0]at hb;exact⟨z2l hb.2,by have:=V0 h;omega,hm0,λh=>A9 (k14.symm.trans h) dC0,by omega⟩
 rw[A1 (by simpa using k14)]at h
 by_cases k15:x.kind=15
 ·rw[A5 (At.2 k15)]at h;exact⟨z2l (V h),by have:=V0 h;omega,hm0,λh=>A9 (k15.symm.trans h) dC0,by omega⟩
 rw[A1 (by simpa using k15)]at h;exact A9 (V h) dC0
theorem j1y{u:Un}{f:Fl}{deep:Int}{w:Wh}:∀{l:List Nd}{S:List Int},vGo u f deep w S l=true->z2x l=12->w.If=true
 |[],_,_,h=>by simp[z2x]at h
 |[x],S,hv,h=>by
  unfold vGo at hv;simp only[A0]at hv;have hk:x.kind=12:=by
   simp only[z2x,List.getLast?_singleton]at h;split at h
   ·exact h
   ·exact A9 h dC0
  have hx:=hv.1.1.2;rw[z1e u f deep w S (z2s u f deep w S hx) (by rw[hk];rfl) (by rw[hk];rfl)]at hx
  exact(za7 hx).2.2.2.1 hk
 |x::y::r,S,hv,h=>by
  unfold vGo at hv;simp only[A0]at hv;have e:z2x (x::y::r)=z2x (y::r):=by simp[z2x,Ey]
  rw[e]at h;exact j1y hv.2 h
section
def z5n(B:List Nd->List Nd)(f:Fl):Fl:=⟨f.name,f.ty,f.params,f.types,B f.body⟩
def z3r(B:List Nd->List Nd)(u:Un):Un:=⟨u.arrays,u.flows.map (z5n B)⟩
def z99(B:List Nd->List Nd)(u:Un):Un×Int:=if (z4v u).1==0 then(z3r B u,0)else(⟨[],[]⟩,1)
section
variable (B:List Nd->List Nd)
theorem zr9(name:ByteArray):∀(l:List Fl)(i:Int),z06 name (l.map (z5n B)) i=z06 name l i
 |[],_=>rfl
 |f::r,i=>by
  have ih:=zr9 name r (i+1);unfold z06;rw[B7];simp only[ih];rfl
theorem sForm_m(u:Un)(f:Fl)(x:Nd)(s:List Int)(w:Wh):z8u (z3r B u) (z5n B f) x s w=z8u u f x s w:=by
 unfold z8u;simp only[z3r,z5n,zr9,Bc]
 cases u.flows[(z06 x.name u.flows 0).toNat]? with
 |none=>rfl
 |some g=>rfl
mutual
theorem vNode_m(u:Un)(f:Fl):∀(x:Nd)(deep:Int)(w:Wh)(s:List Int),z85 (z3r B u) (z5n B f) deep w s x=z85 u f deep w s x
 |.mk kind op n name args outs params ks,deep,w,s=>by
  unfold z85;rw[sForm_m]
  match ks with
  |[]=>rfl
  |[a] =>
   have h1:=j0c u f a (deep+1) (w2 f (.mk kind op n name args outs params [a])) (s++params);simp only[show w2 (z5n B f) (.mk kind op n name args outs params [a])=w2 f (.mk kind op n name args outs params [a])from rfl,h1]
   rfl
  |a::b::r =>
   have h1:=j0c u f a (deep+1) (w2 f (.mk kind op n name args outs params (a::b::r))) (s++params);have h2:=j0c u f a (deep+1) (w1 w f (.mk kind op n name args outs params (a::b::r))) s;have h3:=j0c u f b (deep+1) (w1 w f (.mk kind op n name args outs params (a::b::r))) s;simp only[show w2 (z5n B f) (.mk kind op n name args outs params (a::b::r))=w2 f (.mk kind op n name args outs params (a::b::r))from rfl,show w1 w (z5n B f) (.mk kind op n name args outs params (a::b::r))=w1 w f (.mk kind op n name args outs params (a::b::r))from rfl,h1,h2,h3];rfl
theorem j0c(u:Un)(f:Fl):∀(l:List Nd)(deep:Int)(w:Wh)(s:List Int),vGo (z3r B u) (z5n B f) deep w s l=vGo u f deep w s l
 |[],_,_,_=>by simp[vGo]
 |x::r,deep,w,s=>by
  unfold vGo;rw[vNode_m u f x,j0c u f r]
end
def zv0(u:Un)(f:Fl)(l:List Nd):Prop:=z4p u f 1 z3z (iota f.params.toNat) l=true/\Frs (z5f f.params.toNat f.types.length) (dL l)
theorem z9m{u:Un}{f:Fl}(h:z5i u f=true):f.params.toNat<=f.types.length:=by
 unfold z5i at h;simp only[A0]at h;have a1:=h.1.1.1.1.1;have a2:=h.1.1.1.2;simp only[Bi,Cg]at a1 a2;omega
theorem y0l{u:Un}{f:Fl}(h:z5i u f=true):zv0 u f f.body:=by
 have hn:(z5f f.params.toNat f.types.length).length=f.types.length:=z4h (z9m h);unfold z5i at h;simp only[A0]at h;have h2:=h.2;rw[zf0 u f f.body 1 z3z _ _ hn]at h2;exact h2
theorem flow_m{u:Un}{f:Fl}(h:z5i u f=true)(hB:zv0 u f f.body->zv0 u f (B f.body)):z5i (z3r B u) (z5n B f)=true:=by
 have hb:=hB (y0l h);have hn:(z5f f.params.toNat f.types.length).length=f.types.length:=z4h (z9m h);unfold z5i at h⊢;simp only[A0]at h⊢;refine⟨h.1,?_⟩;show(z2o (z3r B u) (z5n B f) 1 z3z (iota f.params.toNat) (z5f f.params.toNat f.types.length) (B f.body)).1=true;rw[zf0 (z3r B u) (z5n B f) (B f.body) 1 z3z _ _ hn];have hv:=hb.1;simp only[z4p,A0]at hv⊢;exact⟨⟨hv.1,by rw[j0c];exact hv.2⟩,hb.2⟩
theorem gA_m(u:Un):∀(l:List Ar)(i:Int),r8gA (z3r B u) l i=r8gA u l i
 |[],_=>rfl
 |a::r,i=>by
  have h1:gArr (z3r B u) a i=gArr u a i:=by simp only[gArr,z3r,zr9]
  simp only[r8gA,gA_m u r,h1]
theorem gF_m(u:Un):∀(l:List Fl)(i:Int),r8gF (z3r B u) (l.map (z5n B)) i=r8gF u l i
 |[],_=>rfl
 |a::r,i=>by
  have h1:gFlw (z3r B u) (z5n B a) i=gFlw u a i:=by
   simp only[gFlw,z3r,zr9];rfl
  simp only[B7,r8gF,gF_m u r,h1]
theorem y3j(l:List Fl)(k:Nat):((l.map (z5n B)).getD k y7s).ty=(l.getD k y7s).ty/\((l.map (z5n B)).getD k y7s).params=(l.getD k y7s).params:=by
 simp only[Ax,Bc]
 cases l[k]? with
 |none=>exact⟨rfl,rfl⟩
 |some g=>exact⟨rfl,rfl⟩
theorem j1f(u:Un):z1i (z3r B u)=z1i u:=by
 unfold z1i;rw[show(z3r B u).arrays=u.arrays from rfl,show(z3r B u).flows=u.flows.map (z5n B)from rfl,gA_m,gF_m];unfold zb6;rw[show(z3r B u).flows=u.flows.map (z5n B)from rfl,zr9,(y3j B _ _).1,(y3j B _ _).2]
theorem check_m{u:Un}(h:(z17 u).1=0)(hB:∀f∈u.flows,zv0 u f f.body->zv0 u f (B f.body)):z17 (z3r B u)=(0,0):=by
 obtain⟨h1,h2⟩:=(z6m u).1 h;unfold z17;rw[j1f,h1,A5 rfl];refine y3f (z3r B u) _ 0 λg hg=>?_;obtain⟨f,hf,rfl⟩:=Bz.1 hg;exact flow_m B (h2 f hf) (hB f hf)
theorem j0q{u:Un}(h:(z17 u).1=0):∀f∈u.flows,zv0 u f f.body:=λf hf=>y0l (((z6m u).1 h).2 f hf)
theorem wtF_m(hw:∀l,z0z (B l)<=z0z l):∀l:List Fl,wtF (l.map (z5n B))<=wtF l
 |[]=>Ag _
 |f::r=>by
  have h1:=hw f.body;have h2:=wtF_m hw r;simp only[B7,wtF,z5n]at h2⊢;omega
theorem ys7(hw:∀l,z0z (B l)<=z0z l)(u:Un):z0j (z3r B u)<=z0j u:=by
 have:=wtF_m B hw u.flows;unfold z0j;rw[show(z3r B u).flows=u.flows.map (z5n B)from rfl,Ab,show(z3r B u).arrays=u.arrays from rfl];omega
theorem y3z{u:Un}(h:(z17 u).1≠0):z99 B u=(⟨[],[]⟩,1):=by
 have:((z4v u).1==0)=false:=by rw[z9f];simpa using h
 simp[z99,this]
theorem z6a{u:Un}(h:(z17 u).1=0):z99 B u=(z3r B u,0):=by
 have:((z4v u).1==0)=true:=by rw[z9f];simpa using h
 simp[z99,this]
theorem y65(hw:∀l,z0z (B l)<=z0z l)(u:Un):z0j (z99 B u).1<=z0j u:=by
 unfold z99;split
 ·exact ys7 B hw u
 ·simp[z0j,wtA,wtF]
end
end
section
section
variable {α β:Type} [DecidableEq α]
def aGet(k:α):List (α×β)->Option β
 |[]=>none
 |(a,b)::r=>if k=a then some b else aGet k r
def aPut(k:α)(v:β):List (α×β)->List (α×β)
 |[]=>[(k,v)]
 |(a,b)::r=>if k=a then(k,v)::r else(a,b)::aPut k v r
theorem z3x(j k:α)(v:β):∀es:List (α×β),aGet j (aPut k v es)=if j=k then some v else aGet j es
 |[]=>by simp[aPut,aGet]
 |(a,b)::r=>by
  have ih:=z3x j k v r;unfold aPut
  by_cases h:k=a
  ·subst h;rw[A5 rfl];unfold aGet
   by_cases h2:j=k
   ·rw[A5 h2,A5 h2]
   ·rw[A1 h2,A1 h2,A1 h2]
  ·rw[A1 h];unfold aGet;rw[ih]
   by_cases h2:j=a
   ·subst h2;rw[A5 rfl,A1 (λe=>h e.symm),A5 rfl]
   ·rw[A1 h2,A1 h2]
theorem yk4{k:α}{v:β}{e:α×β}:∀{es:List (α×β)},e∈aPut k v es->e=(k,v)∨e∈es
 |[],h=>by simp[aPut]at h;exact .inl h
 |(a,b)::r,h=>by
  unfold aPut at h;split at h
  ·rcases Aq.1 h with h|h
   ·exact .inl h
   ·exact .inr (.tail _ h)
  ·rcases Aq.1 h with h|h
   ·exact .inr (h▸ .head _)
   ·exact(yk4 h).imp id (.tail _)
theorem yk3{k:α}{v:β}:∀{es:List (α×β)},aGet k es=some v->(k,v)∈es
 |[],h=>by simp[aGet]at h
 |(a,b)::r,h=>by
  unfold aGet at h;split at h
  ·rename_i e;subst e;cases h;exact .head _
  ·exact .tail _ (yk3 h)
end
structure Ky where
 kind:Int
 op:Int
 n:Int
 a:Int
 b:Int
 deriving DecidableEq
abbrev TT:=List (Int×Int)
structure Tb where
 seen:List (Ky×Int)
 nums:TT
def z10(to:TT)(v:Int):Int:=(aGet v to).getD v
def z8v(op:Int):Bool:=op==1||op==3||op==6||op==7||op==8||op==16||op==17
def z3t(x:Nd):Ky :=
 if x.kind==3 then⟨x.kind,x.op,x.n,x.args.getD 0 0,0⟩
 else if x.kind==4 then(if z8v x.op&&decide (x.args.getD 0 0 > x.args.getD 1 0)then⟨x.kind,x.op,x.n,x.args.getD 1 0,x.args.getD 0 0⟩else⟨x.kind,x.op,x.n,x.args.getD 0 0,x.args.getD 1 0⟩)
 else⟨x.kind,x.op,x.n,0,0⟩
def z71(op n:Int):Bool :=
 if op==1||op==2||op==7||op==8||op==9||op==10||op==11 then n==0
 else if op==3||op==4 then n==1
 else if op==6 then n == -1 else false
def y31(nums:TT)(v:Int)(q:Int->Bool):Bool:=match aGet v nums with
 |some m=>q m
 |none=>false
def z4w(nums:TT)(x:Nd):Option Int :=
 if x.kind != 4 then none
 else if y31 nums (x.args.getD 1 0) (z71 x.op)then some (x.args.getD 0 0)
 else if y31 nums (x.args.getD 0 0) (λm=>z8v x.op&&z71 x.op m)then some (x.args.getD 1 0)
 else none
def z76(tb:Tb)(to:TT)(x:Nd):Bool×Tb×TT:=match z4w tb.nums x with
 |some y=>(false,tb,aPut (x.outs.headD 0) y to)
 |none=>match aGet (z3t x) tb.seen with
  |some y=>(false,tb,aPut (x.outs.headD 0) y to)
  |none=>(true,⟨aPut (z3t x) (x.outs.headD 0) tb.seen,if x.kind==1 then aPut (x.outs.headD 0) x.n tb.nums else tb.nums⟩,to)
def stK(kind:Int):Bool:=kind==1||kind==2||kind==3||kind==4
mutual
def z0r(tb:Tb)(to:TT):Nd->List Nd×Tb×TT
 |.mk kind op n name args outs params ks =>
  if stK kind then
   (if (z76 tb (z0n tb to ks).2 (.mk kind op n name (args.map (z10 to)) outs params (z0n tb to ks).1)).1 then[.mk kind op n name (args.map (z10 to)) outs params (z0n tb to ks).1]else[],
    (z76 tb (z0n tb to ks).2 (.mk kind op n name (args.map (z10 to)) outs params (z0n tb to ks).1)).2)
  else([.mk kind op n name (args.map (z10 to)) outs params (z0n tb to ks).1],tb,(z0n tb to ks).2)
def z0f(tb:Tb)(to:TT):List Nd->List Nd×Tb×TT
 |[]=>([],tb,to)
 |x::r=>((z0r tb to x).1++(z0f (z0r tb to x).2.1 (z0r tb to x).2.2 r).1,(z0f (z0r tb to x).2.1 (z0r tb to x).2.2 r).2)
def z0n(tb:Tb)(to:TT):List (List Nd)->List (List Nd)×TT
 |[]=>([],to)
 |l::r=>((z0f tb to l).1::(z0n tb (z0f tb to l).2.2 r).1,(z0n tb (z0f tb to l).2.2 r).2)
end
def z19(tb:Tb)(to:TT)(x:Nd):Nd:=.mk x.kind x.op x.n x.name (x.args.map (z10 to)) x.outs x.params (z0n tb to x.kids).1
theorem z9i(tb:Tb)(to:TT)(x:Nd):z0r tb to x =
 if stK x.kind then(if (z76 tb (z0n tb to x.kids).2 (z19 tb to x)).1 then[z19 tb to x]else[],(z76 tb (z0n tb to x.kids).2 (z19 tb to x)).2)
 else([z19 tb to x],tb,(z0n tb to x.kids).2):=by
 cases x;simp only[z0r,z19,Nd.kind,Nd.op,Nd.n,Nd.name,Nd.args,Nd.outs,Nd.params,Nd.kids];rfl
def stB(l:List Nd):List Nd:=(z0f ⟨[],[]⟩ [] l).1
mutual
def y32:Nd->Bool
 |.mk kind _ _ _ args outs _ ks=>(!stK kind || !outs.isEmpty)&&(kind != 3||decide (1<=args.length))&&(kind != 4||decide (2<=args.length))&&zu0 ks
def zu1:List Nd->Bool
 |[]=>true
 |x::r=>y32 x&&zu1 r
def zu0:List (List Nd)->Bool
 |[]=>true
 |l::r=>zu1 l&&zu0 r
end
theorem zf7(x:Nd):y32 x=((!stK x.kind || !x.outs.isEmpty)&&(x.kind != 3||decide (1<=x.args.length))&&(x.kind != 4||decide (2<=x.args.length))&&zu0 x.kids):=by
 cases x;simp only[y32,Nd.kind,Nd.args,Nd.outs,Nd.kids];rfl
theorem y9w:∀{l:List Nd}{x:Nd},zu1 l=true->x∈l->y32 x=true
 |y::r,x,hh,hx=>by
  simp only[zu1,A0]at hh;rcases Aq.1 hx with rfl|hx
  ·exact hh.1
  ·exact y9w hh.2 hx
theorem y9v:∀{l:List (List Nd)} {x:List Nd},zu0 l=true->x∈l->zu1 x=true
 |y::r,x,hh,hx=>by
  simp only[zu0,A0]at hh;rcases Aq.1 hx with rfl|hx
  ·exact hh.1
  ·exact y9v hh.2 hx
theorem y4z(tb:Tb)(to:TT)(x:Nd):(z0r tb to x).1.length<=1:=by
 rw[z9i];split
 ·dsimp only;split<;>simp
 ·simp
theorem zf6:∀(l:List Nd)(tb:Tb)(to:TT),(z0f tb to l).1.length<=l.length
 |[],_,_=>by simp[z0f]
 |x::r,tb,to=>by
  have h1:=y4z tb to x;have h2:=zf6 r (z0r tb to x).2.1 (z0r tb to x).2.2;simp only[z0f,B8,A3];omega
mutual
theorem j69:∀(x:Nd)(tb:Tb)(to:TT),wtL (z0r tb to x).1<=wtN x
 |.mk kind op n name args outs params ks,tb,to=>by
  have hk:=ya7 ks tb to;unfold z0r;split
  ·dsimp only;split
   ·simp only[wtL,wtN,Ab];omega
   ·simp[wtL]
  ·simp only[wtL,wtN,Ab];omega
theorem y2q:∀(l:List Nd)(tb:Tb)(to:TT),wtL (z0f tb to l).1<=wtL l
 |[],_,_=>by simp[z0f]
 |x::r,tb,to=>by
  have h1:=j69 x tb to;have h2:=y2q r (z0r tb to x).2.1 (z0r tb to x).2.2;simp only[z0f,yk0,wtL];omega
theorem ya7:∀(ks:List (List Nd)) (tb:Tb) (to:TT),wtK (z0n tb to ks).1<=wtK ks
 |[],_,_=>by simp[z0n]
 |l::r,tb,to=>by
  have h1:=y2q l tb to;have h2:=ya7 r tb (z0f tb to l).2.2;have h3:=zf6 l tb to;simp only[z0n,wtK];omega
end
theorem y3v(l:List Nd):z0z (stB l)<=z0z l:=by
 have h1:=y2q l ⟨[],[]⟩ [];have h2:=zf6 l ⟨[],[]⟩ [];unfold z0z stB;omega
theorem y4x:∀(ks:List (List Nd)) (tb:Tb) (to:TT),(z0n tb to ks).1.length=ks.length
 |[],_,_=>by simp[z0n]
 |l::r,tb,to=>by simp[z0n,y4x r]
mutual
theorem j00:∀(x:Nd)(tb:Tb)(to:TT),List.Sublist (dL (z0r tb to x).1) (dN x)
 |.mk kind op n name args outs params ks,tb,to=>by
  have hk:=y4y ks tb to;have h1:List.Sublist (params++(dK (z0n tb to ks).1++outs)) (params++(dK ks++outs)):=(List.Sublist.refl _).append (hk.append (List.Sublist.refl _));unfold z0r;split
  ·dsimp only;split
   ·simpa[dL,dN]using h1
   ·simp[dL]
  ·simpa[dL,dN]using h1
theorem zt9:∀(l:List Nd)(tb:Tb)(to:TT),List.Sublist (dL (z0f tb to l).1) (dL l)
 |[],_,_=>by simp[z0f,dL]
 |x::r,tb,to=>by
  simp only[z0f,dL_app,dL];exact(j00 x tb to).append (zt9 r _ _)
theorem y4y:∀(ks:List (List Nd)) (tb:Tb) (to:TT),List.Sublist (dK (z0n tb to ks).1) (dK ks)
 |[],_,_=>by simp[z0n,dK]
 |l::r,tb,to=>by
  simp only[z0n,dK];exact(zt9 l tb to).append (y4y r tb _)
end
mutual
theorem y75:∀(x:Nd)(tb:Tb)(to:TT),z0m (z0r tb to x).1=z2n x
 |.mk kind op n name args outs params ks,tb,to=>by
  have hk:=zo9 ks tb to;unfold z0r
  by_cases hK:stK kind=true
  ·have h14:(kind==14)=false:=by
    simp only[stK,Bb,At]at hK;simp;omega
   have h10:(kind==10)=false:=by
    simp only[stK,Bb,At]at hK;simp;omega
   rw[A5 hK];dsimp only;split<;>simp[z0m,z2n,h14,h10]
  ·rw[A1 hK];simp[z0m,z2n,hk]
theorem z7f:∀(l:List Nd)(tb:Tb)(to:TT),z0m (z0f tb to l).1=z0m l
 |[],_,_=>by simp[z0f]
 |x::r,tb,to=>by
  simp only[z0f,y3o,z0m,y75 x tb to,z7f r]
theorem zo9:∀(ks:List (List Nd)) (tb:Tb) (to:TT),z39 (z0n tb to ks).1=z39 ks
 |[],_,_=>by simp[z0n]
 |l::r,tb,to=>by
  simp only[z0n,z39,z7f l tb to,zo9 r]
end
theorem z7m(tb:Tb)(to:TT)(x:Nd)(h:stK x.kind=false):z0r tb to x=([z19 tb to x],tb,(z0n tb to x.kids).2):=by
 rw[z9i,h];rfl
theorem z9l{x:Nd}(h:z04 x=true):stK x.kind=false:=by
 cases hK:stK x.kind with
 |false=>rfl
 |true =>
  simp only[stK,Bb,At]at hK;have h10:(x.kind==10)=false:=by simp;omega
  have h11:(x.kind==11)=false:=by simp;omega
  unfold z04 at h;simp only[h10,h11,D2,As,Bv]at h;rcases hK with((e|e)|e)|e<;>(rw[e]at h;simp[z0y]at h)
theorem last_app{A B:List Nd}(h:B≠[]):(A++B).getLast? = B.getLast?:=by
 rw[List.getLast?_append]
 cases hb:B.getLast? with
 |none=>exact A9 (List.getLast?_eq_none_iff.1 hb) h
 |some z=>rfl
theorem z5d{u:Un}{f:Fl}{deep:Int}{w:Wh}:∀{l:List Nd}{all:List Int}(tb:Tb)(to:TT),vGo u f deep w all l=true->l≠[]->(z0f tb to l).1≠[]/\z2x (z0f tb to l).1=z2x l
 |[],_,_,_,_,h=>A9 rfl h
 |[x],all,tb,to,hv,_=>by
  simp only[vGo,A0,At,List.isEmpty_nil]at hv;rw[show(z0f tb to [x]).1=(z0r tb to x).1 by simp[z0f],z7m tb to x (z9l hv.1.2)]
  exact⟨by simp,by cases x;rfl⟩
 |x::y::r,all,tb,to,hv,_=>by
  unfold vGo at hv;simp only[A0]at hv;obtain⟨i1,i2⟩:=z5d (l:=y::r) (z0r tb to x).2.1 (z0r tb to x).2.2 hv.2 sI0;have e:(z0f tb to (x::y::r)).1=(z0r tb to x).1++(z0f (z0r tb to x).2.1 (z0r tb to x).2.2 (y::r)).1:=by rw[z0f]
  rw[e];refine⟨λh=>i1 (List.append_eq_nil_iff.1 h).2,?_⟩;unfold z2x at i2⊢;rw[last_app i1,i2];simp[Ey]
end
def Vis(tys all:List Int)(y t:Int):Prop:=all.contains y=true/\0<=y/\y<tys.length/\tys.getD y.toNat 0=t
theorem Vis.mono{tys all:List Int}{y t:Int}(h:Vis tys all y t)(c:List Int):Vis tys (all++c) y t:=⟨by rw[Ck,h.1];rfl,h.2⟩
def Rel(tys:List Int)(to:TT)(all all':List Int):Prop:=∀v,all.contains v=true->0<=v->v<tys.length->Vis tys all' (z10 to v) (tys.getD v.toNat 0)
theorem zu8{tys seen:List Int}{v w:Int}:z9b tys seen v w=true↔seen.contains v=true/\0<=v/\v<tys.length/\(w=0∨tys.getD v.toNat 0=w):=by
 unfold z9b;simp only[Bi,Bn,Cg,Bool.not_eq_false',Bool.and_eq_false_iff,bne_eq_false_iff_eq];constructor
 ·rintro⟨⟨⟨h1,h2⟩,h3⟩,h4⟩;exact⟨h3,by omega,by omega,h4⟩
 ·rintro⟨h3,h1,h2,h4⟩;exact⟨⟨⟨by omega,by omega⟩,h3⟩,h4⟩
theorem use_rel{tys all all':List Int}{to:TT}(hr:Rel tys to all all'){v w:Int}(h:z9b tys all v w=true):z9b tys all' (z10 to v) w=true:=by
 obtain⟨h1,h2,h3,h4⟩:=zu8.1 h;obtain⟨k1,k2,k3,k4⟩:=hr v h1 h2 h3;exact zu8.2 ⟨k1,k2,k3,by rw[k4];exact h4⟩
theorem y2k{tys all all':List Int}{to:TT}(hr:Rel tys to all all'):∀{l want:List Int},z14 tys all l want=true->z14 tys all' (l.map (z10 to)) want=true
 |[],_,_=>by simp[z14]
 |_::_,[],_=>by simp[z14]
 |v::r,w::ws,h=>by
  simp only[z14,A0,B7]at h⊢;exact⟨use_rel hr h.1,y2k hr h.2⟩
theorem y2l{tys all all':List Int}{to:TT}(hr:Rel tys to all all'){l want:List Int}(h:z07 tys all l want=true):z07 tys all' (l.map (z10 to)) want=true:=by
 unfold z07 at h⊢;simp only[A0,Ab]at h⊢;exact⟨h.1,y2k hr h.2⟩
theorem Rel.outs{tys all all' outs:List Int}{to:TT}(hr:Rel tys to all all')(hn:∀v∈outs,aGet v to=none):Rel tys to (all++outs) (all'++outs):=λv hv h0 h1=>by
 rw[Ck,Bb]at hv
 by_cases ho:outs.contains v=true
 ·have e:z10 to v=v:=by unfold z10;rw[hn v (List.contains_iff_mem.1 ho)];rfl
  rw[e];exact⟨by rw[Ck,ho,Bk],h0,h1,rfl⟩
 ·exact(hr v (hv.resolve_right ho) h0 h1).mono _
theorem Rel.congr{tys all all':List Int}{to to':TT}(hr:Rel tys to all all')(hn:∀v,all.contains v=true->aGet v to'=aGet v to):Rel tys to' all all':=λv hv h0 h1=>by
 have e:z10 to' v=z10 to v:=by unfold z10;rw[hn v hv]
 rw[e];exact hr v hv h0 h1
def kTy(k:Ky):Int:=if k.kind==1 then 1 else if k.kind==2 then 2 else(z0h k.op).2
def TabOk(tys:List Int)(tb:Tb)(all:List Int):Prop:=∀e∈tb.seen,Vis tys all e.2 (kTy e.1)
theorem TabOk.mono{tys all:List Int}{tb:Tb}(h:TabOk tys tb all)(c:List Int):TabOk tys tb (all++c):=λe he=>(h e he).mono c
theorem y9n{u:Un}{f:Fl}{to:TT}{all all':List Int}{w:Wh}{outs:List Int}{x y:Nd}(ek:y.kind=x.kind)(eo:y.op=x.op)(en:y.n=x.n)(em:y.name=x.name)(ea:y.args=x.args.map (z10 to))(hr:Rel f.types to all all')
 (h:(z8u u f x all w).ok f.types outs=true):(z8u u f y all' w).ok f.types outs=true:=by
 have M:∀want,z07 f.types all x.args want=true->z07 f.types all' (x.args.map (z10 to)) want=true:=λwant=>y2l hr;have F:∀(b b':Bool) (want:Option (List Int)),(b=true->b'=true)->SForm.ok ⟨b,want⟩ f.types outs=true->SForm.ok ⟨b',want⟩ f.types outs=true:=λb b' want hb h=>by
  cases want<;>simp only[SForm.ok,A0]at h⊢<;>exact⟨hb h.1,h.2⟩
 unfold z8u at h⊢;rw[ek,eo,en,em,ea]
 by_cases k1:(x.kind==1)=true
 ·rw[A5 k1]at h⊢;exact F _ _ _ (λhb=>M _ hb) h
 rw[A1 k1]at h⊢
 by_cases k2:(x.kind==2)=true
 ·rw[A5 k2]at h⊢;exact F _ _ _ (λhb=>by simp only[A0]at hb⊢;exact⟨hb.1,M _ hb.2⟩) h
 rw[A1 k2]at h⊢
 by_cases k3:(x.kind==3)=true
 ·rw[A5 k3]at h⊢;exact F _ _ _ (λhb=>by simp only[A0]at hb⊢;exact⟨hb.1,M _ hb.2⟩) h
 rw[A1 k3]at h⊢
 by_cases k4:(x.kind==4)=true
 ·rw[A5 k4]at h⊢;refine F _ _ _ (λhb=>?_) h;simp only[A0]at hb⊢;refine⟨⟨hb.1.1,M _ hb.1.2⟩,?_⟩;have ht:=hb.1.2;unfold z07 at ht;simp only[A0,At,A3,A6]at ht
  match x.args,ht,hb.2 with
  |[a,b],ht,h2 =>
   simp only[z14,A0]at ht;obtain⟨a1,a2,a3,_⟩:=zu8.1 ht.2.1;obtain⟨b1,b2,b3,_⟩:=zu8.1 ht.2.2.1;have e1:=(hr a a1 a2 a3).2.2.2;have e2:=(hr b b1 b2 b3).2.2.2;simp only[B7,Cv,List.getD_cons_zero,List.getD_cons_succ]at h2⊢;rw[e1,e2];exact h2
 rw[A1 k4]at h⊢
 by_cases k5:(x.kind==5)=true
 ·rw[A5 k5]at h⊢;exact F _ _ _ (λhb=>by simp only[A0]at hb⊢;exact⟨hb.1,M _ hb.2⟩) h
 rw[A1 k5]at h⊢
 by_cases k6:(x.kind==6)=true
 ·rw[A5 k6]at h⊢;exact F _ _ _ (λhb=>by simp only[A0]at hb⊢;exact⟨hb.1,M _ hb.2⟩) h
 rw[A1 k6]at h⊢
 by_cases k7:(x.kind==7)=true
 ·rw[A5 k7]at h⊢
  by_cases hp:decide (z06 x.name u.flows 0≥0)=true
  ·rw[A5 hp]at h⊢
   cases hg:u.flows[(z06 x.name u.flows 0).toNat]? with
   |none=>rw[hg]at h;exact h
   |some g=>rw[hg]at h;exact F _ _ _ (λhb=>M _ hb) h
  ·rw[A1 hp]at h⊢;exact h
 rw[A1 k7]at h⊢
 by_cases k8:(x.kind==8)=true
 ·rw[A5 k8]at h⊢;exact F _ _ _ (λhb=>by simpa using hb) h
 rw[A1 k8]at h⊢
 by_cases k9:(x.kind==9)=true
 ·rw[A5 k9]at h⊢;exact F _ _ _ (λhb=>M _ hb) h
 rw[A1 k9]at h⊢
 by_cases k12:(x.kind==12)=true
 ·rw[A5 k12]at h⊢;exact F _ _ _ (λhb=>by simp only[A0]at hb⊢;exact⟨hb.1,M _ hb.2⟩) h
 rw[A1 k12]at h⊢
 by_cases k13:(x.kind==13)=true
 ·rw[A5 k13]at h⊢;exact F _ _ _ (λhb=>by simp only[A0]at hb⊢;exact⟨hb.1,M _ hb.2⟩) h
 rw[A1 k13]at h⊢
 by_cases k14:(x.kind==14)=true
 ·rw[A5 k14]at h⊢;exact F _ _ _ (λhb=>by simp only[A0]at hb⊢;exact⟨hb.1,M _ hb.2⟩) h
 rw[A1 k14]at h⊢
 by_cases k15:(x.kind==15)=true
 ·rw[A5 k15]at h⊢;exact F _ _ _ (λhb=>M _ hb) h
 rw[A1 k15]at h⊢;exact h
theorem zz7{tys outs:List Int}{t:Int}(h:z62 tys outs [t]=true)(ht:t≠0):∃v,outs=[v]/\0<=v/\v<tys.length/\tys.getD v.toNat 0=t:=by
 match outs,h with
 |[v],h =>
  simp only[z62,Cd,z9h,A0,Ba,Bb,At]at h
  exact⟨v,rfl,h.1.1,h.1.2,h.2.resolve_left ht⟩
 |[],h=>simp[z62]at h
 |_::_::_,h=>simp[z62]at h
theorem op2(op:Int):(z0h op).2≠0:=by
 unfold z0h
 repeat' split
 all_goals simp
theorem zz8{u:Un}{f:Fl}{x:Nd}{s:List Int}{w:Wh}(hK:stK x.kind=true)(h:(z8u u f x s w).ok f.types x.outs=true) :
 ∃v,x.outs=[v]/\0<=v/\v<f.types.length/\f.types.getD v.toNat 0=(if x.kind==1 then 1 else if x.kind==2 then 2 else(z0h x.op).2):=by
 unfold z8u at h;simp only[stK,Bb]at hK
 by_cases k1:(x.kind==1)=true
 ·rw[A5 k1]at h⊢;simp only[SForm.ok,A0]at h;exact zz7 h.2 dC0
 rw[A1 k1]at h⊢
 by_cases k2:(x.kind==2)=true
 ·rw[A5 k2]at h⊢;simp only[SForm.ok,A0]at h;exact zz7 h.2 dC0
 rw[A1 k2]at h⊢
 by_cases k3:(x.kind==3)=true
 ·rw[A5 k3]at h;simp only[SForm.ok,A0]at h;exact zz7 h.2 (op2 _)
 rw[A1 k3]at h;have k4:(x.kind==4)=true:=by
  rcases hK with((h'|h')|h')|h'
  ·exact A9 h' k1
  ·exact A9 h' k2
  ·exact A9 h' k3
  ·exact h'
 rw[A5 k4]at h;simp only[SForm.ok,A0]at h;exact zz7 h.2 (op2 _)
theorem yp4{op m:Int}(h:z71 op m=true):z0h op=(1,1):=by
 have h2:op=1∨op=2∨op=3∨op=4∨op=6∨op=7∨op=8∨op=9∨op=10∨op=11:=by
  unfold z71 at h;split at h
  ·rename_i e;simp only[Bb,At]at e;omega
  ·split at h
   ·rename_i e;simp only[Bb,At]at e;omega
   ·split at h
    ·rename_i e;simp only[At]at e;omega
    ·cases h
 rcases h2 with rfl|rfl|rfl|rfl|rfl|rfl|rfl|rfl|rfl|rfl<;>rfl
theorem j2q{u:Un}{f:Fl}{x:Nd}{s:List Int}{w:Wh}{nums:TT}{y:Int}(hp:z4w nums x=some y){outs:List Int}(h:(z8u u f x s w).ok f.types outs=true) :
 x.kind=4/\Vis f.types s y 1/\(z0h x.op).2=1:=by
 unfold z4w at hp;split at hp
 ·cases hp
 rename_i hk;have k4:x.kind=4:=by simpa using hk
 have hop:(y=x.args.getD 0 0∨y=x.args.getD 1 0)/\z0h x.op=(1,1):=by
  split at hp
  ·rename_i hh
   cases hp
   refine⟨.inl rfl,?_⟩;unfold y31 at hh;split at hh
   ·exact yp4 hh
   ·cases hh
  ·split at hp
   ·rename_i hh
    cases hp
    refine⟨.inr rfl,?_⟩;unfold y31 at hh;split at hh
    ·simp only[A0]at hh;exact yp4 hh.2
    ·cases hh
   ·cases hp
 refine⟨k4,?_,by rw[hop.2]⟩;unfold z8u at h;simp only[k4]at h;simp only[SForm.ok,A0,show((4:Int)==1)=false from rfl,show((4:Int)==2)=false from rfl,show((4:Int)==3)=false from rfl,show((4:Int)==4)=true from rfl,As,Bv,C6]at h;have ht:=h.1.1.2;rw[hop.2]at ht;unfold z07 at ht;simp only[A0,At,A3,A6]at ht
 match hx:x.args,ht with
 |[a,b],ht =>
  simp only[z14,A0]at ht;obtain⟨a1,a2,a3,a4⟩:=zu8.1 ht.2.1;obtain⟨b1,b2,b3,b4⟩:=zu8.1 ht.2.2.1;rw[hx]at hop;rcases hop.1 with rfl|rfl
  ·exact⟨a1,a2,a3,a4.resolve_left dC0⟩
  ·exact⟨b1,b2,b3,b4.resolve_left dC0⟩
theorem ym4(x:Nd):(z3t x).kind=x.kind/\(z3t x).op=x.op:=by
 unfold z3t
 repeat' split
 all_goals exact⟨rfl,rfl⟩
theorem j2u{tb:Tb}{to:TT}{x:Nd}(h:x.outs≠[]){v:Int}(hv:v∉x.outs):aGet v (z76 tb to x).2.2=aGet v to:=by
 have hne:v≠x.outs.headD 0:=λe=>hv (by rw[e];cases ho:x.outs with|nil=>exact A9 ho h|cons a r=>simp);unfold z76;split
 ·rw[z3x,A1 hne]
 ·split
  ·rw[z3x,A1 hne]
  ·rfl
mutual
theorem za8:∀(x:Nd)(tb:Tb)(to:TT),y32 x=true->∀v,v∉dN x->aGet v (z0r tb to x).2.2=aGet v to
 |.mk kind op n name args outs params ks,tb,to,h,v,hv=>by
  simp only[y32,A0]at h;simp only[dN,B3,not_or]at hv;have hk:=zk4 ks tb to h.2 v hv.2.1;unfold z0r
  by_cases hK:stK kind=true
  ·rw[A5 hK];dsimp only;rw[j2u (by rw[hK]at h;simp at h;exact h.1.1.1) hv.2.2];exact hk
  ·rw[A1 hK];exact hk
theorem z6f:∀(l:List Nd)(tb:Tb)(to:TT),zu1 l=true->∀v,v∉dL l->aGet v (z0f tb to l).2.2=aGet v to
 |[],_,_,_,_,_=>by simp[z0f]
 |x::r,tb,to,h,v,hv=>by
  simp only[zu1,A0]at h;simp only[dL,B3,not_or]at hv;simp only[z0f];rw[z6f r _ _ h.2 v hv.2,za8 x tb to h.1 v hv.1]
theorem zk4:∀(ks:List (List Nd)) (tb:Tb) (to:TT),zu0 ks=true->∀v,v∉dK ks->aGet v (z0n tb to ks).2=aGet v to
 |[],_,_,_,_,_=>by simp[z0n]
 |l::r,tb,to,h,v,hv=>by
  simp only[zu0,A0]at h;simp only[dK,B3,not_or]at hv;simp only[z0n];rw[zk4 r _ _ h.2 v hv.2,z6f l tb to h.1 v hv.1]
end
def EqT(to:TT)(S a b:List Int):Prop:=∀v∈S,getV b (z10 to v)=getV a v
theorem EqT.mof{to:TT}{S a b:List Int}(h:EqT to S a b):∀{l:List Int},(∀v∈l,v∈S)->mOf b (l.map (z10 to))=mOf a l
 |[],_=>rfl
 |i::r,hs=>by
  simp only[B7,mOf];rw[h i (hs i (.head _)),EqT.mof h λv hv=>hs v (.tail _ hv)]
theorem EqT.sub{to to':TT}{S T a b:List Int}(h:EqT to S a b)(hc:∀v∈T,v∈S/\z10 to v=z10 to' v):EqT to' T a b:=λv hv=>by rw[<- (hc v hv).2];exact h v (hc v hv).1
theorem EqT.sets{to:TT}{S l p a b a2 b2:List Int}(h:EqT to S a b)(h1:mSet a l p=some a2)(h2:mSet b l p=some b2)(hs:∀v∈S,z10 to v∉l)(hl:∀v∈l,aGet v to=none):EqT to (S++l) a2 b2:=by
 intro v hv
 by_cases hm:v∈l
 ·have e:z10 to v=v:=by unfold z10;rw[hl v hm];rfl
  rw[e];have:=EqS.msets (S:=[]) (λ_ h=>by simp at h) h1 h2 v (by simpa using hm);exact this.symm
 ·have hS:=(B3.1 hv).resolve_right hm;rw[zz2 h2 (hs v hS),zz2 h1 hm];exact h v hS
theorem EqT.seto{to:TT}{S outs a b a2 b2:List Int}{y:Int}(h:EqT to S a b)(ho:outs.length<=1)(h1:setO outs a y a2)(h2:setO outs b y b2)(hs:∀v∈S,z10 to v∉outs)(hl:∀v∈outs,aGet v to=none):EqT to (S++outs) a2 b2:=by
 intro v hv
 by_cases hm:v∈outs
 ·have e:z10 to v=v:=by unfold z10;rw[hl v hm];rfl
  rw[e];have:=EqS.setO (S:=[]) (λ_ h=>by simp at h) ho h1 h2 v (by simpa using hm);exact this.symm
 ·have hS:=(B3.1 hv).resolve_right hm;rw[y6x h2 (hs v hS),y6x h1 hm];exact h v hS
structure New(f:Fl)(D all all':List Int)(to:TT):Prop where
 nd:D.Nodup
 fa:∀v∈D,all.contains v=false
 fb:∀v∈D,v∉all'
 ft:∀v∈D,aGet v to=none
 rel:Rel f.types to all all'
 inr:inR f.types.length all
theorem New.stv{f:Fl}{D all all':List Int}{to:TT}(h:New f D all all' to):∀v∈all,∀o∈D,z10 to v≠o:=λv hv o ho e=>by
 have h1:=(h.inr v hv);have h2:=(h.rel v (List.contains_iff_mem.2 hv) h1.1 h1.2).1;exact h.fb o ho (e▸List.contains_iff_mem.1 h2)
theorem New.na{f:Fl}{D all all':List Int}{to:TT}(h:New f D all all' to){v:Int}(hv:v∈D):v∉all:=λhm=>by
 have:=h.fa v hv;rw[List.contains_iff_mem.2 hm]at this
 cases this
theorem New.sub{f:Fl}{D D' all all':List Int}{to:TT}(h:New f D all all' to)(hn:D'.Nodup)(hs:∀v∈D',v∈D):New f D' all all' to :=
 ⟨hn,λv hv=>h.fa v (hs v hv),λv hv=>h.fb v (hs v hv),λv hv=>h.ft v (hs v hv),h.rel,h.inr⟩
theorem New.to{f:Fl}{D all all':List Int}{to to':TT}(h:New f D all all' to)(h1:∀v∈all,aGet v to'=aGet v to)(h2:∀v∈D,aGet v to'=aGet v to):New f D all all' to' :=
 ⟨h.nd,h.fa,h.fb,λv hv=>(h2 v hv).trans (h.ft v hv),h.rel.congr λv hv=>h1 v (List.contains_iff_mem.1 hv),h.inr⟩
theorem za9{to to':TT}{v:Int}(h:aGet v to'=aGet v to):z10 to' v=z10 to v:=by unfold z10;rw[h]
structure Ends(t0 to:TT)(S0 S1 all:List Int):Prop where
 s0:∀v∈S0,v∈all/\z10 to v=z10 t0 v
 s1:∀v∈S1,v∈all/\z10 to v=z10 t0 v
theorem Ends.step{t0 to to':TT}{S0 S1 all all2:List Int}(h:Ends t0 to S0 S1 all)(h1:∀v∈all,v∈all2)(h2:∀v∈all,aGet v to'=aGet v to):Ends t0 to' S0 S1 all2 :=
 ⟨λv hv=>⟨h1 v (h.s0 v hv).1,(za9 (h2 v (h.s0 v hv).1)).trans (h.s0 v hv).2⟩,λv hv=>⟨h1 v (h.s1 v hv).1,(za9 (h2 v (h.s1 v hv).1)).trans (h.s1 v hv).2⟩⟩
end Go.Proofs.YtjlaalpfpecikaaGreatDoor
