/- PART 2 of 3 of a proof: see the last part. -/
import Derived.Test.YtnpiekoeammkgaaOh1
set_option maxRecDepth 8000
set_option maxHeartbeats 2000000
set_option linter.unusedSimpArgs false
set_option linter.unusedVariables false
set_option linter.unusedSectionVars false
namespace Go.Proofs.Ytnpiekoeammkgaa
open Go
section
open Go Go.ChangeMaps
variable {P:Program} {c:Cx} {o:Oper} {fr:Fr} {σ:Heap'} {Q:Exit->Fr->Heap'->Prop} {ops:Array Oper}
def WLr (P:Program) (c:Cx) (ops:Array Oper) (l:List Oper) (fr:Fr) (σ:Heap') (fr1:Fr) (σ1:Heap'):Prop :=
  ∀ (rest:List Oper) (K:Exit->Act->World->Prop),(∀ ρ w a,All c ρ σ1 w fr1 a->wpList P ops K rest a w)->∀ ρ w a,All c ρ σ w fr a->wpList P ops K (l++rest) a w
theorem WLr.nil:WLr P c ops [] fr σ fr σ:=fun _ _ h ρ w a ha=>h ρ w a ha
theorem WLr.cons {x:IV} {σ' σ1:Heap'} {fr1:Fr} {l:List Oper} {d:Nat} (hg:o.guard=none) (hd:o.dst=some d) (hn:Nat.blt d c.n=true) (hok:Ok P c o fr σ x σ') (h:WLr P c ops l ((d,x)::fr) σ' fr1 σ1):WLr P c ops (o::l) fr σ fr1 σ1 :=
  fun rest Kt hr ρ w a ha=>wpList_plain hg fun K hK=>hok ρ w a K _ ha fun ρ' w' _ ha' hv=>hK _ _ (h rest Kt hr ρ' w' _ (by
    have:=ha'.put (d:=o.dst) hv (by rw [hd];intro t ht;cases ht;simpa using hn)
    rwa [hd] at this ⊢))
theorem z5g {w:World} {b0:Nat} {m:Option Nat} {s k:Nat} {seen:Array Nat} (h:w.heap[b0]? = some (.mapIter m s seen k)):∀ off sp,w.cell? ⟨b0,off,sp⟩=none:=by
  intro off sp
  simp [World.cell?,h]
theorem All.rawSet {ρ:Loc} {w:World} {a:Act} {b0:Nat} {ob:Obj} (h:All c ρ σ w fr a) (hnc:∀ off sp,w.cell? ⟨b0,off,sp⟩=none) (hge:c.w.heap.size<=b0) (hun:∀ j cc,ρ j≠some (b0,cc)) :
    All c ρ σ { w with heap:=w.heap.setIfInBounds b0 ob } fr a:=by
  have hoth:∀ b,b≠b0->(w.heap.setIfInBounds b0 ob)[b]? = w.heap[b]?:=fun b hb=>by simp [Ne.symm hb]
  have hP:∀ p v,RepP (owned c.F ρ) w p v->RepP (owned c.F ρ) { w with heap:=w.heap.setIfInBounds b0 ob } p v:=fun p v hp=>hp.keepIt sI0 hnc hoth
  refine ⟨⟨h.rel.inj,h.rel.apart,fun b hb=>by simpa using h.rel.old b hb,fun j b cc hj=>?_,h.rel.real⟩,fun t x hx=>?_,?_,h.df,h.sz,h.kk⟩
  · obtain ⟨o,h1,h2⟩:=h.rel.obj j b cc hj
    exact ⟨o,h1,h2.mapP (hoth b fun e=>hun j cc (e ▸ hj)) hP⟩
  · obtain ⟨v,hv,hr⟩:=h.fr t x hx
    exact ⟨v,hv,hr.mapP hP⟩
  · have t:=h.tr
    exact { t with
      size:=by simpa using t.size
      blk:=fun b hb hall=>(hoth b oM0).trans (t.blk b hb hall) }
theorem Trans.weakR {F R R':Nat->Prop} {ρ ρ':Loc} {σ':Heap'} {w w':World} (t:Trans F R' ρ σ w ρ' σ' w') (hR:∀ k,R k->R' k):Trans F R ρ σ w ρ' σ' w' :=
  { t with
    blk:=fun b hb h=>t.blk b hb fun k cc hk=>hR k (h k cc hk)
    own:=fun k b cc hk hb=>(t.own k b cc hk hb).elim .inl fun ⟨k0,c0,g,gn⟩=>.inr ⟨k0,c0,g,fun r=>gn (hR k0 r)⟩ }
theorem All.unbaseR {R':Nat->Prop} {ρ ρ':Loc} {σ':Heap'} {w w':World} {fr':Fr} {a a':Act} (h:All c ρ σ w fr a) (h':All ⟨c.F,R',ρ,σ,w,c.n⟩ ρ' σ' w' fr' a') (hR:∀ k,c.R k->R' k) (hc:∀ k,σ k=none->c.σ k=none):All c ρ' σ' w' fr' a' :=
  ⟨h'.rel,h'.fr,h.tr.trans (h'.tr.weakR hR) (fun _ h=>h) (fun k h1 _=>hc k h1),h'.df,h'.sz,h.kk⟩
theorem All.rebaseR {R':Nat->Prop} {ρ:Loc} {w:World} {a:Act} (h:All c ρ σ w fr a):All ⟨c.F,R',ρ,σ,w,c.n⟩ ρ σ w fr a:=⟨h.rel,h.fr,.refl _ _ _ _ _,h.df,h.sz,h.kept⟩
def lft (r:Array MapEntry) (es:List (Value × PV)) (seen:Array Nat):List (Value × PV):=((r.toList.zip es).filter fun p=>!seen.contains p.1.born).map (·.2)
theorem zd4 {r:Array MapEntry} {es:List (Value × PV)} (h:r.size=es.length):lft r es #[]=es:=by
  unfold lft
  rw [List.filter_eq_self.2 sI0]
  rw [List.map_snd_zip]
  simp [h]
theorem lft_end {r:Array MapEntry} {es:List (Value × PV)} {seen:Array Nat} (h:(leftOf r seen).size=0):lft r es seen=[]:=by
  unfold lft
  rw [List.map_eq_nil_iff,List.filter_eq_nil_iff]
  intro p hp hb
  have hm:=List.of_mem_zip hp
  have:p.1∈(leftOf r seen).toList:=by
    unfold leftOf
    rw [Array.toList_filter]
    exact List.mem_filter.2 ⟨hm.1,hb⟩
  have h0:(leftOf r seen).toList=[]:=by rw [<- List.length_eq_zero_iff];simpa using h
  rw [h0] at this
  cases this
theorem z21 {α:Type} {q q':α -> Bool} {x:α}:∀ {l:List α},x∈l->l.Nodup->q x=true->q' x=false->(∀ y∈l,y≠x->q' y=q y)->(l.filter q).Perm (x::l.filter q')
  | y::l,hx,hn,h1,h2,h3=>by
    obtain ⟨n1,n2⟩:=List.nodup_cons.1 hn
    by_cases e:y=x
    · subst e
      have:l.filter q'=l.filter q:=List.filter_congr fun z hz=>h3 z (.tail _ hz) fun e=>n1 (e ▸ hz)
      rw [List.filter_cons,if_pos h1,List.filter_cons,if_neg (by rw [h2];decide),this]
    · have hx':x∈l:=(List.mem_cons.1 hx).resolve_left fun c=>e c.symm
      have ih:=z21 hx' n2 h1 h2 fun z hz=>h3 z (.tail _ hz)
      have hy:=h3 y (.head _) e
      rw [List.filter_cons,List.filter_cons,hy]
      split
      · exact (List.Perm.cons y ih).trans (List.Perm.swap x y _)
      · exact ih
theorem lft_next {r:Array MapEntry} {es:List (Value × PV)} {seen:Array Nat} {m:MapEntry} (hs:r.size=es.length) (hm:m∈(leftOf r seen).toList) (hn:(r.toList.map (·.born)).Nodup) :
    ∃ (i:Nat) (e:Value × PV),r[i]? = some m/\es[i]? = some e/\(lft r es seen).Perm (e::lft r es (seen.push m.born)):=by
  unfold leftOf at hm
  rw [Array.toList_filter] at hm
  obtain ⟨hm1,hm2⟩:=List.mem_filter.1 hm
  obtain ⟨i,hi,rfl⟩:=List.getElem_of_mem hm1
  have hi2:i<es.length:=by rw [<- hs];simpa using hi
  have hz:(r.toList.zip es)[i]? = some (r.toList[i],es[i]):=by
    rw [List.getElem?_eq_getElem (by rw [List.length_zip];omega),List.getElem_zip]
  refine ⟨i,es[i],by rw [<- Array.getElem?_toList,List.getElem?_eq_getElem hi],List.getElem?_eq_getElem hi2,?_⟩
  unfold lft
  have hzn:(r.toList.zip es).Nodup:=by
    have h1:((r.toList.zip es).map (·.1.born)).Nodup:=by
      have:(r.toList.zip es).map (·.1.born)=r.toList.map (·.born):=by
        rw [show (fun p:MapEntry × Value × PV=>p.1.born)=(·.born) ∘ Prod.fst from rfl,<- List.map_map,List.map_fst_zip]
        simpa using Nat.le_of_eq hs
      rw [this];exact hn
    exact (List.pairwise_map.1 h1).imp fun h e=>h (by rw [e])
  refine ((z21 (q:=fun p:MapEntry × Value × PV=>!seen.contains p.1.born) (q':=fun p:MapEntry × Value × PV=>!(seen.push r.toList[i].born).contains p.1.born) (List.mem_of_getElem? hz) hzn hm2 sI0 fun p hp hne=>?_).map (·.2)).trans (List.Perm.refl _)
  obtain ⟨j,hj,hj2⟩:=List.getElem_of_mem hp
  have hj':=hj
  rw [List.length_zip] at hj'
  rw [List.getElem_zip] at hj2
  have hb:p.1.born≠r.toList[i].born:=fun e=>by
    rw [<- hj2] at e
    have e2:(r.toList.map (·.born))[j]'(by simp;simp at hj';omega)=(r.toList.map (·.born))[i]'(by simpa using hi):=by rw [List.getElem_map,List.getElem_map];exact e
    have:=(List.getElem_inj hn).1 e2
    subst this
    exact hne hj2.symm
  have hb':p.1.born≠r[i].born:=by simpa using hb
  simp [hb']
theorem tup3 {F:Nat->Prop} {ρ:Loc} {w:World} {p:PV} {b:Bool} {k v:Value} (h:RepP (owned F ρ) w p v):RepI F ρ σ w (.tup [iBool b,.pv (.val k),.pv p]) (.tuple #[.bool b,k,v]):=z5c (z0r _) (z0r _) (.pv _ _ h)
theorem tup2v {F:Nat->Prop} {ρ:Loc} {w:World} {p:PV} {k v:Value} (h:RepP (owned F ρ) w p v):RepI F ρ σ w (.tup [.pv (.val k),.pv p]) (.tuple #[k,v]) :=
  .tup _ _ (fun j=>if j=0 then k else v) rfl (fun j x hj=>by
    match j,hj with
    | 0,_=>rfl
    | 1,_=>rfl
    | j+2,hj=>simp at hj) fun j x hj=>by
    match j,hj with
    | 0,hj=>cases hj;exact z0r _
    | 1,hj=>cases hj;exact .pv _ _ h
    | j+2,hj=>simp at hj
theorem Tr.mapRange {id1 i2 i3 bid nid d1 e1 e2 e3:Nat} {ops1 ops2 ops3:Array Oper} {l1 more:List Oper} {g nx ex en:Oper} {x0:Operand} {ty kt et:TypeId} {body:Code} {k0:Nat} {es:List (Value × PV)} {fr1:Fr} {σ1:Heap'}
    (h1:ops1.toList=l1++[g]) (hpre:WLr P c ops1 l1 fr σ fr1 σ1)
    (hgo:g.op = .range ty x0) (hgd:g.dst=some d1) (hgg:g.guard=none) (hx0:fr1.ev x0=some (.mp k0)) (hty:P.underlying ty=some (.map kt et))
    (h2:ops2.toList=[nx,ex]) (hno:nx.op = .next (.tmp d1) false) (hnd:nx.dst=some e1) (hng:nx.guard=none) (heo:ex.op = .extract (.tmp e1) 0) (hed:ex.dst=some e2) (heg:ex.guard=none)
    (h3:ops3.toList=en::more) (hen:en.op = .entry (.tmp d1)) (hend:en.dst=some e3) (heng:en.guard=none)
    (hb1:Nat.blt d1 c.n=true) (hb2:Nat.blt e1 c.n=true) (hb3:Nat.blt e2 c.n=true) (hb4:Nat.blt e3 c.n=true) (hne1:Nat.beq e1 d1=false) (hne2:Nat.beq e2 d1=false)
    (hσ1:σ1 k0=some (.map es))
    (I:List (Value × PV)->Fr->Heap'->Prop) (h0:∃ fr0,Sub σ1 fr1 fr0/\I [] fr0 σ1)
    (hI:∀ ds fr' σ',I ds fr' σ' -> σ' k0=some (.map es)/\∀ k,σ' k=none->c.σ k=none)
    (hdone:∀ b0 ds fr' σ',ds.Perm es->I ds fr' σ'->Q .normal ((e2,iBool false)::(e1,.tup [iBool false])::(d1,itv b0)::fr') σ')
    (round:∀ ρ2 σ2 w2 b0 ds e fr',(∃ r,(ds++e::r).Perm es)->I ds fr' σ2 ->
      WL P ⟨c.F,fun k=>c.R k∨k=k0,ρ2,σ2,w2,c.n⟩ ops3 (zg6 P ⟨c.F,fun k=>c.R k∨k=k0,ρ2,σ2,w2,c.n⟩ body (z37 nid (fun ex fr3 σ3=>match ex with
        | .normal=>∃ fr'',Sub σ3 fr3 ((d1,itv b0)::fr'')/\I (ds++[e]) fr'' σ3
        | .exit _=>False
        | x=>Q x fr3 σ3))) more
        ((e3,.tup [.pv (.val e.1),.pv e.2])::(e2,iBool true)::(e1,.tup [iBool true,.pv (.val e.1),.pv e.2])::(d1,itv b0)::fr') σ2) :
    Tr P c (.seq (.region id1 ops1 false) (.block bid (.loop (.seq (.region i2 ops2 false) (.seq (.cond (.tmp e2) .skip (.exit bid)) (.block nid (.seq (.region i3 ops3 false) body))))))) fr σ Q:=by
  obtain ⟨fr0,hs0,hI0⟩:=h0
  intro ρ0 w0 a0 ha0
  refine wp_seq (wp_region_list ?_)
  rw [h1]
  refine hpre [g] _ (fun ρ w a ha=>?_) ρ0 w0 a0 ha0
  clear ha0 ρ0 w0 a0
  refine wpList_plain hgg fun K2 hK2=>?_
  have hmp:=ha.ev hx0
  generalize hev:a.eval x0=v0 at hmp
  have hbm:∃ bm cc,ρ k0=some (bm,cc)/\v0 = .map (some bm):=by
    cases hmp with
    | mp _ _ h=>exact h es hσ1
  obtain ⟨bm,cc,hρ,rfl⟩:=hbm
  obtain ⟨o1,q1,q2⟩:=ha.rel.obj k0 bm cc hρ
  rw [hσ1] at q1
  cases q1
  obtain ⟨r,clock,u,hmap,hsz,hkeys,hvals⟩:=q2.inv_map
  have hst:=q2.stamped hmap
  have hrun:(execOp a.eval g).run P w = .ok (.value (.pointer (some ⟨w.heap.size,0,none⟩))) (w.alloc (.mapIter (some bm) clock #[] clock)):=by
    simp [execOp,hgo,hev,Sem.run_bind,run_range_map w ty kt et bm r clock hty hmap]
  unfold Oper.wp
  rw [hrun,Oper.upon_value]
  refine hK2 _ _ ?_
  obtain ⟨ha3,_⟩:=ha.push (.mapIter (some bm) clock #[] clock)
  have hfresh:=ha.fresh
  have ha4:All c ρ σ1 (w.alloc (.mapIter (some bm) clock #[] clock)) ((d1,itv w.heap.size)::fr1) (a.put g.dst (.pointer (some ⟨w.heap.size,0,none⟩))):=by
    have:=ha3.put (d:=g.dst) (z0r (.pointer (some ⟨w.heap.size,0,none⟩))) (by rw [hgd];intro t ht;cases ht;simpa using hb1)
    rwa [hgd] at this ⊢
  have hge:c.w.heap.size<=w.heap.size:=ha.tr.size
  have hbmlt:bm<w.heap.size:=ha.rel.lt hρ
  have hit0:(w.alloc (.mapIter (some bm) clock #[] clock)).heap[w.heap.size]? = some (.mapIter (some bm) clock #[] clock):=heap_alloc_new w _
  have hmap0:(w.alloc (.mapIter (some bm) clock #[] clock)).heap[bm]? = some (.map r clock):=(Go.RowKit.Below.heap_alloc w _ bm hbmlt).trans hmap
  have hun0:∀ j cc,ρ j≠some (w.heap.size,cc):=fun j cc hj=>hfresh (.inr ⟨j,cc,hj⟩)
  generalize a.put g.dst (.pointer (some ⟨w.heap.size,0,none⟩))=a4 at ha4 ⊢
  generalize w.alloc (.mapIter (some bm) clock #[] clock)=w4 at ha4 hit0 hmap0 ⊢
  generalize w.heap.size=b0 at hge hbmlt hit0 hun0 ha4 ⊢
  show (Code.block _ _).wp P _ a4 w4
  refine wp_block ?_
  refine wp_loop (fun a' w'=>∃ ds seen c0 ρ' σ' fr',All c ρ' σ' w' ((d1,itv b0)::fr') a'/\I ds fr' σ'/\w'.heap[b0]? = some (.mapIter (some bm) clock seen c0)/\clock<=c0/\w'.heap[bm]? = some (.map r clock) /\ ρ' k0=some (bm,cc)/\(∀ j cc,ρ' j≠some (b0,cc))/\(ds++lft r es seen).Perm es)
    (fun _ w'=>match w'.heap[b0]? with | some (.mapIter _ _ seen _)=>(lft r es seen).length | _=>0)
    ⟨[],#[],clock,ρ,σ1,fr0,ha4.sub hs0.cons,hI0,hit0,Nat.le_refl _,hmap0,hρ,hun0,by rw [zd4 hsz];exact List.Perm.refl _⟩ ?_
  rintro a5 w5 ⟨ds,seen,c0,ρ5,σ5,fr',ha5,hI5,hit,hc0,hmap5,hρ5,hun,hperm⟩
  obtain ⟨hk5,hc5⟩:=hI _ _ _ hI5
  refine wp_seq (wp_region_list ?_)
  rw [h2]
  have hevp:a5.eval (.tmp d1) = .pointer (some ⟨b0,0,none⟩):=z03 ha5 (show Fr.ev ((d1,itv b0)::fr') (.tmp d1)=_ by simp [Fr.ev,Fr.get])
  have hlt0:b0<w5.heap.size:=(Array.getElem?_eq_some_iff.1 hit).1
  have hlt5:bm<w5.heap.size:=(Array.getElem?_eq_some_iff.1 hmap5).1
  have hbne:bm≠b0:=fun e=>by rw [e,hit] at hmap5;cases hmap5
  rcases run_next_at (P:=P) w5 nx.type b0 bm clock c0 seen r clock hit hmap5 hst.1 hc0 with ⟨hz,hnext⟩ | ⟨m,hm,w6,hw6,hnext⟩
  · have hrun5:(execOp a5.eval nx).run P w5 = .ok (.value (.tuple #[.bool false])) w5:=by
      simp [execOp,hno,hevp,hnext,Sem.run_bind,Result.andThen]
    refine wpList_plain hng fun K3 hK3=>?_
    unfold Oper.wp
    rw [hrun5,Oper.upon_value]
    refine hK3 _ _ ?_
    have htup:RepI c.F ρ5 σ5 w5 (.tup [iBool false]) (.tuple #[.bool false]):=.tup _ _ (fun _=>.bool false) rfl (fun j x hj=>by
      match j,hj with
      | 0,_=>rfl
      | j+1,hj=>simp at hj) fun j x hj=>by
      match j,hj with
      | 0,hj=>cases hj;exact z0r _
      | j+1,hj=>simp at hj
    have ha7:All c ρ5 σ5 w5 ((e1,.tup [iBool false])::(d1,itv b0)::fr') (a5.put nx.dst (.tuple #[.bool false])):=by
      have:=ha5.put (d:=nx.dst) htup (by rw [hnd];intro t ht;cases ht;simpa using hb2)
      rwa [hnd] at this ⊢
    generalize a5.put nx.dst (.tuple #[.bool false])=a7 at ha7 ⊢
    refine wpList_plain heg fun K4 hK4=>?_
    obtain ⟨v8,hr8,hv8⟩:=(z3r (R1:=fun _=>True) (vs:=[iBool false]) (z:=iBool false) heo (show Fr.ev ((e1,_)::_) (.tmp e1)=_ by simp [Fr.ev,Fr.get]) rfl) ρ5 w5 a7 ha7
    unfold Oper.wp
    rw [hr8 w5 (.refl _ _ _ _),Oper.upon_value]
    refine hK4 _ _ ?_
    have ha8:All c ρ5 σ5 w5 ((e2,iBool false)::(e1,.tup [iBool false])::(d1,itv b0)::fr') (a7.put ex.dst v8):=by
      have:=ha7.put (d:=ex.dst) hv8 (by rw [hed];intro t ht;cases ht;simpa using hb3)
      rwa [hed] at this ⊢
    generalize a7.put ex.dst v8=a8 at ha8 ⊢
    show (Code.seq _ _).wp P _ a8 w5
    refine wp_seq ?_
    refine wp_cond (t:=false) (z03 ha8 (show Fr.ev ((e2,iBool false)::_) (.tmp e2)=_ by simp [Fr.ev,Fr.get])) ?_
    rw [if_neg sI0]
    refine wp_exit ?_
    show (if bid=bid then _ else _)
    rw [if_pos rfl]
    rw [lft_end hz,List.append_nil] at hperm
    exact ⟨ρ5,σ5,_,ha8,hdone b0 ds fr' σ5 hperm hI5⟩
  · obtain ⟨i,e,hri,hei,hpe⟩:=lft_next hsz hm hst.2.1
    obtain ⟨m',hm1,hmk,hmv⟩:=hkeys i e.1 e.2 hei
    obtain rfl:m=m':=Option.some.inj (hri.symm.trans hm1)
    have hrun5:(execOp a5.eval nx).run P w5 = .ok (.value (.tuple #[.bool true,m.key,m.val])) (setBlock w6 b0 (.mapIter (some bm) clock (seen.push m.born) clock)):=by
      simp [execOp,hno,hevp,hnext,Sem.run_bind,Result.andThen]
    have ha6:All c ρ5 σ5 w6 ((d1,itv b0)::fr') a5/\w6.heap=w5.heap:=by
      rcases hw6 with rfl | rfl
      · exact ⟨ha5,rfl⟩
      · exact ⟨ha5.drew,rfl⟩
    obtain ⟨ha6,hheap⟩:=ha6
    have hit6:w6.heap[b0]? = some (.mapIter (some bm) clock seen c0):=by rw [hheap];exact hit
    have ha6:=ha6.rawSet (ob:=.mapIter (some bm) clock (seen.push m.born) clock) (z5g hit6) hge hun
    have hit7:(setBlock w6 b0 (.mapIter (some bm) clock (seen.push m.born) clock)).heap[b0]? = some (.mapIter (some bm) clock (seen.push m.born) clock):=by simp [setBlock,hheap,hlt0]
    have hmap7:(setBlock w6 b0 (.mapIter (some bm) clock (seen.push m.born) clock)).heap[bm]? = some (.map r clock):=by simp [setBlock,hheap,Ne.symm hbne,hmap5]
    have ha6:All c ρ5 σ5 (setBlock w6 b0 (.mapIter (some bm) clock (seen.push m.born) clock)) ((d1,itv b0)::fr') a5:=ha6
    generalize setBlock w6 b0 (.mapIter (some bm) clock (seen.push m.born) clock)=w7 at ha6 hrun5 hit7 hmap7
    have hval:RepP (owned c.F ρ5) w7 e.2 m.val:=by
      obtain ⟨o1,q1,q2⟩:=ha6.rel.obj k0 bm cc hρ5
      rw [hk5] at q1
      cases q1
      obtain ⟨r',clock',u',g1,g2,g3,g4⟩:=q2.inv_map
      rw [hmap7] at g1
      cases g1
      obtain ⟨m',k1,k2,k3⟩:=g3 i e.1 e.2 hei
      rw [hm1] at k1
      cases k1
      rw [k3]
      exact g4 i e.1 e.2 hei
    refine wpList_plain hng fun K3 hK3=>?_
    unfold Oper.wp
    rw [hrun5,Oper.upon_value]
    refine hK3 _ _ ?_
    have ha7:All c ρ5 σ5 w7 ((e1,.tup [iBool true,.pv (.val e.1),.pv e.2])::(d1,itv b0)::fr') (a5.put nx.dst (.tuple #[.bool true,m.key,m.val])):=by
      have:=ha6.put (d:=nx.dst) (hmk ▸ tup3 (b:=true) hval:RepI c.F ρ5 σ5 w7 (.tup [iBool true,.pv (.val e.1),.pv e.2]) (.tuple #[.bool true,m.key,m.val])) (by rw [hnd];intro t ht;cases ht;simpa using hb2)
      rwa [hnd] at this ⊢
    generalize a5.put nx.dst (.tuple #[.bool true,m.key,m.val])=a7 at ha7 ⊢
    refine wpList_plain heg fun K4 hK4=>?_
    obtain ⟨v8,hr8,hv8⟩:=(z3r (R1:=fun _=>True) (vs:=[iBool true,.pv (.val e.1),.pv e.2]) (z:=iBool true) heo (show Fr.ev ((e1,_)::_) (.tmp e1)=_ by simp [Fr.ev,Fr.get]) rfl) ρ5 w7 a7 ha7
    unfold Oper.wp
    rw [hr8 w7 (.refl _ _ _ _),Oper.upon_value]
    refine hK4 _ _ ?_
    have ha8:All c ρ5 σ5 w7 ((e2,iBool true)::(e1,.tup [iBool true,.pv (.val e.1),.pv e.2])::(d1,itv b0)::fr') (a7.put ex.dst v8):=by
      have:=ha7.put (d:=ex.dst) hv8 (by rw [hed];intro t ht;cases ht;simpa using hb3)
      rwa [hed] at this ⊢
    generalize a7.put ex.dst v8=a8 at ha8 ⊢
    show (Code.seq _ _).wp P _ a8 w7
    refine wp_seq ?_
    refine wp_cond (t:=true) (z03 ha8 (show Fr.ev ((e2,iBool true)::_) (.tmp e2)=_ by simp [Fr.ev,Fr.get])) ?_
    rw [if_pos rfl]
    refine wp_skip ?_
    show (Code.block _ _).wp P _ a8 w7
    have hp2:(ds++e::lft r es (seen.push m.born)).Perm es:=(List.Perm.append_left ds hpe.symm).trans hperm
    have hevp8:a8.eval (.tmp d1) = .pointer (some ⟨b0,0,none⟩):=z03 ha8 (show Fr.ev ((e2,_)::(e1,_)::(d1,itv b0)::fr') (.tmp d1)=_ by simp [Fr.ev,Fr.get,hne1,hne2])
    have hrun8:(execOp a8.eval en).run P w7 = .ok (.value (.tuple #[m.key,m.val])) w7:=by
      have:=run_entry_at (P:=P) w7 b0 bm clock seen r clock m hit7 hmap7 (by rw [<- Array.getElem?_toList] at hri;exact List.mem_of_getElem? hri) hst.2.1
      simp [execOp,hen,hevp8,this,Sem.run_bind,Result.andThen]
    have ha9:All c ρ5 σ5 w7 ((e3,.tup [.pv (.val e.1),.pv e.2])::(e2,iBool true)::(e1,.tup [iBool true,.pv (.val e.1),.pv e.2])::(d1,itv b0)::fr') (a8.put en.dst (.tuple #[m.key,m.val])):=by
      have:=ha8.put (d:=en.dst) (hmk ▸ tup2v hval:RepI c.F ρ5 σ5 w7 (.tup [.pv (.val e.1),.pv e.2]) (.tuple #[m.key,m.val])) (by rw [hend];intro t ht;cases ht;simpa using hb4)
      rwa [hend] at this ⊢
    have hR:=round ρ5 σ5 w7 b0 ds e fr' ⟨_,hp2⟩ hI5 ρ5 w7 _ ha9.rebaseR
    have hlt7:b0<w7.heap.size:=(Array.getElem?_eq_some_iff.1 hit7).1
    have hltm:bm<w7.heap.size:=(Array.getElem?_eq_some_iff.1 hmap7).1
    have hReg:(Code.region i3 ops3 false).wp P (fun ex a w=>∃ ρ' σ' fr3,All ⟨c.F,fun k=>c.R k∨k=k0,ρ5,σ5,w7,c.n⟩ ρ' σ' w fr3 a/\zg6 P ⟨c.F,fun k=>c.R k∨k=k0,ρ5,σ5,w7,c.n⟩ body (z37 nid (fun ex fr3 σ3=>match ex with
        | .normal=>∃ fr'',Sub σ3 fr3 ((d1,itv b0)::fr'')/\I (ds++[e]) fr'' σ3
        | .exit _=>False
        | x=>Q x fr3 σ3)) ex fr3 σ') a8 w7:=by
      refine wp_region_list ?_
      rw [h3]
      refine wpList_plain heng fun K5 hK5=>?_
      unfold Oper.wp
      rw [hrun8,Oper.upon_value]
      exact hK5 _ _ hR
    have hSeq:(Code.seq (.region i3 ops3 false) body).wp P (fun ex a w=>∃ ρ' σ' fr3,All ⟨c.F,fun k=>c.R k∨k=k0,ρ5,σ5,w7,c.n⟩ ρ' σ' w fr3 a/\z37 nid (fun ex fr3 σ3=>match ex with
        | .normal=>∃ fr'',Sub σ3 fr3 ((d1,itv b0)::fr'')/\I (ds++[e]) fr'' σ3
        | .exit _=>False
        | x=>Q x fr3 σ3) ex fr3 σ') a8 w7 :=
      wp_seq (wp_mono hReg fun ex a w ⟨ρ',σ',fr3,hA,hq⟩=>by
        cases ex<;>first | exact hq ρ' w a hA | exact ⟨ρ',σ',fr3,hA,hq⟩)
    have hBlk:(Code.block nid (.seq (.region i3 ops3 false) body)).wp P (fun ex a w=>∃ ρ' σ' fr3,All ⟨c.F,fun k=>c.R k∨k=k0,ρ5,σ5,w7,c.n⟩ ρ' σ' w fr3 a/\(match ex with
        | .normal=>∃ fr'',Sub σ' fr3 ((d1,itv b0)::fr'')/\I (ds++[e]) fr'' σ'
        | .exit _=>False
        | x=>Q x fr3 σ')) a8 w7 :=
      wp_block (wp_mono hSeq fun ex a w ⟨ρ',σ',fr3,hA,hq⟩=>by
        cases ex with
        | exit id' =>
          simp only [z37] at hq
          show if id'=nid then _ else _
          by_cases ee:id'=nid
          · rw [if_pos ee]
            rw [ee,show Nat.beq nid nid=true by simp] at hq
            exact ⟨ρ',σ',fr3,hA,hq⟩
          · rw [z1m ee] at hq
            exact hq.elim
        | _=>exact ⟨ρ',σ',fr3,hA,hq⟩)
    refine wp_mono hBlk ?_
    rintro ex a10 w10 ⟨ρ9,σ9,fr9,hA,hq⟩
    have hback:=ha9.unbaseR hA (fun k h=>.inl h) hc5
    cases ex with
    | normal =>
      obtain ⟨fr2,hsub,hI2⟩:=hq
      obtain ⟨hk9,_⟩:=hI _ _ _ hI2
      have hρ9:ρ9 k0=some (bm,cc):=(hA.tr.map k0 es es hk5 hk9).trans hρ5
      have hit9:w10.heap[b0]? = some (.mapIter (some bm) clock (seen.push m.born) clock):=(hA.tr.blk b0 hlt7 fun j cc hj=>absurd hj (hun j cc)).trans hit7
      have hmap9:w10.heap[bm]? = some (.map r clock):=(hA.tr.blk bm hltm fun j cc' hj=>.inr (ha9.rel.inj j k0 bm cc' cc hj hρ5)).trans hmap7
      have hun9:∀ j cc,ρ9 j≠some (b0,cc):=fun j cc hj=>by
        rcases hA.tr.own j b0 cc hj hlt7 with g | ⟨k1,c1,g,_⟩
        · exact hun j cc g
        · exact hun k1 c1 g
      refine ⟨⟨ds++[e],seen.push m.born,clock,ρ9,σ9,fr2,hback.sub hsub,hI2,hit9,Nat.le_refl _,hmap9,hρ9,hun9,by rw [List.append_assoc];exact hp2⟩,?_⟩
      simp only [hit9,hit]
      have:=hpe.length_eq
      rw [List.length_cons] at this
      omega
    | exit id=>exact hq.elim
    | _=>exact ⟨ρ9,σ9,fr9,hback,hq⟩
def mdel (k:Value):List (Value × PV)->List (Value × PV)
  | []=>[]
  | (a,p)::r=>if keyB k a then r else (a,p)::mdel k r
theorem z97 {k:Value}:∀ {es:List (Value × PV)} {j:Nat},(∀ v,mput k v es=es.set j (k,v))->j<es.length->mdel k es=es.eraseIdx j
  | [],j,_,h=>absurd h (Nat.not_lt_zero _)
  | (a,p)::r,j,h,hj=>by
    have two:∀ {q:PV},¬ ∀ v:PV,(k,v)=(a,q):=fun h=>by
      have h1:=h (.val (.bool true))
      have h2:=h (.val (.bool false))
      have:=h1.trans h2.symm
      cases this
    unfold mdel
    cases hb:keyB k a with
    | true =>
      rw [if_pos rfl]
      cases j with
      | zero=>rfl
      | succ j =>
        refine (two (q:=p) fun v=>?_).elim
        have:=h v
        simp only [mput,hb,if_true,List.set_cons_succ,List.cons.injEq] at this
        exact this.1
    | false =>
      rw [if_neg dC0]
      cases j with
      | zero =>
        refine (two (q:=p) fun v=>?_).elim
        have:=h v
        simp only [mput,hb,Bool.false_eq_true,if_false,List.set_cons_zero,List.cons.injEq] at this
        exact this.1.symm
      | succ j =>
        rw [List.eraseIdx_cons_succ]
        congr 1
        refine z97 (fun v=>?_) (by simpa using hj)
        have:=h v
        simp only [mput,hb,Bool.false_eq_true,if_false,List.set_cons_succ,List.cons.injEq] at this
        exact this.2
theorem z77 {k:Value}:∀ {es:List (Value × PV)},z20 k es=none->mdel k es=es
  | [],_=>rfl
  | (a,p)::r,h=>by
    unfold z20 at h
    unfold mdel
    cases hb:keyB k a with
    | true=>rw [hb] at h;cases h
    | false =>
      rw [hb] at h
      rw [if_neg dC0,z77 h]
variable {hp:Hp}
theorem z7e {t kt et:TypeId} {d:TypeDesc} {x y:Operand} {k:Nat} {es:List (Value × PV)} {kv:Value} (ho:o.op = .call { callee:=.builtin .delete,args:=#[x,y],argTypes:=#[t,kt] }) (hx:fr.ev x=some (.mp k)) (hy:fr.ev y=some (.pv (.val kv))) (hk:look hp k=some (.map es))
    (hR:¬ c.R k) (hu:P.underlying t=some (.map kt et)) (hd:P.underlying kt=some d) (hkv:z0l d kv=true) (hes:∀ e∈es,z0l d e.1=true):Ok P c o fr (look hp) (.tup []) (look ((k,some (.map (mdel kv es)))::hp)):=by
  intro ρ w a K Q ha hK
  obtain ⟨b,cc,r,ck,u,hv,hρ,h3,h4,h5,h6⟩:=ha.mapAt hx hk
  have hst:=ha.stamped hρ hk h3
  have hset:∀ o',(setObj b o').run P w = .ok () { w with heap:=w.heap.setIfInBounds b o' }:=fun o'=>MapKept.run_setObj_map o' h3
  have hb:b<w.heap.size:=(Array.getElem?_eq_some_iff.1 h3).1
  have hkey:=fun em=>MapKept.run_checkKey (w:=w) hd (z12 hkv) em 9999
  have hall:∃ r',(execOp a.eval o).run P w = .ok (.value (.tuple #[])) { w with heap:=w.heap.setIfInBounds b (.map r' ck) }/\MapKept.Stamped r' ck/\r'.size=(mdel kv es).length/\∃ u':Nat->Value,(∀ i k p,(mdel kv es)[i]? = some (k,p)->∃ m:MapEntry,r'[i]? = some m/\m.key=k/\m.val=u' i)/\∀ i k p,(mdel kv es)[i]? = some (k,p)->RepP (owned c.F ρ) w p (u' i):=by
    rcases z39 hkv es r.toList 0 (by simpa using h4) hes (fun j a p hj=>by obtain ⟨m,hm,e,_⟩:=h5 j a p hj;exact ⟨m,by simpa using hm,e⟩) with ⟨h1,h2,h7,h9⟩ | ⟨j,m,q,h1,h2,h3',h4',h5',h7⟩
    · have hfind:=MapKept.run_findKey (P:=P) (w:=w) (kt:=kt) hd h1
      rw [z77 h2]
      exact ⟨r,by simp [execOp,ho,hv,z03 ha hy,resolve,Sem.run_bind,invoke,builtin,Builtin.delete_,run_underlying hu,MapKept.run_getObj_map h3,hkey,hfind,hset,Result.andThen],hst,h4,u,h5,h6⟩
    · have hfind:=MapKept.run_findKey (P:=P) (w:=w) (kt:=kt) hd h1
      have hj:j<es.length:=(List.getElem?_eq_some_iff.1 h4').1
      rw [z97 h7 hj]
      have hjr:j<r.size:=by omega
      have hlen:(es.eraseIdx j).length=es.length - 1:=List.length_eraseIdx_of_lt hj
      refine ⟨r.eraseIdxIfInBounds j,by simp [execOp,ho,hv,z03 ha hy,resolve,Sem.run_bind,invoke,builtin,Builtin.delete_,run_underlying hu,MapKept.run_getObj_map h3,hkey,hfind,hset,Result.andThen],MapKept.stamped_erase hst j,?_,fun i=>if i<j then u i else u (i+1),fun i k' p' hi=>?_,fun i k' p' hi=>?_⟩
      · rw [hlen,Array.eraseIdxIfInBounds,dif_pos hjr,Array.size_eraseIdx];omega
      · rw [List.getElem?_eraseIdx] at hi
        have he:∀ i:Nat,(r.eraseIdxIfInBounds j)[i]? = if i<j then r[i]? else r[i+1]?:=fun i=>by
          rw [Array.eraseIdxIfInBounds,dif_pos hjr,<- Array.getElem?_toList,Array.toList_eraseIdx,List.getElem?_eraseIdx,Array.getElem?_toList,Array.getElem?_toList]
        rw [he]
        split at hi
        · rename_i c;rw [if_pos c];obtain ⟨m,e1,e2,e3⟩:=h5 _ _ _ hi;exact ⟨m,e1,e2,by simp only [c,if_true];exact e3⟩
        · rename_i c;rw [if_neg c];obtain ⟨m,e1,e2,e3⟩:=h5 _ _ _ hi;exact ⟨m,e1,e2,by simp only [c,if_false];exact e3⟩
      · rw [List.getElem?_eraseIdx] at hi
        split at hi
        · rename_i c;simp only [c,if_true];exact h6 _ _ _ hi
        · rename_i c;simp only [c,if_false];exact h6 _ _ _ hi
  obtain ⟨r',hrun,hs',hz',u',hu1,hu2⟩:=hall
  unfold Oper.wp
  rw [hrun,Oper.upon_value]
  refine hK ρ _ _ (ha.write hρ hk trivial hR rfl rfl rfl sI0 (fun j hj=>by simp [Ne.symm hj]) fun keep keepP=>?_) (.tup _ _ (fun _=>.bool false) rfl (fun j x hj=>by simp at hj) fun j x hj=>by simp at hj)
  exact .map _ r' ck u' (by simp [hb]) hz' hu1 (fun i k p hi=>keepP _ _ (hu2 i k p hi)) hs'
end
section
variable {P:Program} {c:Cx} {R1:Nat->Prop} {o:Oper} {fr:Fr} {σ:Heap'}
def z67 (ns:List Int):ByteArray:=ns.foldl (fun r n=>r.push (UInt8.ofNat n.toNat)) ByteArray.empty
def z4g:List (List PV)->Option (List Int)
  | []=>some []
  | [.val (.int .u8 n)]::r=>match z4g r with
    | some l=>some (n::l)
    | none=>none
  | _=>none
theorem z9l:∀ {els:List (List PV)} {ns:List Int},z4g els=some ns->els=ns.map fun n=>[.val (.int .u8 n)]:=by
  intro els
  induction els with
  | nil=>intro ns h;cases h;rfl
  | cons x r ih =>
    intro ns h
    unfold z4g at h
    split at h
    · rename_i h1;cases h1
    · rename_i n r' h1
      cases h1
      split at h
      · rename_i l hl
        cases h
        rw [ih hl];rfl
      · cases h
    · cases h
theorem z8m {s t e:TypeId} {x:Operand} {els:List (List PV)} {ns:List Int} (ho:o.op = .convert s t x) (hx:fr.ev x=some (.pv (.seq els))) (hn:z4g els=some ns)
    (hs:P.underlying s=some (.slice e)) (he:P.underlying e=some (.int .u8)) (hd:P.underlying t=some .string):OkV P c R1 o fr σ (.pv (.val (.string (z67 ns)))):=by
  have hels:=z9l hn
  refine fun ρ w a h=>?_
  have hr:=(h.ev hx).inv_seq
  generalize hv:a.eval x=v at hr
  cases hr with
  | seq _ ad cap b off u ha hb hl hm hc hrp =>
    refine ⟨.string (z67 ns),fun w2 h2=>?_,z0r _⟩
    have hlen:els.length=(ns.map (Value.int .u8)).length:=by rw [hels];simp
    simp only [execOp,ho,hv,Sem.run_bind]
    rw [run_convert_bytes_string w2 s t e ad els.length cap hs he hd]
    cases ad with
    | none =>
      have h0:els=[]:=Classical.byContradiction fun hne=>by cases ha hne
      have hn0:ns=[]:=by rw [h0] at hels;cases ns with | nil=>rfl | cons _ _=>cases hels
      subst hn0
      rfl
    | some ad =>
      have hload:(loadCells ad els.length).run P w2 = .ok (ns.map (Value.int .u8)).toArray w2:=by
        rw [hlen]
        refine run_loadCells_list w2 ad _ fun j v hj=>?_
        rw [List.getElem?_map] at hj
        obtain ⟨n,hn1,rfl⟩:=Option.map_eq_some_iff.1 hj
        have hej:els[j]? = some [.val (.int .u8 n)]:=by rw [hels,List.getElem?_map,hn1];rfl
        have hne:els≠[]:=fun e=>by rw [e] at hej;cases hej
        have hc2:=hc j _ hej 0 _ rfl
        have hr2:=hrp j _ hej 0 _ rfl
        have hu:u j 0 = .int .u8 n:=by
          generalize u j 0=q at hr2
          cases hr2
          rfl
        rw [hu] at hc2
        cases ha hne
        have hcell:=(World.cell?_of_block (a:=⟨b,off+j*1+0,none⟩) (h2 b (hb hne).2 (.inl (hb hne).1))).trans hc2
        rw [show (⟨b,off,none⟩:Addr).add j=⟨b,off+j,none⟩ by cases j<;>simp [Addr.add]]
        simpa using hcell
      rw [run_bytesToString w2 ad els.length cap ns hload]
      rfl
end
structure Wh where
  If:Bool
  Loop:Bool
  Yield:List Int
  Next:List Int
  Left:List Int
structure Rl (n:Nat) (st:List Int) (set:List Bool) (seen:List Int):Prop where
  l1:st.length=n
  l2:set.length=n
  s:∀ v:Nat,v<n->set.getD v false = !(st.getD v 0==0)
  u:∀ v:Nat,v<n->seen.contains (v:Int)=(st.getD v 0==1)
def vKey (v:Int):Value:=.int .i64 v
structure SForm where
  b:Bool
  want:Option (List Int)
section
section
variable {α β:Type} [DecidableEq α]
end
structure Ky where
  kind:Int
  op:Int
  n:Int
  a:Int
  b:Int
  deriving DecidableEq
abbrev TT:=List (Int × Int)
structure Tb where
  seen:List (Ky × Int)
  nums:TT
end
section
variable {P:Program} {c:Cx} {R1:Nat->Prop} {o:Oper} {fr:Fr} {hp:Hp} {σ:Heap'} {Q:Exit->Fr->Heap'->Prop}
theorem Names.one {Q:Nat->Prop} {x:IV} (h:Names Q x):∃ k,Q k/\Names (· = k) x:=by
  induction h with
  | ptr h=>exact ⟨_,h,.ptr rfl⟩
  | sl h=>exact ⟨_,h,.sl rfl⟩
  | rpt h=>exact ⟨_,h,.rpt rfl⟩
  | sp h=>exact ⟨_,h,.sp rfl⟩
  | bs h=>exact ⟨_,h,.bs rfl⟩
  | mp h=>exact ⟨_,h,.mp rfl⟩
  | tnil h=>exact ⟨_,h,.tnil rfl⟩
  | agg hc _ ih=>obtain ⟨k,h1,h2⟩:=ih;exact ⟨k,h1,.agg hc h2⟩
  | tup hc _ ih=>obtain ⟨k,h1,h2⟩:=ih;exact ⟨k,h1,.tup hc h2⟩
  | fn1 hc _ ih=>obtain ⟨k,h1,h2⟩:=ih;exact ⟨k,h1,.fn1 hc h2⟩
  | fn2 hc _ ih=>obtain ⟨k,h1,h2⟩:=ih;exact ⟨k,h1,.fn2 hc h2⟩
open Classical in
theorem SC.stepN {ns:List Nat} {f:FuncId} {args:List IV} {pre post:List (Nat × HO)} {R:Nat->Prop} {r:IV} {hp:Hp} {ρ:Loc} {w:World} {a:Act} {vs:List Value} (hsc:SC P f args pre R r post)
    (h:All c ρ (look hp) w fr a) (hargs:RepL c.F ρ (look hp) w args vs) (hpre:∀ k o,look (up pre) k=some o->look hp k=some o) (hdom:post.map (·.1)=ns++pre.map (·.1)) (hσ0:∀ k∈ns,look hp k=none) (hc0:∀ k∈ns,c.σ k=none) (hfr0:∀ k∈ns,nmFr k fr=false) (hhp0:∀ k∈ns,nmHp k hp=false)
    (hR:∀ k,c.R k->look (up pre) k=none∨R k) (hr:only (post.map (·.1)) r=true) (hpost:z2f (post.map (·.1)) post=true) :
    Calls P f vs.toArray w fun e w'=>∃ ρ' v,e = .returned v/\All c ρ' (look (up post++hp)) w' fr a/\RepI c.F ρ' (look (up post++hp)) w' r v:=by
  have hd:∀ k,look (up post) k=none↔look (up pre) k=none/\k∉ns:=fun k=>by
    rw [z0n,z0n,hdom,List.mem_append,not_or]
    exact And.comm
  have hpp:∀ k,look (up post) k≠none->look hp k≠none->look (up pre) k≠none:=fun k e e1 e2=>by
    by_cases e3:k∈ns
    · exact e1 (hσ0 k e3)
    · exact e ((hd k).2 ⟨e2,e3⟩)
  let ρ1:Loc:=fun k=>if look (up pre) k=none then none else ρ k
  let F1:Nat->Prop:=fun b=>c.F b∨∃ k cc,ρ k=some (b,cc)/\look (up pre) k=none
  have h1in:∀ k,look (up pre) k≠none -> ρ1 k = ρ k:=fun k hk=>if_neg hk
  have h1out:∀ k,look (up pre) k=none -> ρ1 k=none:=fun k hk=>if_pos hk
  have h1:∀ k l,ρ1 k=some l->look (up pre) k≠none /\ ρ k=some l:=fun k l hk=>by
    by_cases e:look (up pre) k=none
    · rw [h1out k e] at hk;cases hk
    · exact ⟨e,(h1in k e) ▸ hk⟩
  have hown1:∀ b,owned F1 ρ1 b->owned c.F ρ b:=fun b hb=>by
    rcases hb with (hb | ⟨k,cc,hk,_⟩) | ⟨k,cc,hk⟩
    · exact .inl hb
    · exact .inr ⟨k,cc,hk⟩
    · exact .inr ⟨k,cc,(h1 k _ hk).2⟩
  have hconv:∀ x:IV,¬ Names (fun k=>¬ ∀ o,look (up pre) k=some o->look hp k=some o /\ ρ1 k = ρ k) x:=fun x hx=>by
    obtain ⟨k,hk⟩:=hx.some
    exact hk fun o ho=>⟨hpre k o ho,h1in k (by simp [ho])⟩
  have hrel1:RelH F1 ρ1 (look (up pre)) w:=by
    refine ⟨fun k k' b cc cc' hk hk'=>h.rel.inj k k' b cc cc' (h1 _ _ hk).2 (h1 _ _ hk').2,fun k b cc hk hb=>?_,fun b hb=>?_,fun k b cc hk=>?_,fun k o hk hρ=>?_⟩
    · rcases hb with hb | ⟨k',cc',hk',hn⟩
      · exact h.rel.apart k b cc (h1 _ _ hk).2 hb
      · obtain rfl:=h.rel.inj _ _ _ _ _ (h1 _ _ hk).2 hk'
        exact (h1 _ _ hk).1 hn
    · rcases hb with hb | ⟨k',cc',hk',_⟩
      · exact h.rel.old b hb
      · exact h.rel.lt hk'
    · obtain ⟨hne,hk2⟩:=h1 _ _ hk
      obtain ⟨o1,ho1,ho2⟩:=h.rel.obj k b cc hk2
      cases hl:look (up pre) k with
      | none=>exact absurd hl hne
      | some o2 =>
        rw [hpre k o2 hl] at ho1;cases ho1
        exact ⟨_,rfl,ho2.conv hown1 fun x _=>hconv x⟩
    · rw [h1in k (by simp [hk])] at hρ
      exact h.rel.real k o (hpre k o hk) hρ
  refine (hsc F1 ρ1 w vs (h.kept.mono hown1) hrel1 ⟨hargs.1,fun j x hj=>?_⟩).mono ?_
  · obtain ⟨v,hv,hx⟩:=hargs.2 j x hj
    exact ⟨v,hv,hx.conv hown1 (hconv x)⟩
  rintro e w' ⟨ρ2,v,rfl,hv,hrel2,t⟩
  let ρ':Loc:=fun k=>if look (up post) k=none then ρ k else ρ2 k
  have h2in:∀ k,look (up post) k≠none -> ρ' k = ρ2 k:=fun k hk=>if_neg hk
  have h2out:∀ k,look (up post) k=none -> ρ' k = ρ k:=fun k hk=>if_pos hk
  have h2none:∀ k,look (up post) k=none -> ρ2 k=none:=fun k hk=>by
    cases h3:ρ2 k with
    | none=>rfl
    | some l =>
      obtain ⟨o1,ho1,_⟩:=hrel2.obj k l.1 l.2 h3
      rw [hk] at ho1;cases ho1
  have hσin:∀ k,look (up post) k≠none->look (up post++hp) k=look (up post) k:=fun k hk=>by
    rw [z1e]
    cases h3:look (up post) k with
    | none=>exact absurd h3 hk
    | some o=>rfl
  have hσout:∀ k,look (up post) k=none->look (up post++hp) k=look hp k:=fun k hk=>by
    rw [z1e,hk];rfl
  have hown2:∀ b,owned c.F ρ' b->owned F1 ρ2 b:=fun b hb=>by
    rcases hb with hb | ⟨k,cc,hk⟩
    · exact .inl (.inl hb)
    · by_cases e:look (up post) k=none
      · rw [h2out k e] at hk;exact .inl (.inr ⟨k,cc,hk,((hd k).1 e).1⟩)
      · rw [h2in k e] at hk;exact .inr ⟨k,cc,hk⟩
  have hconv2:∀ x:IV,only (post.map (·.1)) x=true -> ¬ Names (fun k=>¬ ∀ o,look (up post++hp) k=some o->look (up post) k=some o /\ ρ' k = ρ2 k) x:=fun x hx hn=>by
    refine z60 hx (hn.imp fun k hk hmem=>hk fun o ho=>?_)
    have hne:look (up post) k≠none:=fun e=>(z0n.1 e) hmem
    rw [hσin k hne] at ho
    exact ⟨ho,h2in k hne⟩
  have T:Trans c.F (fun k=>look (up pre) k=none∨R k) ρ (look hp) w ρ' (look (up post++hp)) w':=by
    refine ⟨t.os,t.tape,t.output,t.size,fun b hb hall=>t.blk b hb fun k cc hk=>?_,fun k b cc hk hb=>?_,fun k cs cs' e1 e2=>?_,fun k cs cs' e1 e2=>?_,fun k s s' els els' e1 e2 hl=>?_,fun k s s' els els' e1 e2=>?_,fun k cs' e2=>?_,fun k cs' e2=>?_,fun k s els' e2=>?_⟩
    · obtain ⟨hne,hk2⟩:=h1 _ _ hk
      exact (hall k cc hk2).resolve_left hne
    · by_cases e:look (up post) k=none
      · rw [h2out k e] at hk;exact .inl hk
      · rw [h2in k e] at hk
        rcases t.own k b cc hk hb with g | ⟨k0,c0,g,gn⟩
        · exact .inl (h1 _ _ g).2
        · exact .inr ⟨k0,c0,(h1 _ _ g).2,fun r=>r.elim (h1 _ _ g).1 gn⟩
    all_goals by_cases e:look (up post) k=none
    · exact h2out k e
    · cases h3:look (up pre) k with
      | none=>exact absurd h3 (hpp k e (by simp [e1]))
      | some o =>
        rw [hpre k o h3] at e1;cases e1
        rw [hσin k e] at e2
        rw [h2in k e,t.box k _ _ h3 e2,h1in k (by simp [h3])]
    · exact h2out k e
    · cases h3:look (up pre) k with
      | none=>exact absurd h3 (hpp k e (by simp [e1]))
      | some o =>
        rw [hpre k o h3] at e1;cases e1
        rw [hσin k e] at e2
        rw [h2in k e,t.map k _ _ h3 e2,h1in k (by simp [h3])]
    · exact h2out k e
    · cases h3:look (up pre) k with
      | none=>exact absurd h3 (hpp k e (by simp [e1]))
      | some o =>
        rw [hpre k o h3] at e1;cases e1
        rw [hσin k e] at e2
        rw [h2in k e,t.row k _ _ _ _ h3 e2 hl,h1in k (by simp [h3])]
    · rw [hσout k e,e1] at e2;cases e2;exact Nat.le_refl _
    · cases h3:look (up pre) k with
      | none=>exact absurd h3 (hpp k e (by simp [e1]))
      | some o =>
        rw [hpre k o h3] at e1;cases e1
        rw [hσin k e] at e2
        exact t.grow k _ _ _ _ h3 e2
    · rw [hσout k e] at e2;exact .inr ⟨_,e2⟩
    · rw [hσin k e] at e2
      rcases t.kindB k _ e2 with h3 | ⟨cs,h3⟩
      · by_cases e3:k∈ns
        · exact .inl (hσ0 k e3)
        · exact absurd ((hd k).2 ⟨h3,e3⟩) e
      · exact .inr ⟨cs,hpre k _ h3⟩
    · rw [hσout k e] at e2;exact .inr ⟨_,e2⟩
    · rw [hσin k e] at e2
      rcases t.kindM k _ e2 with h3 | ⟨cs,h3⟩
      · by_cases e3:k∈ns
        · exact .inl (hσ0 k e3)
        · exact absurd ((hd k).2 ⟨h3,e3⟩) e
      · exact .inr ⟨cs,hpre k _ h3⟩
    · rw [hσout k e] at e2;exact .inr ⟨_,e2⟩
    · rw [hσin k e] at e2
      rcases t.kindR k _ _ e2 with h3 | ⟨cs,h3⟩
      · by_cases e3:k∈ns
        · exact .inl (hσ0 k e3)
        · exact absurd ((hd k).2 ⟨h3,e3⟩) e
      · exact .inr ⟨cs,hpre k _ h3⟩
  have hnone:∀ k,(look hp k=none/\look (up post++hp) k≠none)->k∈ns:=fun k hk=>by
    by_cases e:look (up post) k=none
    · rw [hσout k e] at hk;exact absurd hk.1 hk.2
    · refine Classical.byContradiction fun e3=>?_
      have e4:look (up pre) k≠none:=fun h3=>e ((hd k).2 ⟨h3,e3⟩)
      cases h3:look (up pre) k with
      | none=>exact e4 h3
      | some o=>rw [hpre k o h3] at hk;cases hk.1
  have hnn:∀ x:IV,(∀ k∈ns,nm k x=false) -> ¬ Names (fun k=>look hp k=none/\look (up post++hp) k≠none) x:=fun x hx hn=>by
    obtain ⟨k,hk,hk2⟩:=(hn.imp hnone).one
    have:=hx k hk
    rw [z4c hk2] at this;cases this
  refine ⟨ρ',v,rfl,h.step T hR ⟨fun k k' b cc cc' hk hk'=>?_,fun k b cc hk hb=>?_,fun b hb=>Nat.lt_of_lt_of_le (h.rel.old b hb) t.size,fun k b cc hk=>?_,fun k o hk hρ=>?_⟩ (fun k e1 e2=>hc0 k (hnone k ⟨e1,e2⟩)) fun _ x hx=>hnn x fun k hk=>z3b (hfr0 k hk) hx,hv.conv hown2 (hconv2 r hr)⟩
  · by_cases e:look (up post) k=none<;>by_cases e':look (up post) k'=none
    · rw [h2out k e] at hk;rw [h2out k' e'] at hk';exact h.rel.inj _ _ _ _ _ hk hk'
    · rw [h2out k e] at hk;rw [h2in k' e'] at hk'
      exact absurd (.inr ⟨k,cc,hk,((hd k).1 e).1⟩) (hrel2.apart _ _ _ hk')
    · rw [h2in k e] at hk;rw [h2out k' e'] at hk'
      exact absurd (.inr ⟨k',cc',hk',((hd k').1 e').1⟩) (hrel2.apart _ _ _ hk)
    · rw [h2in k e] at hk;rw [h2in k' e'] at hk';exact hrel2.inj _ _ _ _ _ hk hk'
  · by_cases e:look (up post) k=none
    · rw [h2out k e] at hk;exact h.rel.apart _ _ _ hk hb
    · rw [h2in k e] at hk;exact hrel2.apart _ _ _ hk (.inl hb)
  · by_cases e:look (up post) k=none
    · rw [h2out k e] at hk
      obtain ⟨o1,ho1,ho2⟩:=h.rel.obj k b cc hk
      refine ⟨o1,(hσout k e).trans ho1,ho2.keep T (t.blk b (h.rel.lt hk) fun k' cc' hk'=>?_) fun x ⟨cs,h3,h4⟩=>hnn x fun k hk=>by subst h3;exact z0z (z1u (hhp0 k hk) ho1) h4⟩
      obtain ⟨hne,hk2⟩:=h1 _ _ hk'
      obtain rfl:=h.rel.inj _ _ _ _ _ hk hk2
      exact absurd ((hd _).1 e).1 hne
    · rw [h2in k e] at hk
      obtain ⟨o1,ho1,ho2⟩:=hrel2.obj k b cc hk
      refine ⟨o1,(hσin k e).trans ho1,ho2.conv hown2 fun x ⟨cs,h3,h4⟩=>hconv2 x ?_⟩
      subst h3
      exact z1h (z1w hpost (z0f ho1)) h4
  · by_cases e:look (up post) k=none
    · rw [hσout k e] at hk;rw [h2out k e] at hρ;exact h.rel.real k o hk hρ
    · rw [hσin k e] at hk;rw [h2in k e] at hρ;exact hrel2.real k o hk hρ
theorem ze5 {ns:List Nat} {f:FuncId} {os:Array Operand} {tys:Array TypeId} {xs args:List IV} {pre post:List (Nat × HO)} {R:Nat->Prop} {r:IV} {hp:Hp} (hsc:SC P f args pre R r post) (hf:z4j P f)
    (ho:o.op = .call { callee:=.value (.func f),args:=os,argTypes:=tys }) (hx:evs fr os.toList=some xs) (hs:Subs (look hp) xs args) (hpre:∀ k o,look (up pre) k=some o->look hp k=some o) (hdom:post.map (·.1)=ns++pre.map (·.1)) (hσ0:∀ k∈ns,look hp k=none) (hc0:∀ k∈ns,c.σ k=none) (hfr0:∀ k∈ns,nmFr k fr=false) (hhp0:∀ k∈ns,nmHp k hp=false)
    (hR:∀ k,c.R k->look (up pre) k=none∨R k) (hr:only (post.map (·.1)) r=true) (hpost:z2f (post.map (·.1)) post=true):Ok P c o fr (look hp) r (look (up post++hp)):=by
  intro ρ w a K Q h hK
  obtain ⟨fn,hfn,hname,hbody⟩:=hf
  have hargs:=hs _ _ _ _ (z4k h hx)
  have hrun:(execOp a.eval o).run P w = .ok (.enter f (os.toList.map a.eval).toArray) w:=by
    have hcall:(callFunc f (os.toList.map a.eval).toArray).run P w = .ok (.enter f (os.toList.map a.eval).toArray) w:=by
      unfold callFunc
      simp only [Sem.run_bind]
      show (Result.andThen (.ok P w) _)=_
      simp only [Result.andThen_ok,hfn,hname,hbody]
      rfl
    simp only [execOp,ho,resolve,Act.eval,Deferred.ofValue,Sem.run_bind,Sem.run_pure,Result.andThen_ok,invoke]
    rw [<- hcall]
    congr 2
    apply Array.ext'
    simp
  unfold Oper.wp
  rw [hrun,Oper.upon_enter]
  refine (hsc.stepN h hargs hpre hdom hσ0 hc0 hfr0 hhp0 hR hr hpost).mono ?_
  rintro e w' ⟨ρ',v,rfl,h1,h2⟩
  exact hK ρ' w' v h1 h2
structure K5 (P:Program) (t:TypeId) (f0 f1 f2 f3 f4:Field):Prop where
  hu:P.underlying t=some (.struct #[f0,f1,f2,f3,f4])
  hs:P.stoodInHeld t=false
  t0:P.underlying f0.type=some (.int .i64)
  t1:P.underlying f1.type=some (.int .i64)
  t2:P.underlying f2.type=some (.int .i64)
  t3:P.underlying f3.type=some (.int .i64)
  t4:P.underlying f4.type=some (.int .i64)
  n0:f0.name ≠ "_"
  n1:f1.name ≠ "_"
  n2:f2.name ≠ "_"
  n3:f3.name ≠ "_"
  n4:f4.name ≠ "_"
  o0:f0.offset=0
  o1:f1.offset=1
  o2:f2.offset=2
  o3:f3.offset=3
  o4:f4.offset=4
section
variable {kt:TypeId} {f0 f1 f2 f3 f4:Field}
end
end
section
variable {P:Program} {c:Cx} {o:Oper} {fr:Fr} {hp:Hp}
theorem All.flatRow {ρ:Loc} {w:World} {a:Act} (h:All c ρ (look hp) w fr a) {x:Operand} {k n:Nat} {s:RT} {els:List (List PV)} (hx:fr.ev x=some (.sl k n)) (hk:look hp k=some (.row s els)) (hn:els.length=n) (hone:∀ el∈els,∀ x∈el,x.one=true) :
    FlatV (owned c.F ρ) w s.n els (a.eval x):=by
  rcases h.row hx hk hn with ⟨b,cc,r,u,hv,hρ,h3,h4,hc,hcm,hwe,hcells,hu⟩ | ⟨hv,hρ,hnil⟩
  · have key:∀ q,q<els.length*s.n->∃ el x,els[q / s.n]? = some el/\el.length=s.n/\el[q % s.n]? = some x/\x.one=true:=fun q hq=>by
      obtain ⟨h1,h2,h3⟩:=z6a hq
      have he:=hwe _ (List.getElem_mem h1)
      exact ⟨els[q / s.n],els[q / s.n][q % s.n]'oM0,List.getElem?_eq_getElem h1,he,List.getElem?_eq_getElem _,hone _ (List.getElem_mem h1) _ (List.getElem_mem _)⟩
    refine ⟨some ⟨b,0,none⟩,cc,u,by rw [hv,hn],fun _=>⟨_,rfl,fun j y hj=>?_⟩,fun y hy=>?_,hu⟩
    · have hq:j<els.length*s.n:=by have:=(List.getElem?_eq_some_iff.1 hj).1;simpa using this
      obtain ⟨el,x,h1,h2,h5,_⟩:=key j hq
      have hy:y=u (j / s.n) (j % s.n):=by simpa [hq] using hj.symm
      have:=hcells _ el h1 _ x h5
      rw [Addr.add_mid,hy,z0w h3,Nat.zero_add,<- this,(z6a hq).2.2]
    · obtain ⟨q,hq,rfl⟩:=List.mem_map.1 hy
      obtain ⟨el,x,h1,h2,h5,h6⟩:=key q (by simpa using hq)
      exact (hu _ el h1 _ x h5).one h6
  · subst hnil
    exact ⟨none,0,fun _ _=>undef,by simpa using hv,fun hne=>absurd rfl hne,fun y hy=>by simp at hy,fun i el hi=>by simp at hi⟩
theorem z6o {t:TypeId} {x y:Operand} {k n k2 n2 by_:Nat} {s:RT} {els news:List (List PV)} (ho:o.op = .call { callee:=.builtin .append,args:=#[x,y],argTypes:=#[t,t] }) (hx:fr.ev x=some (.sl k n)) (hy:fr.ev y=some (.sl k2 n2))
    (hk:look hp k=some (.row s els)) (hn:els.length=n) (hk2:look hp k2=some (.row s news)) (hn2:news.length=n2) (hR:¬ c.R k) (ht:P.underlying t=some (.slice s.e)) (hi:(P.info? s.e).map (fun i=>(i.size,i.bytes,(i.zero.map fun z=>z.cells.size)))=some (s.n,by_,some s.n)) (hs:0<s.n)
    (hw:∀ el∈news,el.length=s.n) (hone:∀ el∈news,∀ x∈el,x.one=true) (hmax:n+news.length<=maxLen) (hb:(n+news.length)*by_<=140737488355328) :
    Ok P c o fr (look hp) (.sl k (n+news.length)) (look ((k,some (.row s (els++news)))::hp)) :=
  z2r ho hx (fun ρ w a h=>h.flatRow hy hk2 hn2 hone) hk hn hR ht hi hs hw hmax hb
theorem z2q {t e:TypeId} {len s:Nat} {parts:Array (Nat × Operand)} {xs:List (Nat × IV)} {z:Value} {out:List IV} {ρ:Loc} {w:World} {a:Act} (h:All c ρ (look hp) w fr a) (ho:o.op = .buildSlice t len parts) (hx:z0v fr parts.toList=some xs)
    (hu:P.underlying t=some (.slice e)) (hz:((P.info? e).bind (·.zero))=some z) (hs:(P.info? e).map (·.size)=some s) (hzs:z.cells.size=s) (hpos:Nat.ble 1 s=true) (hsmall:Nat.ble (len*s) (2 ^ 24)=true)
    (hf:z16 (fun i=>some (i*s,s)) (z30 z len) xs=some out) (hfirm:z17 (look hp) xs) :
    ∃ vs,z1c c.F ρ (look hp) w out vs/\out.length=len*s/\(execOp a.eval o).run P w = .ok (.value (.slice (some ⟨w.heap.size,0,none⟩) len len)) (w.alloc (.cells vs e)):=by
  have hpos':0<s:=Nat.le_of_ble_eq_true hpos
  have hsmall':=Nat.le_of_ble_eq_true hsmall
  have hzv:(zeroValue e).run P w = .ok z w:=by
    cases hq:P.info? e with
    | none=>simp [hq] at hz
    | some i=>simp [hq] at hz;simp [zeroValue,typeInfo,hq,hz]
  obtain ⟨hl,hv⟩:=z1d h hx
  obtain ⟨hrl,hrg⟩:=z51 (z:=z) oM0 len
  have hrep:z1c c.F ρ (look hp) w (z30 z len) ((Array.range (len*s)).map (z.cells[· % z.cells.size]!)):=by
    refine ⟨by simp [hrl,hzs],fun j x hj=>?_⟩
    have hjl:j<len*s:=by have:=(List.getElem?_eq_some_iff.1 hj).1;rw [hrl,hzs] at this;exact this
    rw [hrg j x hj]
    exact ⟨_,by simp [hjl],z0r _⟩
  have hlenfill:out.length=len*s:=by
    have:∀ (ps:List (Nat × IV)) (cs out:List IV),z16 (fun i=>some (i*s,s)) cs ps=some out->out.length=cs.length:=by
      intro ps
      induction ps with
      | nil=>intro cs out h;cases h;rfl
      | cons p r ih =>
        intro cs out h
        simp only [z16] at h
        cases hc:Nat.beq (z1q p.2).length s&&Nat.ble (p.1*s+s) cs.length with
        | false=>rw [hc] at h;cases h
        | true =>
          rw [hc] at h
          simp only [Bool.and_eq_true] at hc
          have h1:=Nat.eq_of_beq_eq_true hc.1
          have h2:=Nat.le_of_ble_eq_true hc.2
          rw [ih _ _ h,z2g oM0]
    rw [this _ _ _ hf,hrl,hzs]
  obtain ⟨vs,h1,h2⟩:=z38 hrep hl (fun j i x hj=>by
    obtain ⟨v,h3,h4⟩:=hv j i x hj
    exact ⟨v,h3,h4,hfirm _ (List.mem_of_getElem? hj)⟩) hf
  have hparts:(parts.map fun (i,x)=>(i,a.eval x)).toList=parts.toList.map fun p=>(p.1,a.eval p.2):=by simp
  have hrun:(execOp a.eval o).run P w = .ok (.value (.slice (some ⟨w.heap.size,0,none⟩) len len)) (w.alloc (.cells vs e)):=by
    have hnr:(newRow e vs).run P w = .ok ⟨w.heap.size,0,none⟩ (w.alloc (.cells vs e)):=rfl
    simp only [execOp,ho,Instr.buildSlice,Sem.run_bind,run_underlying hu,z06 hs,Result.andThen_ok]
    rw [if_neg oM0]
    by_cases h0:len*s=0
    · have h1':Instr.fill (fun i=>some (i*s,s)) ((Array.range (len*s)).map ((#[]:Array Value)[· % (#[]:Array Value).size]!)) (List.map (fun p=>(p.fst,a.eval p.snd)) parts.toList)=some vs:=by
        have e1:∀ f:Nat->Value,(Array.range (len*s)).map f = #[]:=fun f=>by rw [h0];simp
        rw [e1] at h1 ⊢
        exact h1
      simp only [if_pos h0,Sem.run_bind,Sem.run_pure,Result.andThen_ok,hparts]
      rw [h1']
      simp only [Sem.run_bind,hnr,Result.andThen_ok]
      rfl
    · simp only [if_neg h0,Sem.run_bind,Sem.run_pure,Result.andThen_ok,hzv,hparts]
      rw [h1]
      simp only [Sem.run_bind,hnr,Result.andThen_ok]
      rfl
  exact ⟨vs,h2,hlenfill,hrun⟩
theorem z47 {k:Nat} {t e:TypeId} {len s:Nat} {parts:Array (Nat × Operand)} {xs:List (Nat × IV)} {z:Value} {out:List IV} {ps:List PV} (ho:o.op = .buildSlice t len parts) (hx:z0v fr parts.toList=some xs)
    (hu:P.underlying t=some (.slice e)) (hz:((P.info? e).bind (·.zero))=some z) (hs:(P.info? e).map (·.size)=some s) (hzs:z.cells.size=s) (hpos:Nat.ble 1 s=true) (hsmall:Nat.ble (len*s) (2 ^ 24)=true)
    (hf:z16 (fun i=>some (i*s,s)) (z30 z len) xs=some out) (hfirm:z17 (look hp) xs) (hps:z1j out=some ps) (hσ:look hp k=none) (hc:c.σ k=none) (hfr:nmFr k fr=false) (hhp:nmHp k hp=false) :
    Ok P c o fr (look hp) (.sl k len) (look ((k,some (.row ⟨e,s⟩ (z1n s len ps)))::hp)):=by
  intro ρ w a K Q h hK
  have hpos':0<s:=Nat.le_of_ble_eq_true hpos
  have hsmall':=Nat.le_of_ble_eq_true hsmall
  obtain ⟨vs,h2,hlenfill,hrun⟩:=z2q h ho hx hu hz hs hzs hpos hsmall hf hfirm
  unfold Oper.wp
  rw [hrun]
  obtain ⟨hpl,hpg⟩:=z1x hps
  have hel:∀ i el,(z1n s len ps)[i]? = some el->el.length=s/\∀ j x,el[j]? = some x->ps[i*s+j]? = some x:=fun i el hi=>z3k s len ps i el hi oM0
  have hcl:=z1y s len ps
  have hlm:len<=maxLen:=by simp only [maxLen];have:len<=len*s:=Nat.le_mul_of_pos_right _ hpos';omega
  refine hK (z04 ρ k (some (w.heap.size,len))) _ _ (h.alloc hσ hc hfr hhp len _ _ fun _ keep=>?_) (.sl _ _ _ fun s' els' h'=>?_)
  · refine .row ⟨e,s⟩ _ vs (fun i j=>vs.getD (i*s+j) undef) (z0j w _) (by have:=h2.1;simp only;omega) oM0 hlm (fun el hel'=>?_) (fun i el hi j x hj=>?_) fun i el hi j x hj=>?_
    · obtain ⟨i,hi⟩:=List.getElem?_of_mem hel'
      exact (hel i el hi).1
    · obtain ⟨h5,h6⟩:=hel i el hi
      obtain ⟨v,h7,_⟩:=h2.2 _ _ (hpg _ _ (h6 j x hj))
      simp [Array.getD_eq_getD_getElem?,h7]
    · obtain ⟨h5,h6⟩:=hel i el hi
      obtain ⟨v,h7,h8⟩:=h2.2 _ _ (hpg _ _ (h6 j x hj))
      simp only [Array.getD_eq_getD_getElem?,h7,Option.getD_some]
      cases h8 with
      | pv _ _ h8=>exact keep _ _ h8
  · rw [z0b] at h';cases h'
    exact ⟨by omega,fun _=>.inl ⟨w.heap.size,len,z00,rfl⟩⟩
end
section
variable {P:Program} {c:Cx} {R1:Nat->Prop} {o:Oper} {fr:Fr} {hp:Hp} {σ:Heap'} {Q:Exit->Fr->Heap'->Prop}
theorem All.bs {ρ:Loc} {w:World} {a:Act} (h:All c ρ (look hp) w fr a) {x:Operand} {k n:Nat} {cs:List IV} (hx:fr.ev x=some (.bs k n)) (hk:look hp k=some (.box cs)) :
    ∃ (b cc cap:Nat) (e:TypeId) (r:Array Value) (u:Nat->Value),a.eval x = .slice (some ⟨b,0,none⟩) n cap/\n<=cap/\cap<=maxLen /\ ρ k=some (b,cc)/\w.heap[b]? = some (.cells r e (0,0))/\cs.length<=r.size/\(∀ j x,cs[j]? = some x->r[j]? = some (u j))/\∀ j x,cs[j]? = some x->RepI c.F ρ (look hp) w x (u j):=by
  have hr:=h.ev hx
  generalize hv:a.eval x=v at hr
  cases hr with
  | bs _ _ _ hh =>
    obtain ⟨b,cc,hρ,h8,h9,rfl⟩:=hh cs hk
    obtain ⟨o1,h1,h2⟩:=h.rel.obj k b cc hρ
    rw [hk] at h1;cases h1
    obtain ⟨e,r,u,h3,h4,h5,h6⟩:=h2.inv_box
    exact ⟨b,cc,cc,e,r,u,rfl,h8,h9,hρ,h3,h4,h5,h6⟩
theorem z8o {t e:TypeId} {x y:Operand} {k n i:Nat} {m:Int} {kk:IntKind} {cs:List IV} (ho:o.op = .indexAddr t x y) (hx:fr.ev x=some (.bs k n)) (hy:fr.ev y=some (.pv (.val (.int kk m)))) (hk:look hp k=some (.box cs))
    (hu:P.underlying t=some (.slice e)) (he:(P.info? e).map (·.size)=some 1) (hi:i<n) (hm:m=i):OkV P c R1 o fr (look hp) (.ptr k i):=by
  subst hm
  intro ρ w a h
  obtain ⟨b,cc,cap,e',r,u,hv,_,_,hρ,_⟩:=h.bs hx hk
  refine ⟨.pointer (some ⟨b,i,none⟩),fun w2 _=>?_,.ptr _ _ _ fun cs' h'=>⟨b,cc,hρ,rfl⟩⟩
  simp [execOp,ho,hv,z03 h hy,Instr.indexAt,Sem.run_bind,asIntOf,run_underlying hu,hi,z06 he,Addr.add_mid]
theorem z4u {k:Nat} {t e:TypeId} {len s:Nat} {parts:Array (Nat × Operand)} {xs:List (Nat × IV)} {z:Value} {out:List IV} (ho:o.op = .buildSlice t len parts) (hx:z0v fr parts.toList=some xs)
    (hu:P.underlying t=some (.slice e)) (hz:((P.info? e).bind (·.zero))=some z) (hs:(P.info? e).map (·.size)=some s) (hzs:z.cells.size=s) (hpos:Nat.ble 1 s=true) (hsmall:Nat.ble (len*s) (2 ^ 24)=true)
    (hf:z16 (fun i=>some (i*s,s)) (z30 z len) xs=some out) (hfirm:z17 (look hp) xs) (hn:nm.nms k out=false) (hσ:look hp k=none) (hc:c.σ k=none) (hfr:nmFr k fr=false) (hhp:nmHp k hp=false) :
    Ok P c o fr (look hp) (.bs k len) (look ((k,some (.box out))::hp)):=by
  intro ρ w a K Q h hK
  have hpos':0<s:=Nat.le_of_ble_eq_true hpos
  have hsmall':=Nat.le_of_ble_eq_true hsmall
  obtain ⟨vs,h2,hlenfill,hrun⟩:=z2q h ho hx hu hz hs hzs hpos hsmall hf hfirm
  unfold Oper.wp
  rw [hrun]
  have hlm:len<=maxLen:=by simp only [maxLen];have:len<=len*s:=Nat.le_mul_of_pos_right _ hpos';omega
  refine hK (z04 ρ k (some (w.heap.size,len))) _ _ (h.alloc hσ hc hfr hhp len _ _ fun keep _=>?_) (.bs _ _ _ fun cs' h'=>⟨w.heap.size,len,z00,Nat.le_refl _,hlm,rfl⟩)
  refine .box _ e vs (fun j=>vs.getD j undef) (z0j w _) (Nat.le_of_eq h2.1.symm) (fun j x hj=>?_) (fun j x hj=>?_) ⟨fun hh=>absurd hh (by simp only [maxLen] at hlm;unfold zg7;omega),fun _ _=>by have h9:=h2.1;have h10:len<=len*s:=Nat.le_mul_of_pos_right _ hpos';omega⟩
  · obtain ⟨v,h7,_⟩:=h2.2 _ _ hj
    simp [Array.getD_eq_getD_getElem?,h7]
  · obtain ⟨v,h7,h8⟩:=h2.2 _ _ hj
    simp only [Array.getD_eq_getD_getElem?,h7,Option.getD_some]
    exact keep _ _ h8 (z0z hn (List.mem_of_getElem? hj))
theorem z7c {t:TypeId} {x y:Operand} {k k2 n by_:Nat} {e:TypeId} {cs:List IV} (ho:o.op = .call { callee:=.builtin .append,args:=#[x,y],argTypes:=#[t,t] }) (hx:fr.ev x=some (.pv (.val (.slice none 0 0)))) (hy:fr.ev y=some (.bs k2 n)) (hk2:look hp k2=some (.box cs)) (hn:cs.length=n) (h0:0<n)
    (ht:P.underlying t=some (.slice e)) (hi:(P.info? e).map (fun i=>(i.size,i.bytes,(i.zero.map fun z=>z.cells.size)))=some (1,by_,some 1)) (hmax:n<=maxLen) (hb:n*by_<=140737488355328) (hnm:nm.nms k cs=false)
    (hσ:look hp k=none) (hc:c.σ k=none) (hfr:nmFr k fr=false) (hhp:nmHp k hp=false) :
    Ok P c o fr (look hp) (.bs k n) (look ((k,some (.box cs))::hp)):=by
  intro ρ w a K Q h hK
  cases hq:P.info? e with
  | none=>simp [hq] at hi
  | some i =>
    have hsz:i.size=1:=by simp [hq] at hi;exact hi.1
    have hby:i.bytes=by_:=by simp [hq] at hi;exact hi.2.1
    obtain ⟨z,hz,hzs⟩:∃ z,i.zero=some z/\z.cells.size=1:=by simp [hq] at hi;exact hi.2.2
    simp only [maxLen] at hmax
    obtain ⟨b,cc,cap,e',r,u,hv,_,_,hρ,hbk,hlen,hcell,hrep⟩:=h.drew.bs hy hk2
    have hge:=grownCap_ge w n 0 e
    have hcm:=grownCap_le_maxLen w n 0 e (by simp only [maxLen];omega)
    have hL:((List.range n).map u).length=n*i.size:=by simp [hsz]
    have hcl:∀ j y,((List.range n).map u)[j]? = some y->w.cell? ((⟨b,0,none⟩:Addr).add j)=some y:=fun j y hj=>by
      rw [Addr.add_mid,Nat.zero_add,z0w (w:=w) hbk]
      have hj':j<n:=by have:=(List.getElem?_eq_some_iff.1 hj).1;simpa using this
      have e1:u j=y:=by simpa [hj'] using hj
      have h5:cs[j]? = some (cs[j]'oM0):=List.getElem?_eq_getElem oM0
      rw [hcell j _ h5,e1]
    have hr:=run_append_nil (P:=P) w t o.type e i z ht hq hz ⟨b,0,none⟩ n cap _ hL hcl h0 oM0 (by rw [hby];omega)
    refine Lib.wp_append_run w x y t t ho _ _ (z03 h hx) hv _ _ hr ?_
    refine hK (z04 ρ k (some (w.heap.size,grownCap w n 0 e))) _ _ (h.drew.alloc hσ hc hfr hhp (grownCap w n 0 e) _ _ fun keep _=>?_) (.bs _ _ _ fun cs' h'=>⟨w.heap.size,_,z00,hge,hcm,rfl⟩)
    refine .box _ e _ u (z0j _ _) (by simp;omega) (fun j x hj=>?_) (fun j x hj=>keep _ _ (hrep j x hj) (z0z hnm (List.mem_of_getElem? hj))) ⟨fun hh=>absurd hh (by simp only [maxLen] at hcm;unfold zg7;omega),fun _ _=>by simp [size_zeroCells,hzs];omega⟩
    have hj':j<n:=by have:=(List.getElem?_eq_some_iff.1 hj).1;omega
    rw [Array.getElem?_append_left (by simpa using hj')]
    simp [hj']
theorem z5t {k:Nat}:∀ {l m:List IV},nm.nms k l=false->nm.nms k m=false->nm.nms k (l++m)=false
  | [],_,_,h=>h
  | x::r,m,h1,h2=>by
    simp only [List.cons_append,nm.nms,Bool.or_eq_false_iff] at h1 ⊢
    exact ⟨h1.1,z5t h1.2 h2⟩
theorem z6z {t ty e e1:TypeId} {i:TypeInfo} {w:World} (ht:P.underlying t=some (.slice e)) (hi:P.info? e=some i) {g n cc:Nat} {cur:Array Value} (hg:w.heap[g]? = some (.cells cur e1 (0,0))) {b:Addr} {m c2:Nat} {news:List Value} (hl:news.length=m*i.size)
    (hnews:∀ j u,news[j]? = some u->w.cell? (b.add j)=some u) (h1:∀ u∈news,u.oneCell'=true) (hroom:n+m<=cc) (hfit:n*i.size+news.length<=cur.size) :
    (Builtin.append_ #[t,t] ty #[.slice (some ⟨g,0,none⟩) n cc,.slice (some b) m c2]).run P w = .ok (.slice (some ⟨g,0,none⟩) (n+m) cc) (w.setRow g (cur.toList.take (n*i.size)++news++cur.toList.drop (n*i.size+news.length)).toArray):=by
  have q1:=run_firstCells_some (P:=P) w i.size m b m c2 news hl hnews
  have q2:=run_storeCells_at P g (n*i.size) e1 news 0 cur w hg (by simpa using hfit) h1
  simp only [Nat.add_zero] at q2
  simp [Builtin.append_,run_underlying ht,sizeOf,typeInfo,hi,Builtin.lenOf,hroom,q1,Addr.add_lit,q2]
theorem All.bs2 {ρ:Loc} {w:World} {a:Act} (h:All c ρ (look hp) w fr a) {x:Operand} {k n:Nat} {cs:List IV} (hx:fr.ev x=some (.bs k n)) (hk:look hp k=some (.box cs)) :
    ∃ (b cc:Nat) (e:TypeId) (r:Array Value) (u:Nat->Value),a.eval x = .slice (some ⟨b,0,none⟩) n cc/\n<=cc/\cc<=maxLen /\ ρ k=some (b,cc)/\w.heap[b]? = some (.cells r e (0,0))/\(2<=cc->cc<=r.size)/\cs.length<=r.size/\(∀ j x,cs[j]? = some x->r[j]? = some (u j))/\∀ j x,cs[j]? = some x->RepI c.F ρ (look hp) w x (u j):=by
  have hr:=h.ev hx
  generalize hv:a.eval x=v at hr
  cases hr with
  | bs _ _ _ hh =>
    obtain ⟨b,cc,hρ,h8,h9,rfl⟩:=hh cs hk
    obtain ⟨o1,h1,h2⟩:=h.rel.obj k b cc hρ
    rw [hk] at h1;cases h1
    obtain ⟨e,r,u,h3,h4,h5,h6⟩:=h2.inv_box
    exact ⟨b,cc,e,r,u,rfl,h8,h9,hρ,h3,fun h7=>(h.rel.ty hk hρ h3).2 h7 h9,h4,h5,h6⟩
theorem z6m {t:TypeId} {x y:Operand} {k k2 k' n n2 by_:Nat} {e:TypeId} {cs cs2:List IV} (ho:o.op = .call { callee:=.builtin .append,args:=#[x,y],argTypes:=#[t,t] }) (hx:fr.ev x=some (.bs k n)) (hy:fr.ev y=some (.bs k2 n2))
    (hk:look hp k=some (.box cs)) (hk2:look hp k2=some (.box cs2)) (hn:cs.length=n) (hn2:cs2.length=n2) (h0:0<n) (h02:0<n2)
    (ht:P.underlying t=some (.slice e)) (hi:(P.info? e).map (fun i=>(i.size,i.bytes,(i.zero.map fun z=>z.cells.size)))=some (1,by_,some 1)) (hmax:n+n2<=maxLen) (hb:(n+n2)*by_<=140737488355328)
    (hfirm:∀ x∈cs2,x.firm (look hp)) (hnm:nm.nms k' cs2=false) (hR:¬ c.R k) (hσ:look hp k'=none) (hc:c.σ k'=none) (hfr:nmFr k' fr=false) (hhp:nmHp k' hp=false) :
    Ok P c o fr (look hp) (.bs k' (n+n2)) (look ((k',some (.box (cs++cs2)))::(k,none)::hp)):=by
  intro ρ w a K Q h hK
  have hne:k≠k':=fun e=>by subst e;rw [hk] at hσ;cases hσ
  cases hq:P.info? e with
  | none=>simp [hq] at hi
  | some i =>
    have hsz:i.size=1:=by simp [hq] at hi;exact hi.1
    have hby:i.bytes=by_:=by simp [hq] at hi;exact hi.2.1
    obtain ⟨z,hz,hzs⟩:∃ z,i.zero=some z/\z.cells.size=1:=by simp [hq] at hi;exact hi.2.2
    simp only [maxLen] at hmax
    obtain ⟨b,cc,e1,r,u,hv,hnc,hcm,hρ,hbk,hty,hlen,hcell,hrep⟩:=h.bs2 hx hk
    obtain ⟨b2,cc2,e2,r2,u2,hv2,_,_,hρ2,hbk2,_,hlen2,hcell2,hrep2⟩:=h.bs2 hy hk2
    have hL:((List.range n2).map u2).length=n2*i.size:=by simp [hsz]
    have hcl:∀ j y,((List.range n2).map u2)[j]? = some y->w.cell? ((⟨b2,0,none⟩:Addr).add j)=some y:=fun j y hj=>by
      rw [Addr.add_mid,Nat.zero_add,z0w (w:=w) hbk2]
      have hj':j<n2:=by have:=(List.getElem?_eq_some_iff.1 hj).1;simpa using this
      have e1:u2 j=y:=by simpa [hj'] using hj
      have h5:cs2[j]? = some (cs2[j]'oM0):=List.getElem?_eq_getElem oM0
      rw [hcell2 j _ h5,e1]
    have hone:∀ v∈(List.range n2).map u2,v.oneCell'=true:=fun v hv=>by
      obtain ⟨j,hj,rfl⟩:=List.mem_map.1 hv
      have hj':j<n2:=List.mem_range.1 hj
      have h5:cs2[j]? = some (cs2[j]'oM0):=List.getElem?_eq_getElem oM0
      exact (hrep2 j _ h5).one (hfirm _ (List.mem_of_getElem? h5))
    have hrun:∀ (v:Value) (w':World),(Builtin.append_ #[t,t] o.type #[a.eval x,a.eval y]).run P w = .ok v w'->(execOp a.eval o).run P w = .ok (.value v) w':=fun v w' hr=>by
      simp only [execOp,ho,resolve,Sem.run_bind,Sem.run_pure,Result.andThen_ok,invoke,builtin,List.map_toArray,List.map_cons,List.map_nil,hr]
    unfold Oper.wp
    have hnm1:nm.nms k' cs=false:=z1u hhp hk
    have hall:∀ (own':IV->Value->Prop),(∀ j x,cs[j]? = some x->own' x (u j))->(∀ j x,cs2[j]? = some x->own' x (u2 j))->∀ j x,(cs++cs2)[j]? = some x->own' x (if j<n then u j else u2 (j - n)):=fun own' g1 g2 j x hj=>by
      by_cases hjn:j<n
      · rw [List.getElem?_append_left oM0] at hj
        rw [if_pos hjn];exact g1 j x hj
      · rw [List.getElem?_append_right oM0,hn] at hj
        rw [if_neg hjn];exact g2 _ x hj
    have hval:∀ (pre:List Value) (tl:List Value),pre.length=n->(∀ j x,cs[j]? = some x->pre[j]? = some (u j))->∀ j x,(cs++cs2)[j]? = some x->(pre++(List.range n2).map u2++tl)[j]? = some (if j<n then u j else u2 (j - n)):=fun pre tl hp1 hp2 j x hj=>by
      have hjl:j<n+n2:=by have:=(List.getElem?_eq_some_iff.1 hj).1;simp at this;omega
      by_cases hjn:j<n
      · rw [List.getElem?_append_left oM0] at hj
        rw [if_pos hjn,List.append_assoc,List.getElem?_append_left oM0];exact hp2 j x hj
      · rw [if_neg hjn,List.append_assoc,List.getElem?_append_right oM0,hp1,List.getElem?_append_left (by simp;omega)]
        simp [show j - n<n2 by omega]
    have hnmA:nm.nms k' (cs++cs2)=false:=z5t hnm1 hnm
    by_cases hroom:n+n2<=cc
    · have hrs:cc<=r.size:=hty oM0
      have hr:=z6z (P:=P) (ty:=o.type) ht hq hbk (b:=⟨b2,0,none⟩) (c2:=cc2) hL hcl hone hroom (by simp [hsz];omega)
      rw [hsz,Nat.mul_one] at hr
      rw [hrun _ _ (by rw [hv,hv2];exact hr)]
      have hA:=h.write hρ hk (o':=.box (cs++cs2)) trivial hR rfl rfl rfl (w':=w.setRow b (r.toList.take n++(List.range n2).map u2++r.toList.drop (n+((List.range n2).map u2).length)).toArray) sI0 (fun j hj=>setRow_other w b j _ hj) fun keep _=>by
        refine .box (cs++cs2) e1 _ (fun j=>if j<n then u j else u2 (j - n)) (setRow_heap w b r _ e1 _ hbk) (by simp;omega) (fun j x hj=>?_) (hall _ (fun j x hj=>keep _ _ (hrep j x hj)) fun j x hj=>keep _ _ (hrep2 j x hj)) ?_
        · rw [List.getElem?_toArray]
          exact hval _ _ (by simp;omega) (fun j x hj=>by
            have:=(List.getElem?_eq_some_iff.1 hj).1
            rw [List.getElem?_take,if_pos oM0,Array.getElem?_toList,hcell j x hj]) j x hj
        · have h9:=h.rel.ty hk hρ hbk
          have h8:(r.toList.take n++(List.range n2).map u2++r.toList.drop (n+((List.range n2).map u2).length)).toArray.size=r.size:=by simp;omega
          rw [h8];exact h9
      have hA2:=hA.rename (k':=k') hρ z0b hR ((z08 hne).trans hσ) hc hfr (by simp only [nmHp,hnmA,hhp];rfl)
      have hsame:look ((k',some (.box (cs++cs2)))::(k,none)::(k,some (.box (cs++cs2)))::hp)=look ((k',some (.box (cs++cs2)))::(k,none)::hp):=by
        funext j
        by_cases e1:j=k'
        · subst e1;rw [z0b,z0b]
        · rw [z08 (Ne.symm e1),z08 (Ne.symm e1)]
          by_cases e2:j=k
          · subst e2;rw [z0b,z0b]
          · rw [z08 (Ne.symm e2),z08 (Ne.symm e2),z08 (Ne.symm e2)]
      rw [hsame] at hA2
      exact hK _ _ _ hA2 (.bs _ _ _ fun cs' h'=>⟨b,cc,z00,hroom,hcm,rfl⟩)
    · have hpl:(r.toList.take n).length=n:=by simp;omega
      have holds:∀ j y,(r.toList.take n)[j]? = some y->w.cell? ((⟨b,0,none⟩:Addr).add j)=some y:=fun j y hj=>by
        rw [Addr.add_mid,Nat.zero_add,z0w (w:=w) hbk]
        rw [List.getElem?_take] at hj
        split at hj
        · simpa using hj
        · cases hj
      have hr:=run_append_grow (P:=P) w t o.type e i z ht hq hz ⟨b,0,none⟩ n cc _ (by rw [hsz,Nat.mul_one];exact hpl) holds ⟨b2,0,none⟩ n2 cc2 _ hL hcl oM0 oM0 (growslice_fits oM0 (by rw [hby];exact hb))
      rw [hrun _ _ (by rw [hv,hv2];exact hr)]
      have hdrew:∀ x v,RepI c.F ρ (look hp) w x v->RepI c.F ρ (look hp) { w with drawn:=w.drawn+1 } x v:=fun x v hx=>hx.trans' (Trans.drew c.F (fun _=>True) ρ (look hp) w) (fun hx=>by obtain ⟨k,hk⟩:=hx.some;exact hk.2 hk.1)
      have hge:=grownCap_ge w (n+n2) cc e
      have hcm2:=grownCap_le_maxLen w (n+n2) cc e (by simp only [maxLen];omega)
      have hA:=h.drew.alloc hσ hc hfr hhp (grownCap w (n+n2) cc e) (.box (cs++cs2)) (.cells ((r.toList.take n).toArray++((List.range n2).map u2).toArray++Builtin.zeroCells z.cells (grownCap w (n+n2) cc e - (n+n2))) e) fun keep _=>by
        refine .box (cs++cs2) e _ (fun j=>if j<n then u j else u2 (j - n)) (z0j _ _) (by simp;omega) (fun j x hj=>?_) (hall _ (fun j x hj=>keep _ _ (hdrew _ _ (hrep j x hj)) (z0z hnm1 (List.mem_of_getElem? hj))) fun j x hj=>keep _ _ (hdrew _ _ (hrep2 j x hj)) (z0z hnm (List.mem_of_getElem? hj))) ⟨fun hh=>absurd hh (by simp only [maxLen] at hcm2;unfold zg7;omega),fun _ _=>by simp [size_zeroCells,hzs];omega⟩
        have:=hval (r.toList.take n) (Builtin.zeroCells z.cells (grownCap w (n+n2) cc e - (n+n2))).toList hpl (fun j x hj=>by
            have:=(List.getElem?_eq_some_iff.1 hj).1
            rw [List.getElem?_take,if_pos oM0,Array.getElem?_toList,hcell j x hj]) j x hj
        rw [<- this,<- Array.getElem?_toList]
        simp
      have hA2:=hA.drop (k:=k)
      have hsame:look ((k,none)::(k',some (.box (cs++cs2)))::hp)=look ((k',some (.box (cs++cs2)))::(k,none)::hp):=by
        funext j
        by_cases e1:j=k'
        · subst e1;rw [z0b,z08 hne,z0b]
        · rw [z08 (k:=k') (Ne.symm e1)]
          by_cases e2:j=k
          · subst e2;rw [z0b,z0b]
          · rw [z08 (Ne.symm e2),z08 (Ne.symm e1),z08 (Ne.symm e2)]
      rw [hsame] at hA2
      exact hK _ _ _ hA2 (.bs _ _ _ fun cs' h'=>⟨w.heap.size,_,(z0i hne).trans z00,hge,hcm2,rfl⟩)
theorem z6q {t:TypeId} {x y:Operand} {n by_:Nat} {s:RT} {z:Value} {σ:Heap'} (ho:o.op = .makeSlice t x y) (hx:fr.ev x=some (.pv (.val (.int .i64 n)))) (hy:fr.ev y=some (.pv (.val (.int .i64 n))))
    (hu:P.underlying t=some (.slice s.e)) (hz:((P.info? s.e).bind (·.zero))=some z) (hi:(P.info? s.e).map (fun i=>(i.size,i.bytes))=some (s.n,by_)) (hzs:z.cells.size=s.n) (hpos:0<s.n) (hn:n<2 ^ 63) (hb:by_*n<=281474976710656) :
    Ok P c o fr σ (.pv (.seq (List.replicate n (z.cells.toList.map .val)))) σ:=by
  intro ρ w a K Q h hK
  cases hq:P.info? s.e with
  | none=>simp [hq] at hi
  | some i =>
    have hsz:i.size=s.n:=by simp [hq] at hi;exact hi.1
    have hby:i.bytes=by_:=by simp [hq] at hi;exact hi.2
    have hiz:i.zero=some z:=by simpa [hq] using hz
    have hwrap:IntKind.i64.wrap (n:Int)=n:=IntWalk.i64_in _ oM0
    have hrun:(execOp a.eval o).run P w = .ok (.value (.slice (some ⟨w.heap.size,0,none⟩) n n)) (w.alloc (.cells ((Array.range (n*s.n)).map (z.cells[· % z.cells.size]!)) s.e)):=by
      have hnr:∀ r,(newRow s.e r).run P w = .ok ⟨w.heap.size,0,none⟩ (w.alloc (.cells r s.e)):=fun _=>rfl
      have hti:(typeInfo s.e).run P w = .ok i w:=by simp [typeInfo,hq]
      have hso:(sizeOf s.e).run P w = .ok s.n w:=z06 (by simp [hq,hsz]) w
      have hzv:(zeroValue s.e).run P w = .ok z w:=by simp [zeroValue,typeInfo,hq,hiz]
      have h2:(by_:Int)*n<=281474976710656:=by
        have:((by_*n:Nat):Int)<=281474976710656:=by omega
        rwa [Int.natCast_mul] at this
      simp only [execOp,ho,Instr.makeSlice,Sem.run_bind,run_underlying hu,Result.andThen_ok,z03 h hx,z03 h hy,asInt,asIntOf,Sem.run_pure,hti,hwrap,hby]
      rw [if_neg (by simpa using h2)]
      simp only [Sem.run_bind,z54,Result.andThen_ok,hso,Int.toNat_natCast]
      by_cases h0:n*s.n=0
      · rw [if_pos h0]
        simp only [Sem.run_bind,Sem.run_pure,Result.andThen_ok,hnr]
        have e1:∀ f g:Nat->Value,(Array.range (n*s.n)).map f=(Array.range (n*s.n)).map g:=fun f g=>by rw [h0];simp
        rw [e1 _ (z.cells[· % z.cells.size]!)]
      · rw [if_neg h0]
        simp only [Sem.run_bind,Sem.run_pure,Result.andThen_ok,hzv,hnr]
    unfold Oper.wp
    rw [hrun]
    obtain ⟨h3,keep⟩:=h.push (.cells ((Array.range (n*s.n)).map (z.cells[· % z.cells.size]!)) s.e)
    refine hK ρ _ _ h3 (.pv _ _ ?_)
    have hll:(List.replicate n (z.cells.toList.map PV.val)).length=n:=by simp
    have hbig:by_*n<=281474976710656:=hb
    have:RepP (owned c.F ρ) (w.alloc (.cells ((Array.range (n*s.n)).map (z.cells[· % z.cells.size]!)) s.e)) (.seq (List.replicate n (z.cells.toList.map .val))) (.slice (some ⟨w.heap.size,0,none⟩) (List.replicate n (z.cells.toList.map PV.val)).length n):=by
      refine .seq _ _ n w.heap.size 0 (fun _ j=>z.cells[j]!) (fun _=>rfl) (fun _=>⟨h.fresh,by simp⟩) sI0 (by simp only [maxLen];omega) (fun i el hi j x hj=>?_) fun i el hi j x hj=>?_
      · have hel:=List.eq_of_mem_replicate (List.mem_of_getElem? hi)
        have hin:i<n:=by have:=(List.getElem?_eq_some_iff.1 hi).1;simpa using this
        subst hel
        have hjs:j<s.n:=by have:=(List.getElem?_eq_some_iff.1 hj).1;simp [hzs] at this;exact this
        have hlt:i*s.n+j<n*s.n:=by
          have:(i+1)*s.n<=n*s.n:=Nat.mul_le_mul_right _ oM0
          rw [Nat.add_mul] at this;omega
        rw [z0w (z0j w _)]
        simp [hlt,hzs,Nat.mod_eq_of_lt hjs]
      · have hel:=List.eq_of_mem_replicate (List.mem_of_getElem? hi)
        subst hel
        simp only [List.getElem?_map,Option.map_eq_some_iff,Array.getElem?_toList] at hj
        obtain ⟨v,hv,rfl⟩:=hj
        have:z.cells[j]! = v:=by
          have hlt:=(Array.getElem?_eq_some_iff.1 hv).1
          simp [hlt] at hv ⊢
          exact hv
        rw [this]
        exact .val v
    rwa [hll] at this
end
section
variable {P:Program} {c:Cx} {R1:Nat->Prop} {o:Oper} {fr:Fr} {hp:Hp}
theorem RepI.toSp {F:Nat->Prop} {ρ:Loc} {σ:Heap'} {w:World} {k n:Nat} {v:Value} (h:RepI F ρ σ w (.sl k n) v):RepI F ρ σ w (.sp k n n) v:=by
  cases h with
  | sl _ _ _ hh =>
    refine .sp k n n v fun s els h1=>⟨(hh s els h1).1,fun hl=>?_⟩
    rcases (hh s els h1).2 hl with ⟨b,cc,h2,h3⟩ | ⟨h2,h3,h4⟩
    · exact .inl ⟨Nat.le_refl _,b,cc,h2,h3⟩
    · exact .inr ⟨h2,h3,h3,h4⟩
theorem RepI.ofSp {F:Nat->Prop} {ρ:Loc} {σ:Heap'} {w:World} {k n:Nat} {v:Value} (h:RepI F ρ σ w (.sp k n n) v):RepI F ρ σ w (.sl k n) v:=by
  cases h with
  | sp _ _ _ _ hh =>
    refine .sl k n v fun s els h1=>⟨(hh s els h1).1,fun hl=>?_⟩
    rcases (hh s els h1).2 hl with ⟨_,b,cc,h2,h3⟩ | ⟨h2,h3,_,h4⟩
    · exact .inl ⟨b,cc,h2,h3⟩
    · exact .inr ⟨h2,h3,h4⟩
theorem All.sp {ρ:Loc} {w:World} {a:Act} {v:Value} (h:All c ρ (look hp) w fr a) {k n m:Nat} {s:RT} {els:List (List PV)} (hr:RepI c.F ρ (look hp) w (.sp k n m) v) (hk:look hp k=some (.row s els)) (hn:els.length=m) :
    (∃ (b cc:Nat) (r:Array Value) (u:Nat->Nat->Value),n<=m/\v = .slice (some ⟨b,0,none⟩) n cc /\ ρ k=some (b,cc)/\w.heap[b]? = some (.cells r s.e (0,0))/\r.size=cc*s.n/\m<=cc/\cc<=maxLen/\(∀ el∈els,el.length=s.n) /\
      (∀ i el,els[i]? = some el->∀ j x,el[j]? = some x->r[i*s.n+j]? = some (u i j))/\∀ i el,els[i]? = some el->∀ j x,el[j]? = some x->RepP (owned c.F ρ) w x (u i j)) ∨
    (v = .slice none 0 0 /\ ρ k=none/\els=[]/\n=0/\m=0):=by
  cases hr with
  | sp _ _ _ _ hh =>
    rcases (hh s els hk).2 hn with ⟨hnm,b,cc,hρ,rfl⟩ | ⟨hρ,hz,hz2,rfl⟩
    · obtain ⟨o1,h1,h2⟩:=h.rel.obj k b cc hρ
      rw [hk] at h1;cases h1
      cases h2 with
      | row _ _ r u h3 h4 h5 h6 h7 h8 h9=>exact .inl ⟨b,cc,r,u,hnm,rfl,hρ,h3,h4,hn ▸ h5,h6,h7,h8,h9⟩
    · exact .inr ⟨rfl,hρ,List.eq_nil_of_length_eq_zero (hn.trans hz),hz2,hz⟩
theorem ze8 {t e:TypeId} {x:Operand} {k n m:Nat} {s:RT} {els:List (List PV)} (ho:o.op = .call { callee:=.builtin .len,args:=#[x],argTypes:=#[t] }) (hx:fr.ev x=some (.sp k n m)) (hk:look hp k=some (.row s els)) (hn:els.length=m)
    (hu:P.underlying t=some (.slice e)):OkV P c R1 o fr (look hp) (.pv (.val (.int .i64 n))):=by
  intro ρ w a h
  refine ⟨.int .i64 n,fun w2 _=>?_,z0r _⟩
  rcases h.sp (h.ev hx) hk hn with ⟨b,cc,r,u,_,hv,_⟩ | ⟨hv,_,_,he,_⟩
  · simp [execOp,ho,hv,resolve,Sem.run_bind,invoke,builtin,Builtin.len_,run_underlying hu,goInt]
  · subst he
    simp [execOp,ho,hv,resolve,Sem.run_bind,invoke,builtin,Builtin.len_,run_underlying hu,goInt]
theorem z8p {t:TypeId} {x y:Operand} {k n i m':Nat} {m:Int} {kk:IntKind} {s:RT} {els:List (List PV)} (ho:o.op = .indexAddr t x y) (hx:fr.ev x=some (.sp k n m')) (hy:fr.ev y=some (.pv (.val (.int kk m)))) (hk:look hp k=some (.row s els)) (hn:els.length=m')
    (hu:P.underlying t=some (.slice s.e)) (he:(P.info? s.e).map (·.size)=some s.n) (hi:i<n) (hm:m=i):OkV P c R1 o fr (look hp) (.rpt k m' (i*s.n)):=by
  subst hm
  intro ρ w a h
  rcases h.sp (h.ev hx) hk hn with ⟨b,cc,r,u,hnm,hv,hρ,h3,h4,hc,hcm,hwe,hcells,hu'⟩ | ⟨_,_,_,hz,_⟩
  · refine ⟨.pointer (some ⟨b,i*s.n,none⟩),fun w2 _=>?_,.rpt _ _ _ _ fun s' els' h'=>?_⟩
    · simp [execOp,ho,hv,z03 h hy,Instr.indexAt,Sem.run_bind,asIntOf,run_underlying hu,hi,z06 he,Addr.add_mid]
    · rw [hk] at h';cases h'
      exact ⟨by omega,fun _=>⟨b,cc,hρ,rfl⟩⟩
  · omega
theorem z40 {t e:TypeId} {x:Operand} {hi:Option Operand} {k n m j q:Nat} {s:RT} {els:List (List PV)} (ho:o.op = .slice t x none hi none) (hx:∀ ρ w a,All c ρ (look hp) w fr a->RepI c.F ρ (look hp) w (.sp k n m) (a.eval x)) (hk:look hp k=some (.row s els)) (hn:els.length=m)
    (hu:P.underlying t=some (.slice e)) (hs:(P.info? e).map (·.size)=some q) (hhi:(hi=none/\j=n)∨∃ y k,hi=some y/\fr.ev y=some (.pv (.val (.int k j)))) (hj:j<=n):OkV P c R1 o fr (look hp) (.sp k j m):=by
  intro ρ w a h
  have hr:=hx ρ w a h
  generalize hv:a.eval x=v at hr
  have hund:∀ w,(underlying t).run P w = .ok (.slice e) w:=run_underlying hu
  have key:∀ (ad:Option Addr) (cap:Nat),n<=cap->∀ w,(Instr.sliceAt t (.slice ad n cap) none (hi.map a.eval) none).run P w = .ok (.slice (if cap=0 then ad else ad.map (·.add (0*q))) (j - 0) (cap - 0)) w:=by
    intro ad cap hcap w
    have hb':(Instr.sliceBounds true n cap none (hi.map a.eval) none).run P w = .ok (0,j,cap) w:=by
      rcases hhi with ⟨rfl,rfl⟩ | ⟨y',k',rfl,hy'⟩
      · simp [Instr.sliceBounds]
      · have e1:j<=cap:=by omega
        simp [Instr.sliceBounds,Instr.sliceBound,z03 h hy',asIntOf,e1]
    simp only [Instr.sliceAt,Instr.slice,Sem.run_bind,hund,Result.andThen_ok,hb',z06 hs]
    rfl
  rcases h.sp hr hk hn with ⟨b,cc,r,u,hnm,rfl,hρ,h3,h4,hc,hcm,hwe,hcells,hu'⟩ | ⟨rfl,hρ,rfl,rfl,rfl⟩
  · refine ⟨.slice (some ⟨b,0,none⟩) j cc,fun w2 _=>?_,.sp _ _ _ _ fun s' els' h'=>?_⟩
    · simp only [execOp,ho,hv,Option.map_none,Sem.run_bind,key _ cc oM0,Result.andThen_ok]
      simp [Addr.add_mid]
    · rw [hk] at h';cases h'
      exact ⟨by omega,fun _=>.inl ⟨by omega,b,cc,hρ,rfl⟩⟩
  · have hj0:j=0:=by omega
    subst hj0
    refine ⟨.slice none 0 0,fun w2 _=>?_,.sp _ _ _ _ fun s' els' h'=>?_⟩
    · simp only [execOp,ho,hv,Option.map_none,Sem.run_bind,key _ 0 oM0,Result.andThen_ok]
      rfl
    · rw [hk] at h';cases h'
      exact ⟨Nat.le_refl _,fun _=>.inr ⟨hρ,rfl,rfl,rfl⟩⟩
theorem z5j {t:TypeId} {x y:Operand} {k n m by_:Nat} {s:RT} {els:List (List PV)} {el:List PV} (ho:o.op = .call { callee:=.builtin .append,args:=#[x,y],argTypes:=#[t,t] }) (hx:fr.ev x=some (.sp k n m)) (hy:fr.ev y=some (.pv (.seq [el])))
    (hk:look hp k=some (.row s els)) (hn:els.length=m) (hnm:n<m) (hR:¬ c.R k) (ht:P.underlying t=some (.slice s.e)) (hi:(P.info? s.e).map (fun i=>(i.size,i.bytes,(i.zero.map fun z=>z.cells.size)))=some (s.n,by_,some s.n))
    (hw:el.length=s.n) (hone:∀ x∈el,x.one=true) :
    Ok P c o fr (look hp) (.sp k (n+1) m) (look ((k,some (.row s (els.set n el)))::hp)):=by
  intro ρ w a K Q h hK
  cases hq:P.info? s.e with
  | none=>simp [hq] at hi
  | some i =>
    have hsz:i.size=s.n:=by simp [hq] at hi;exact hi.1
    have hlk':look ((k,some (.row s (els.set n el)))::hp) k=some (.row s (els.set n el)):=z0b
    obtain ⟨ad,cap,u',hvy,had,hone',hr'⟩:=(h.ev hy).inv_seq.flat (s:=s.n) (fun e he=>by rw [List.mem_singleton.1 he];exact hw) (fun e he x hx=>by rw [List.mem_singleton.1 he] at hx;exact hone x hx)
    obtain ⟨ad,rfl,hcell⟩:=had sI0
    simp only [List.length_cons,List.length_nil,Nat.zero_add,Nat.one_mul] at hvy hcell hone'
    have hlenN:((List.range s.n).map fun q=>u' (q / s.n) (q % s.n)).length=1*i.size:=by simp [hsz]
    have hrun:∀ (v:Value) (w':World),(Builtin.append_ #[t,t] o.type #[a.eval x,a.eval y]).run P w = .ok v w'->(execOp a.eval o).run P w = .ok (.value v) w':=fun v w' hr=>by
      simp only [execOp,ho,resolve,Sem.run_bind,Sem.run_pure,Result.andThen_ok,invoke,builtin,List.map_toArray,List.map_cons,List.map_nil,hr]
    rcases h.sp (h.ev hx) hk hn with ⟨b,cc,r,u,_,hv,hρ,h3,h4,hc,hcm,hwe,hcells,hu⟩ | ⟨_,_,_,_,hz⟩
    · unfold Oper.wp
      have hroom:n+1<=cc:=by omega
      have hle:(n+1)*s.n<=cc*s.n:=Nat.mul_le_mul_right _ hroom
      have hnn:(n+1)*s.n=n*s.n+s.n:=by rw [Nat.add_mul,Nat.one_mul]
      have hr:=run_append_room (P:=P) w t o.type s.e i ht hq b n cc r h3 ad 1 cap _ hlenN hcell hone' hroom (by rw [hsz];simp;omega)
      rw [hsz] at hr
      rw [hrun _ _ (by rw [hv,hvy];exact hr)]
      have hpl:(r.toList.take (n*s.n)).length=n*s.n:=by simp;omega
      refine hK ρ _ _ (h.write hρ hk ⟨rfl,by simp⟩ hR rfl rfl rfl sI0 (fun j hj=>setRow_other w b j _ hj) fun _ keep=>?_) (.sp _ _ _ _ fun s1 els1 h1=>?_)
      · refine .row s (els.set n el) _ (fun i j=>if i=n then u' 0 j else u i j) (setRow_heap w b r _ s.e _ h3) ?_ (by simp;omega) hcm (fun e he=>?_) (fun i' e' hi' j' x hj'=>?_) fun i' e' hi' j' x hj'=>?_
        · simp only [List.size_toArray,List.length_append,List.length_drop,Array.length_toList,List.length_map,List.length_range]
          rw [hpl]
          omega
        · rcases List.mem_or_eq_of_mem_set he with h5 | rfl
          · exact hwe _ h5
          · exact hw
        · have hel':e'.length=s.n:=by
            rcases List.mem_or_eq_of_mem_set (List.mem_of_getElem? hi') with h5 | rfl
            · exact hwe _ h5
            · exact hw
          have hj2:j'<s.n:=by have:=(List.getElem?_eq_some_iff.1 hj').1;omega
          rw [List.getElem?_toArray]
          by_cases e1:i'=n
          · subst e1
            have:e'=el:=by
              rw [List.getElem?_set_self oM0] at hi'
              exact (Option.some.inj hi').symm
            subst this
            rw [if_pos rfl,List.append_assoc,List.getElem?_append_right oM0,hpl,List.getElem?_append_left (by simp;omega)]
            have:i'*s.n+j' - i'*s.n=j':=by omega
            rw [this,List.getElem?_map,List.getElem?_range hj2,Option.map_some,Nat.div_eq_of_lt hj2,Nat.mod_eq_of_lt hj2]
          · rw [List.getElem?_set_ne (Ne.symm e1)] at hi'
            rw [if_neg e1]
            have h5:=hcells i' e' hi' j' x hj'
            rcases Nat.lt_or_ge i' n with hlt | hge
            · have:(i'+1)*s.n<=n*s.n:=Nat.mul_le_mul_right _ oM0
              rw [Nat.add_mul,Nat.one_mul] at this
              rw [List.append_assoc,List.getElem?_append_left oM0,List.getElem?_take,if_pos oM0,Array.getElem?_toList,h5]
            · have:(n+1)*s.n<=i'*s.n:=Nat.mul_le_mul_right _ oM0
              rw [List.getElem?_append_right (by simp;omega),List.getElem?_drop,Array.getElem?_toList,<- h5]
              congr 1
              simp
              omega
        · by_cases e1:i'=n
          · subst e1
            have:e'=el:=by
              rw [List.getElem?_set_self oM0] at hi'
              exact (Option.some.inj hi').symm
            subst this
            rw [if_pos rfl]
            exact keep _ _ (hr' 0 e' rfl j' x hj')
          · rw [List.getElem?_set_ne (Ne.symm e1)] at hi'
            rw [if_neg e1]
            exact keep _ _ (hu i' e' hi' j' x hj')
      · rw [hlk'] at h1;cases h1
        exact ⟨by simp;omega,fun _=>.inl ⟨by omega,b,cc,hρ,rfl⟩⟩
    · omega
theorem Ok.reI {t:Nat} {y y' x:IV} {σ σ':Heap'} (ht:fr.get t=some y) (h1:∀ F ρ σ w v,RepI F ρ σ w y v->RepI F ρ σ w y' v) (h2:∀ F ρ σ w v,RepI F ρ σ w y' v->RepI F ρ σ w y v) (h:Ok P c o ((t,y')::fr) σ x σ'):Ok P c o fr σ x σ':=by
  intro ρ w a Kc Q ha hK
  have ha2:All c ρ σ w ((t,y')::fr) a:=ha.putFr ht fun u hu=>h1 _ _ _ _ _ hu
  refine h ρ w a Kc Q ha2 fun ρ' w' u ha' hu=>hK ρ' w' u ⟨ha'.rel,fun t' z hz=>?_,ha'.tr,ha'.df,ha'.sz,ha'.kk⟩ hu
  by_cases e:t=t'
  · subst e
    rw [ht] at hz
    cases hz
    obtain ⟨v,hv,hr⟩:=ha'.fr t y' (by simp [Fr.get])
    exact ⟨v,hv,h2 _ _ _ _ _ hr⟩
  · exact ha'.fr t' z (by simp only [Fr.get,z1m e];exact hz)
theorem z4t {t k m u v by_:Nat} {s:RT} {els:List (List PV)} {el:List PV} (hut:Nat.beq u v=false) (ho:o.op = .call { callee:=.builtin .append,args:=#[.tmp u,.tmp v],argTypes:=#[t,t] }) (hx:fr.get u=some (.sp k m m)) (hy:fr.get v=some (.pv (.seq [el])))
    (hk:look hp k=some (.row s els)) (hn:els.length=m) (hR:¬ c.R k) (ht:P.underlying t=some (.slice s.e)) (hi:(P.info? s.e).map (fun i=>(i.size,i.bytes,(i.zero.map fun z=>z.cells.size)))=some (s.n,by_,some s.n)) (hs:0<s.n)
    (hw:el.length=s.n) (hone:∀ x∈el,x.one=true) (hmax:m+1<=maxLen) (hb:(m+1)*by_<=140737488355328) :
    Ok P c o fr (look hp) (.sp k (m+1) (m+1)) (look ((k,some (.row s (els++[el])))::hp)):=by
  refine Ok.reI (y':=.sl k m) hx (fun _ _ _ _ _ h=>h.ofSp) (fun _ _ _ _ _ h=>h.toSp) ?_
  have hu:Fr.ev ((u,.sl k m)::fr) (.tmp u)=some (.sl k m):=by simp [Fr.ev,Fr.get]
  have hv:Fr.ev ((u,.sl k m)::fr) (.tmp v)=some (.pv (.seq [el])):=by simp only [Fr.ev,Fr.get,hut];exact hy
  have:=aPp (c:=c) (hp:=hp) ho hu hv hk hn hR ht hi hs (fun e he=>by rw [List.mem_singleton.1 he];exact hw) (fun e he x hx=>by rw [List.mem_singleton.1 he] at hx;exact hone x hx) hmax hb
  exact fun ρ w a Kc Q ha hK=>this ρ w a Kc Q ha fun ρ' w' u ha' hu=>hK ρ' w' u ha' hu.toSp
end
section
variable {P:Program} {o:Oper} {fr fr2:Fr} {hp hp2:Hp} {Rl:List Nat}
inductive TI where
  | int (k:IntKind)
  | bool
  | str
  | slice (e:Nat)
  | struct (fs:List (Nat × Nat))
  | arr (len e:Nat)
  | map (k e:Nat)
  | ptr (e:Nat)
  | one
inductive ZV where
  | int (k:IntKind)
  | bool
  | str
  | slice
  | map
  | ptr
  | fn
  | iface
def ZV.val:ZV->Value
  | .int k=>.int k 0
  | .bool=>.bool false
  | .str=>.string ⟨#[]⟩
  | .slice=>.slice none 0 0
  | .map=>.map none
  | .ptr=>.pointer none
  | .fn=>.nilFunc
  | .iface=>.nilIface
def ZV.isB:ZV->Value->Bool
  | .int k,.int k' n=>k'==k&&n==0
  | .bool,.bool b=>!b
  | .str,.string s=>s.data.isEmpty
  | .slice,.slice none 0 0=>true
  | .map,.map none=>true
  | .ptr,.pointer none=>true
  | .fn,.nilFunc=>true
  | .iface,.nilIface=>true
  | _,_=>false
theorem ZV.isB_ok {z:ZV} {v:Value} (h:z.isB v=true):v=z.val:=by
  unfold ZV.isB at h
  split at h
  · simp only [Bool.and_eq_true,beq_iff_eq] at h;simp [ZV.val,h.1,h.2]
  · simp only [Bool.not_eq_true'] at h;subst h;rfl
  · rename_i s
    have:s.data = #[]:=by simpa using h
    cases s;simp_all [ZV.val]
  all_goals first | rfl | cases h
structure TE where
  i:TI
  n:Nat
  b:Nat
  z:List ZV
def TI.row:TI->Bool
  | .struct _=>true
  | .arr ..=>true
  | _=>false
def TI.is:TI->TypeDesc->Prop
  | .int k,d=>d = .int k
  | .bool,d=>d = .bool
  | .str,d=>d = .string
  | .slice e,d=>d = .slice e
  | .struct fs,d=>∃ a,d = .struct a/\a.toList.map (fun f=>(f.offset,f.type))=fs
  | .arr len e,d=>d = .array len e
  | .map k e,d=>d = .map k e
  | .ptr e,d=>d = .pointer e
  | .one,d=>d.isRow=false
def TI.isB:TI->TypeDesc->Bool
  | .int k,.int k'=>k'==k
  | .bool,.bool=>true
  | .str,.string=>true
  | .slice e,.slice e'=>Nat.beq e' e
  | .struct fs,.struct a=>a.toList.map (fun f=>(f.offset,f.type))==fs
  | .arr len e,.array len' e'=>Nat.beq len' len&&Nat.beq e' e
  | .map k e,.map k' e'=>Nat.beq k' k&&Nat.beq e' e
  | .ptr e,.pointer e'=>Nat.beq e' e
  | .one,d=>!d.isRow
  | _,_=>false
theorem TI.isB_ok {i:TI} {d:TypeDesc} (h:i.isB d=true):i.is d:=by
  unfold TI.isB at h
  split at h
  · simp only [beq_iff_eq] at h;simp [TI.is,h]
  · rfl
  · rfl
  · simp [TI.is,Nat.eq_of_beq_eq_true h]
  · exact ⟨_,rfl,by simpa using h⟩
  · simp only [Bool.and_eq_true] at h;simp [TI.is,Nat.eq_of_beq_eq_true h.1,Nat.eq_of_beq_eq_true h.2]
  · simp only [Bool.and_eq_true] at h;simp [TI.is,Nat.eq_of_beq_eq_true h.1,Nat.eq_of_beq_eq_true h.2]
  · simp [TI.is,Nat.eq_of_beq_eq_true h]
  · simpa [TI.is] using h
  · cases h
theorem TI.is_row {i:TI} {d:TypeDesc} (h:i.is d):d.isRow=i.row:=by
  cases i with
  | struct fs=>obtain ⟨a,rfl,_⟩:=h;rfl
  | one=>exact h
  | _=>cases h;rfl
def zsB:List ZV->List Value->Bool
  | [],[]=>true
  | z::r,v::s=>z.isB v&&zsB r s
  | _,_=>false
theorem zsB_ok:∀ {l:List ZV} {m:List Value},zsB l m=true->m=l.map ZV.val
  | [],[],_=>rfl
  | z::r,v::s,h=>by
    simp only [zsB,Bool.and_eq_true] at h
    rw [ZV.isB_ok h.1,zsB_ok h.2];rfl
def TE.zv (e:TE):Value:=match e.i.row with
  | true=>.agg (e.z.map ZV.val).toArray
  | false=>(e.z.headD .bool).val
def TE.zB (e:TE) (v:Value):Bool:=match e.i.row with
  | true=>match v with
    | .agg cs=>zsB e.z cs.toList
    | _=>false
  | false=>match e.z with
    | [z]=>z.isB v
    | _=>false
theorem TE.zB_ok {e:TE} {v:Value} (h:e.zB v=true):v=e.zv/\v.cells.toList=e.z.map ZV.val:=by
  unfold TE.zB at h
  unfold TE.zv
  split at h
  · rename_i hr
    split at h
    · rename_i cs
      have:=zsB_ok h
      exact ⟨by simp [<- this],this⟩
    · cases h
  · rename_i hr
    split at h
    · rename_i z hz
      obtain rfl:=ZV.isB_ok h
      rw [hz]
      exact ⟨rfl,by cases z<;>rfl⟩
    · cases h
def teB (P:Program) (t:Nat) (e:TE):Bool :=
  (match P.underlying t with
    | some d=>e.i.isB d
    | none=>false) &&
  (match P.info? t with
    | some i=>Nat.beq i.size e.n&&Nat.beq i.bytes e.b&&(match e.z with
      | []=>true
      | _=>Nat.beq e.z.length e.n&&(match i.zero with
        | some z=>e.zB z
        | none=>false))
    | none=>false)
section
variable {t:Nat} {e:TE}
theorem z0o (h:teB P t e=true):∃ d,P.underlying t=some d/\e.i.is d:=by
  unfold teB at h
  simp only [Bool.and_eq_true] at h
  replace h:=h.1
  split at h
  · rename_i d hd;exact ⟨d,hd,TI.isB_ok h⟩
  · cases h
theorem z5a (h:teB P t e=true):∃ i,P.info? t=some i/\i.size=e.n/\i.bytes=e.b/\(e.z≠[]->e.z.length=e.n/\i.zero=some e.zv/\e.zv.cells.toList=e.z.map ZV.val):=by
  unfold teB at h
  simp only [Bool.and_eq_true] at h
  replace h:=h.2
  split at h
  · rename_i i hi
    simp only [Bool.and_eq_true] at h
    refine ⟨i,hi,Nat.eq_of_beq_eq_true h.1.1,Nat.eq_of_beq_eq_true h.1.2,fun hz=>?_⟩
    have h2:=h.2
    split at h2
    · rename_i h0;exact absurd h0 hz
    · simp only [Bool.and_eq_true] at h2
      have h3:=h2.2
      split at h3
      · rename_i z hz
        obtain ⟨rfl,h4⟩:=TE.zB_ok h3
        exact ⟨Nat.eq_of_beq_eq_true h2.1,hz,h4⟩
      · cases h3
  · cases h
theorem z0g (h:teB P t e=true):(P.info? t).map (·.size)=some e.n:=by
  obtain ⟨i,hi,h1,_⟩:=z5a h
  simp [hi,h1]
theorem te_by (h:teB P t e=true):(P.info? t).map (fun i=>(i.size,i.bytes))=some (e.n,e.b):=by
  obtain ⟨i,hi,h1,h2,_⟩:=z5a h
  simp [hi,h1,h2]
theorem z1l (h:teB P t e=true) (hz:e.z≠[]):(P.info? t).bind (·.zero)=some e.zv:=by
  obtain ⟨i,hi,_,_,h2⟩:=z5a h
  simp [hi,(h2 hz).2.1]
theorem z15 (h:teB P t e=true) (hz:e.z≠[]):e.zv.cells.toList=e.z.map ZV.val/\e.zv.cells.size=e.n:=by
  obtain ⟨i,hi,_,_,h2⟩:=z5a h
  refine ⟨(h2 hz).2.2,?_⟩
  rw [<- Array.length_toList,(h2 hz).2.2,List.length_map]
  exact (h2 hz).1
theorem te_app (h:teB P t e=true) (hz:e.z≠[]):(P.info? t).map (fun i=>(i.size,i.bytes,(i.zero.map fun z=>z.cells.size)))=some (e.n,e.b,some e.n):=by
  obtain ⟨i,hi,h1,h2,h3⟩:=z5a h
  simp [hi,h1,h2,(h3 hz).2.1,(z15 h hz).2]
end
structure TB (P:Program) where
  ti:Nat->Option TE
  tok:∀ t e,ti t=some e->teB P t e=true
  fn:Nat->Bool
  fok:∀ f,fn f=true->z4j P f
  mx:P.follows .mixedOrders=true
def tFind:List (Nat × TE)->Nat->Option TE
  | [],_=>none
  | (k,e)::r,t=>match Nat.beq k t with
    | true=>some e
    | false=>tFind r t
def tAll (P:Program):List (Nat × TE)->Bool
  | []=>true
  | (k,e)::r=>teB P k e&&tAll P r
theorem z9h:∀ {l:List (Nat × TE)} {t:Nat} {e:TE},tAll P l=true->tFind l t=some e->teB P t e=true
  | [],_,_,_,h=>by cases h
  | (k,e')::r,t,e,h1,h=>by
    simp only [tAll,Bool.and_eq_true] at h1
    simp only [tFind] at h
    split at h
    · rename_i hb
      obtain rfl:=Nat.eq_of_beq_eq_true hb
      cases h;exact h1.1
    · exact z9h h1.2 h
def entB (P:Program) (f:Nat):Bool:=match P.funcs[f]? with
  | some fn=>!(fn.name == "runtime.NumGoroutine") && !fn.body.isNone
  | none=>false
theorem entB_ok {f:Nat} (h:entB P f=true):z4j P f:=by
  unfold entB at h
  split at h
  · rename_i fn hf
    simp only [Bool.and_eq_true,Bool.not_eq_true'] at h
    exact ⟨fn,hf,h.1,h.2⟩
  · cases h
def nIn (k:Nat):List Nat->Bool
  | []=>false
  | j::r=>match Nat.beq j k with
    | true=>true
    | false=>nIn k r
theorem z13 {k:Nat}:∀ {l:List Nat},nIn k l=true↔k∈l
  | []=>by simp [nIn]
  | j::r=>by
    simp only [nIn,List.mem_cons]
    split
    · rename_i h;simp [Nat.eq_of_beq_eq_true h]
    · rename_i h
      have:k≠j:=fun e=>by subst e;simp at h
      simp [this,z13]
theorem z0m {k:Nat} {l:List Nat} (h:nIn k l=false):k∉l:=fun hm=>by rw [z13.2 hm] at h;cases h
def z73 (P:Program):List Nat->Bool
  | []=>true
  | f::r=>entB P f&&z73 P r
theorem z74 {f:Nat}:∀ {l:List Nat},z73 P l=true->nIn f l=true->z4j P f
  | [],_,h=>by cases h
  | g::r,h1,h=>by
    simp only [z73,Bool.and_eq_true] at h1
    simp only [nIn] at h
    split at h
    · rename_i hb;obtain rfl:=Nat.eq_of_beq_eq_true hb;exact entB_ok h1.1
    · exact z74 h1.2 h
def mkTB (P:Program) (l:List (Nat × TE)) (q:List Nat) (h:tAll P l=true) (h2:z73 P q=true) (mx:P.follows .mixedOrders=true):TB P where
  ti t:=tFind l t
  tok _ _ ht:=z9h h ht
  fn f:=nIn f q
  fok _ hf:=z74 h2 hf
  mx:=mx
structure Stp where
  x:IV
  wr:Hp
  rd:List Nat
  nw:List Nat
def agr (fr2 fr:Fr) (l:List Nat):Prop:=∀ t∈l,fr2.get t=fr.get t
def agh (hp2 hp:Hp) (l:List Nat):Prop:=∀ k∈l,look hp2 k=look hp k
def frsh (k:Nat) (fr:Fr) (hp:Hp):Bool:=match nmFr k fr with
  | true=>false
  | false=>match nmHp k hp with
    | true=>false
    | false=>match look hp k with
      | none=>true
      | some _=>false
theorem z0s {k:Nat} (h:frsh k fr hp=true):nmFr k fr=false/\nmHp k hp=false/\look hp k=none:=by
  unfold frsh at h
  split at h
  · cases h
  · rename_i h1
    split at h
    · cases h
    · rename_i h2
      split at h
      · rename_i h3;exact ⟨h1,h2,h3⟩
      · cases h
def zg4 (l:List Operand):List Nat:=l.flatMap fun
  | .tmp t=>[t]
  | _=>[]
def z05 (op:Op):List Nat:=zg4 op.operands.toList
theorem agr.evO {l:List Operand} (h:agr fr2 fr (zg4 l)) {y:Operand} (hy:y∈l):fr2.ev y=fr.ev y:=by
  cases y with
  | tmp t=>exact h t (List.mem_flatMap.2 ⟨.tmp t,hy,List.mem_singleton.2 rfl⟩)
  | _=>rfl
theorem agr.ev {op:Op} (h:agr fr2 fr (z05 op)) {y:Operand} {x:IV} (hx:fr.ev y=some x) (hy:y∈op.operands.toList):fr2.ev y=some x:=(h.evO hy).trans hx
theorem agr.evs {op:Op} (h:agr fr2 fr (z05 op)):∀ {os:List Operand} {xs:List IV},evs fr os=some xs->(∀ y∈os,y∈op.operands.toList)->evs fr2 os=some xs
  | [],xs,hx,_=>hx
  | y::r,xs,hx,hy=>by
    simp only [Go.Proofs.Ytnpiekoeammkgaa.evs] at hx ⊢
    split at hx
    · rename_i a b h1 h2
      rw [h.ev h1 (hy y (.head _)),h.evs h2 fun z hz=>hy z (.tail _ hz)]
      exact hx
    · cases hx
theorem agr.evParts {op:Op} (h:agr fr2 fr (z05 op)):∀ {ps:List (Nat × Operand)} {xs:List (Nat × IV)},z0v fr ps=some xs->(∀ y∈ps,y.2∈op.operands.toList)->z0v fr2 ps=some xs
  | [],xs,hx,_=>hx
  | (i,y)::r,xs,hx,hy=>by
    simp only [Go.Proofs.Ytnpiekoeammkgaa.z0v] at hx ⊢
    split at hx
    · rename_i a b h1 h2
      rw [h.ev h1 (hy (i,y) (.head _)),h.evParts h2 fun z hz=>hy z (.tail _ hz)]
      exact hx
    · cases hx
theorem agh.at {rd:List Nat} (h:agh hp2 hp rd) {k:Nat} {ob:Option HO} (hk:look hp k=ob) (hm:k∈rd):look hp2 k=ob:=(h k hm).trans hk
def OkF (P:Program) (Rl:List Nat) (o:Oper) (fr:Fr) (hp:Hp) (s:Stp):Prop :=
  ∀ (c:Cx) fr2 hp2,(∀ k,c.R k->k∈Rl)->(∀ k∈s.nw,c.σ k=none)->agr fr2 fr (z05 o.op)->agh hp2 hp s.rd->(∀ k∈s.nw,frsh k fr2 hp2=true)->Ok P c o fr2 (look hp2) s.x (look (s.wr++hp2))
theorem OkF.pure {x:IV} {rd:List Nat} (h:∀ (c:Cx) (R1:Nat->Prop) fr2 hp2,agr fr2 fr (z05 o.op)->agh hp2 hp rd->(∀ k∈rd,R1 k)->OkV P c R1 o fr2 (look hp2) x):OkF P Rl o fr hp ⟨x,[],rd,[]⟩ :=
  fun c fr2 hp2 _ _ ha hh _=>(h c (fun _=>True) fr2 hp2 ha hh fun _ _=>trivial).ok
inductive VAny (P:Program) (Rl:List Nat) (o:Oper) (fr:Fr) (hp:Hp) (K:Stp->Prop):Prop
  | mk {s:Stp} (h:OkF P Rl o fr hp s) (k:K s)
def Does (P:Program) (Rl:List Nat) (o:Oper) (fr:Fr) (hp:Hp) (K:Stp->Prop):Prop:=∃ s,K s/\OkF P Rl o fr hp s
def frcI:List IV->(List IV->Prop)->Prop
  | [],K=>K []
  | x::r,K=>frcI r fun l=>K (x::l)
theorem z11:∀ {l:List IV} {K:List IV->Prop},frcI l K->K l
  | [],_,h=>h
  | _::r,K,h=>z11 (l:=r) (K:=fun l=>K (_::l)) h
def frcP:List PV->(List PV->Prop)->Prop
  | [],K=>K []
  | x::r,K=>frcP r fun l=>K (x::l)
theorem z1p:∀ {l:List PV} {K:List PV->Prop},frcP l K->K l
  | [],_,h=>h
  | _::r,K,h=>z1p (l:=r) (K:=fun l=>K (_::l)) h
def bsel (b:Bool) (A B:Prop):Prop:=match b with
  | true=>A
  | false=>B
theorem z0p {b:Bool} {A B:Prop} (ht:b=true->A) (hf:b=false->B):bsel b A B:=by
  cases b with
  | true=>exact ht rfl
  | false=>exact hf rfl
def vev (fr:Fr) (y:Operand) (K:IV->Prop):Prop:=match fr.ev y with
  | some x=>K x
  | none=>False
theorem z09 {y:Operand} {K:IV->Prop} (h:vev fr y K):∃ x,fr.ev y=some x/\K x:=by
  unfold vev at h
  split at h
  · rename_i x hx;exact ⟨x,hx,h⟩
  · exact h.elim
def vti (T:TB P) (t:Nat) (K:TE->Prop):Prop:=match T.ti t with
  | some e=>K e
  | none=>False
theorem z0a {T:TB P} {t:Nat} {K:TE->Prop} (h:vti T t K):∃ e,teB P t e=true/\K e:=by
  unfold vti at h
  split at h
  · rename_i e he;exact ⟨e,T.tok _ _ he,h⟩
  · exact h.elim
def vbox (hp:Hp) (k:Nat) (K:List IV->Prop):Prop:=match look hp k with
  | some (.box cs)=>K cs
  | _=>False
theorem z0t {k:Nat} {K:List IV->Prop} (h:vbox hp k K):∃ cs,look hp k=some (.box cs)/\K cs:=by
  unfold vbox at h
  split at h
  · rename_i cs hk;exact ⟨cs,hk,h⟩
  · exact h.elim
def vrow (hp:Hp) (k:Nat) (K:RT->List (List PV)->Prop):Prop:=match look hp k with
  | some (.row s els)=>K s els
  | _=>False
theorem z0q {k:Nat} {K:RT->List (List PV)->Prop} (h:vrow hp k K):∃ s els,look hp k=some (.row s els)/\K s els:=by
  unfold vrow at h
  split at h
  · rename_i s els hk;exact ⟨s,els,hk,h⟩
  · exact h.elim
def vmap (hp:Hp) (k:Nat) (K:List (Value × PV)->Prop):Prop:=match look hp k with
  | some (.map es)=>K es
  | _=>False
theorem z6v {k:Nat} {K:List (Value × PV)->Prop} (h:vmap hp k K):∃ es,look hp k=some (.map es)/\K es:=by
  unfold vmap at h
  split at h
  · rename_i es hk;exact ⟨es,hk,h⟩
  · exact h.elim
def z0e (b:Bool) (A:Prop):Prop:=match b with
  | true=>A
  | false=>False
theorem z01 {b:Bool} {A:Prop} (h:z0e b A):b=true/\A:=by
  unfold z0e at h
  split at h
  · exact ⟨rfl,h⟩
  · exact h.elim
def vopt {α:Type} (x:Option α) (K:α -> Prop):Prop:=match x with
  | some a=>K a
  | none=>False
theorem z02 {α:Type} {x:Option α} {K:α -> Prop} (h:vopt x K):∃ a,x=some a/\K a:=by
  unfold vopt at h
  split at h
  · exact ⟨_,rfl,h⟩
  · exact h.elim
def z2w:IV->List Nat
  | .pv _=>[]
  | .ptr k _=>[k]
  | .sl k _=>[k]
  | .rpt k _ _=>[k]
  | .sp k _ _=>[k]
  | .bs k _=>[k]
  | .mp k=>[k]
  | _=>[]
def zb6 (hp:Hp) (z:IV) (A:Prop):Prop:=match z with
  | .pv p=>z0e p.one A
  | .ptr k _=>vbox hp k fun _=>A
  | .sl k n=>vrow hp k fun _ els=>els.length=n/\A
  | .sp k _ n=>vrow hp k fun _ els=>els.length=n/\A
  | .bs k _=>vbox hp k fun _=>A
  | .mp k=>vmap hp k fun _=>A
  | .fn ..=>A
  | _=>False
theorem z4f {z:IV} {A:Prop} (h:zb6 hp z A):A/\∀ hp2,agh hp2 hp (z2w z)->z.firm (look hp2):=by
  unfold zb6 at h
  split at h
  · obtain ⟨h1,h2⟩:=z01 h;exact ⟨h2,fun _ _=>h1⟩
  · obtain ⟨cs,h1,h2⟩:=z0t h;exact ⟨h2,fun hp2 hh=>⟨cs,hh.at h1 (.head _)⟩⟩
  · obtain ⟨s,els,h1,h2,h3⟩:=z0q h;exact ⟨h3,fun hp2 hh=>⟨s,els,hh.at h1 (.head _),h2⟩⟩
  · obtain ⟨s,els,h1,h2,h3⟩:=z0q h;exact ⟨h3,fun hp2 hh=>⟨s,els,hh.at h1 (.head _),h2⟩⟩
  · obtain ⟨cs,h1,h2⟩:=z0t h;exact ⟨h2,fun hp2 hh=>⟨cs,hh.at h1 (.head _)⟩⟩
  · obtain ⟨cs,h1,h2⟩:=z6v h;exact ⟨h2,fun hp2 hh=>⟨cs,hh.at h1 (.head _)⟩⟩
  · exact ⟨h,fun _ _=>trivial⟩
  · exact h.elim
def zh9 (hp:Hp):List IV->Prop->Prop
  | [],A=>A
  | z::r,A=>zb6 hp z (zh9 hp r A)
theorem z84:∀ {l:List IV} {A:Prop},zh9 hp l A->A/\∀ hp2,agh hp2 hp (l.flatMap z2w)->∀ z∈l,z.firm (look hp2)
  | [],A,h=>⟨h,fun _ _ z hz=>by cases hz⟩
  | z::r,A,h=>by
    obtain ⟨h1,h2⟩:=z4f h
    obtain ⟨h3,h4⟩:=z84 h1
    refine ⟨h3,fun hp2 hh y hy=>?_⟩
    simp only [List.flatMap_cons] at hh
    rcases List.mem_cons.1 hy with rfl | hy
    · exact h2 hp2 fun k hk=>hh k (List.mem_append_left _ hk)
    · exact h4 hp2 (fun k hk=>hh k (List.mem_append_right _ hk)) y hy
end
section
variable {P:Program} {T:TB P} {o:Oper} {fr:Fr} {hp:Hp} {Rl:List Nat} {K:Stp->Prop}
def z83 (fr:Fr) (y:Operand) (K:Stp->Prop):Prop:=vev fr y fun x=>K ⟨x,[],[],[]⟩
theorem vMove_ok {y:Operand} (ho:o.op = .move y) (h:z83 fr y K):Does P Rl o fr hp K:=by
  obtain ⟨x,hx,hk⟩:=z09 h
  exact ⟨_,hk,.pure fun c R1 fr2 hp2 ha _ _=>ok_move ho (ha.ev hx (by rw [ho];simp [Op.operands]))⟩
theorem zb0 {y:Operand} (ho:o.op = .assign y) (h:z83 fr y K):Does P Rl o fr hp K:=by
  obtain ⟨x,hx,hk⟩:=z09 h
  exact ⟨_,hk,.pure fun c R1 fr2 hp2 ha _ _=>ze3 ho (ha.ev hx (by rw [ho];simp [Op.operands]))⟩
def vPick (fr:Fr) (q y w:Operand) (K:Stp->Prop):Prop:=vev fr q fun b=>match b with
  | .pv (.val (.bool t))=>bsel t (z83 fr y K) (z83 fr w K)
  | _=>False
theorem vPick_ok {q y w:Operand} (ho:o.op = .pick q y w) (h:vPick fr q y w K):Does P Rl o fr hp K:=by
  obtain ⟨b,hb,hk⟩:=z09 h
  split at hk
  · rename_i t
    cases t with
    | true =>
      obtain ⟨x,hx,hk⟩:=z09 (show z83 fr y K from hk)
      exact ⟨_,hk,.pure fun c R1 fr2 hp2 ha _ _=>z7m ho (ha.ev hb (by rw [ho];simp [Op.operands])) (ha.ev hx (by rw [ho];simp [Op.operands]))⟩
    | false =>
      obtain ⟨x,hx,hk⟩:=z09 (show z83 fr w K from hk)
      exact ⟨_,hk,.pure fun c R1 fr2 hp2 ha _ _=>z6r ho (ha.ev hb (by rw [ho];simp [Op.operands])) (ha.ev hx (by rw [ho];simp [Op.operands]))⟩
  · exact hk.elim
def zc3:BinOp->Int->Int->Option Bool
  | .eql,m,n=>some (m==n)
  | .neq,m,n=>some (m != n)
  | .lss,m,n=>some (decide (m<n))
  | .leq,m,n=>some (decide (m<=n))
  | .gtr,m,n=>some (decide (m > n))
  | .geq,m,n=>some (decide (m ≥ n))
  | _,_,_=>none
theorem zc4 {p:BinOp} {k:IntKind} {m n:Int} {b:Bool} (h:zc3 p m n=some b):z1t p k m n=some (.bool b):=by
  cases p<;>simp only [zc3] at h<;>first | (cases h;done) | (cases h;rfl)
def zc5:BinOp->ByteArray->ByteArray->Option Bool
  | .eql,x,y=>some (x.toList==y.toList)
  | .neq,x,y=>some (!(x.toList==y.toList))
  | .lss,x,y=>some (Op.bytesLess x.toList y.toList)
  | .leq,x,y=>some (Op.bytesLess x.toList y.toList||x.toList==y.toList)
  | .gtr,x,y=>some (!(Op.bytesLess x.toList y.toList||x.toList==y.toList))
  | .geq,x,y=>some (!Op.bytesLess x.toList y.toList)
  | _,_,_=>none
theorem zc6 {p:BinOp} {x y:ByteArray} {b:Bool} (h:zc5 p x y=some b):z7x p x y=some (.bool b):=by
  cases p<;>simp only [zc5] at h<;>first | (cases h;done) | (cases h;rfl)
theorem z55 {op:BinOp} {t:TypeId} {x y:Operand} {p q:Option Addr} (w:World):(eqGuard op t x y (.pointer p) (.pointer q)).run P w = .ok () w:=by
  unfold eqGuard
  split<;>simp
theorem z3s {tp te:TypeId} {w:World} (p:Option Addr) (hp:P.underlying tp=some (.pointer te)):(Op.equal tp (.pointer p) (.pointer none)).run P w = .ok p.isNone w:=by
  have h:∀ d:Nat,(Op.equalIn (d+1) tp (.pointer p) (.pointer none)).run P w = .ok p.isNone w:=fun d=>by
    cases p<;>simp [Op.equalIn,run_underlying hp]
  simp [Op.equal,Op.maxDepth,h 9999]
theorem z5l {op:BinOp} {t:TypeId} {x y:Operand} {p q:Option Addr} {n m n' m':Nat} (w:World):(eqGuard op t x y (.slice p n m) (.slice q n' m')).run P w = .ok () w:=by
  unfold eqGuard
  split<;>simp
theorem z48 {tp te:TypeId} {w:World} (p:Option Addr) (n m:Nat) (hp:P.underlying tp=some (.slice te)):(Op.equal tp (.slice p n m) (.slice none 0 0)).run P w = .ok p.isNone w:=by
  have h:∀ d:Nat,(Op.equalIn (d+1) tp (.slice p n m) (.slice none 0 0)).run P w = .ok p.isNone w:=fun d=>by
    cases p<;>simp [Op.equalIn,run_underlying hp]
  simp [Op.equal,Op.maxDepth,h 9999]
def z5o:BinOp->Bool->Option Bool
  | .eql,b=>some b
  | .neq,b=>some (!b)
  | _,_=>none
def pvNil:PV->Option Bool
  | .ept _ _=>some false
  | .val (.pointer none)=>some true
  | _=>none
theorem pvNil_ok {own:Nat->Prop} {w:World} {q:PV} {b:Bool} {v:Value} (h:pvNil q=some b) (hr:RepP own w q v):∃ p,v = .pointer p/\p.isNone=b:=by
  unfold pvNil at h
  split at h
  · cases h
    cases hr with
    | ept _ _ b o' u hb hc hr1=>exact ⟨_,rfl,rfl⟩
  · cases h
    cases hr with
    | val=>exact ⟨none,rfl,rfl⟩
  · cases h
theorem ze6 {c:Cx} {R1:Nat->Prop} {op:BinOp} {t u te:TypeId} {x y:Operand} {q:PV} {b r:Bool} {σ:Heap'} (ho:o.op = .binOp op t x y u) (hx:fr.ev x=some (.pv q)) (hy:fr.ev y=some (.pv (.val (.pointer none)))) (hq:pvNil q=some b) (hr:z5o op b=some r)
    (ht:P.underlying t=some (.pointer te)):OkV P c R1 o fr σ (.pv (.val (.bool r))):=fun ρ w a h=>by
  have hv:=h.ev hx
  have hn:=h.ev hy
  generalize hg:a.eval x=v at hv
  generalize hg2:a.eval y=v2 at hn
  cases hv with
  | pv _ _ hv =>
    obtain ⟨p,rfl,hp⟩:=pvNil_ok hq hv
    obtain rfl:=hn.val
    refine ⟨_,fun w2 _=>?_,z0r _⟩
    cases op<;>simp only [z5o] at hr<;>first
      | (cases hr;done)
      | (cases hr;subst hp;simp only [execOp,ho,hg,hg2,Sem.run_bind,z55,Result.andThen_ok,binOp,z3s p ht];rfl)
def slNil:PV->Option Bool
  | .seq (_::_)=>some false
  | .val (.slice none _ _)=>some true
  | .val (.slice (some _) _ _)=>some false
  | _=>none
theorem slNil_ok {own:Nat->Prop} {w:World} {q:PV} {b:Bool} {v:Value} (h:slNil q=some b) (hr:RepP own w q v):∃ p n m,v = .slice p n m/\p.isNone=b:=by
  unfold slNil at h
  split at h
  · cases h
    cases hr with
    | seq els a cap bb off u ha hb hl hm hc hr1=>exact ⟨_,_,_,rfl,by rw [ha sI0];rfl⟩
  · cases h
    cases hr with
    | val=>exact ⟨none,_,_,rfl,rfl⟩
  · cases h
    cases hr with
    | val=>exact ⟨some _,_,_,rfl,rfl⟩
  · cases h
theorem ok_cmpSl {c:Cx} {R1:Nat->Prop} {op:BinOp} {t u te:TypeId} {x y:Operand} {q:PV} {b r:Bool} {σ:Heap'} (ho:o.op = .binOp op t x y u) (hx:fr.ev x=some (.pv q)) (hy:fr.ev y=some (.pv (.val (.slice none 0 0)))) (hq:slNil q=some b) (hr:z5o op b=some r)
    (ht:P.underlying t=some (.slice te)):OkV P c R1 o fr σ (.pv (.val (.bool r))):=fun ρ w a h=>by
  have hv:=h.ev hx
  have hn:=h.ev hy
  generalize hg:a.eval x=v at hv
  generalize hg2:a.eval y=v2 at hn
  cases hv with
  | pv _ _ hv =>
    obtain ⟨p,n,m,rfl,hp⟩:=slNil_ok hq hv
    obtain rfl:=hn.val
    refine ⟨_,fun w2 _=>?_,z0r _⟩
    cases op<;>simp only [z5o] at hr<;>first
      | (cases hr;done)
      | (cases hr;subst hp;simp only [execOp,ho,hg,hg2,Sem.run_bind,z5l,Result.andThen_ok,binOp,z48 p n m ht];rfl)
inductive VBin (p:BinOp) (k:IntKind) (m n:Int) (K:Value->Prop):Prop
  | mk {v:Value} (h:z1t p k m n=some v) (k:K v)
inductive VStr (p:BinOp) (m n:ByteArray) (K:Value->Prop):Prop
  | mk {v:Value} (h:z7x p m n=some v) (k:K v)
def vBin (T:TB P) (p:BinOp) (t:Nat) (fr:Fr) (y w:Operand) (K:Stp->Prop):Prop:=vev fr y fun a=>vev fr w fun b=>match a with
  | .pv (.val (.int k m))=>match b with
    | .pv (.val (.int k' n))=>match p with
      | .shl=>0<=n/\K ⟨.pv (.val (.int k (k.wrap (m*2 ^ (min n.toNat k.bits))))),[],[],[]⟩
      | .shr=>0<=n/\K ⟨.pv (.val (.int k (m.fdiv (2 ^ (min n.toNat k.bits))))),[],[],[]⟩
      | p=>z0e (k'==k) (match zc3 p m n with
        | some v=>K ⟨.pv (.val (.bool v)),[],[],[]⟩
        | none=>VBin p k m n fun v=>K ⟨.pv (.val v),[],[],[]⟩)
    | _=>False
  | .pv (.val (.string m))=>match b with
    | .pv (.val (.string n))=>match zc5 p m n with
      | some v=>K ⟨.pv (.val (.bool v)),[],[],[]⟩
      | none=>VStr p m n fun v=>K ⟨.pv (.val v),[],[],[]⟩
    | _=>False
  | .pv (.val (.bool q))=>match b with
    | .pv (.val (.bool r))=>vti T t fun e=>match e.i with
      | .bool=>match p with
        | .eql=>K ⟨.pv (.val (.bool (q==r))),[],[],[]⟩
        | .neq=>K ⟨.pv (.val (.bool (!(q==r)))),[],[],[]⟩
        | _=>False
      | _=>False
    | _=>False
  | .pv q=>match b with
    | .pv (.val (.pointer none))=>vopt (pvNil q) fun n=>vopt (z5o p n) fun r=>vti T t fun e=>match e.i with
      | .ptr _=>K ⟨.pv (.val (.bool r)),[],[],[]⟩
      | _=>False
    | .pv (.val (.slice none 0 0))=>vopt (slNil q) fun n=>vopt (z5o p n) fun r=>vti T t fun e=>match e.i with
      | .slice _=>K ⟨.pv (.val (.bool r)),[],[],[]⟩
      | _=>False
    | _=>False
  | _=>False
theorem vBin_ok {p:BinOp} {t u:Nat} {y w:Operand} (ho:o.op = .binOp p t y w u) (h:vBin T p t fr y w K):Does P Rl o fr hp K:=by
  obtain ⟨a,ha,h⟩:=z09 h
  obtain ⟨b,hb,h⟩:=z09 h
  have ea:∀ {fr2:Fr},agr fr2 fr (z05 o.op)->fr2.ev y=some a:=fun hg=>hg.ev ha (by rw [ho];simp [Op.operands])
  have eb:∀ {fr2:Fr},agr fr2 fr (z05 o.op)->fr2.ev w=some b:=fun hg=>hg.ev hb (by rw [ho];simp [Op.operands])
  split at h
  · rename_i k m
    split at h
    · rename_i k' n
      split at h
      · exact ⟨_,h.2,.pure fun c R1 fr2 hp2 hg _ _=>ok_shl ho (ea hg) (eb hg) h.1⟩
      · exact ⟨_,h.2,.pure fun c R1 fr2 hp2 hg _ _=>ok_shr ho (ea hg) (eb hg) h.1⟩
      · obtain ⟨hk,h⟩:=z01 h
        obtain rfl:=eq_of_beq hk
        split at h
        · rename_i v hv
          exact ⟨_,h,.pure fun c R1 fr2 hp2 hg _ _=>z5z ho (ea hg) (eb hg) (zc4 hv)⟩
        · obtain ⟨h1,h2⟩:=h
          exact ⟨_,h2,.pure fun c R1 fr2 hp2 hg _ _=>z5z ho (ea hg) (eb hg) h1⟩
    · exact h.elim
  · split at h
    · split at h
      · rename_i v hv
        exact ⟨_,h,.pure fun c R1 fr2 hp2 hg _ _=>bSt ho (ea hg) (eb hg) (zc6 hv)⟩
      · obtain ⟨h1,h2⟩:=h
        exact ⟨_,h2,.pure fun c R1 fr2 hp2 hg _ _=>bSt ho (ea hg) (eb hg) h1⟩
    · exact h.elim
  · split at h
    · obtain ⟨e,he,h⟩:=z0a h
      obtain ⟨d,hd,hi⟩:=z0o he
      split at h
      · rename_i hb
        rw [hb] at hi
        cases hi
        split at h
        · exact ⟨_,h,.pure fun c R1 fr2 hp2 hg _ _=>z8n ho (ea hg) (eb hg) hd⟩
        · exact ⟨_,h,.pure fun c R1 fr2 hp2 hg _ _=>z8r ho (ea hg) (eb hg) hd⟩
        · exact h.elim
      · exact h.elim
    · exact h.elim
  · split at h
    · obtain ⟨n,hn,h⟩:=z02 h
      obtain ⟨r,hr,h⟩:=z02 h
      obtain ⟨e,he,h⟩:=z0a h
      obtain ⟨d,hd,hi⟩:=z0o he
      split at h
      · rename_i hb
        rw [hb] at hi
        cases hi
        exact ⟨_,h,.pure fun c R1 fr2 hp2 hg _ _=>ze6 ho (ea hg) (eb hg) hn hr hd⟩
      · exact h.elim
    · obtain ⟨n,hn,h⟩:=z02 h
      obtain ⟨r,hr,h⟩:=z02 h
      obtain ⟨e,he,h⟩:=z0a h
      obtain ⟨d,hd,hi⟩:=z0o he
      split at h
      · rename_i hb
        rw [hb] at hi
        cases hi
        exact ⟨_,h,.pure fun c R1 fr2 hp2 hg _ _=>ok_cmpSl ho (ea hg) (eb hg) hn hr hd⟩
      · exact h.elim
    · exact h.elim
  · exact h.elim
def vUn (p:UnOp) (fr:Fr) (y:Operand) (K:Stp->Prop):Prop:=vev fr y fun a=>match p with
  | .not=>match a with
    | .pv (.val (.bool b))=>K ⟨.pv (.val (.bool (!b))),[],[],[]⟩
    | _=>False
  | .neg=>match a with
    | .pv (.val (.int k n))=>K ⟨.pv (.val (.int k (k.wrap (0 - n)))),[],[],[]⟩
    | _=>False
  | _=>False
theorem vUn_ok {p:UnOp} {t:Nat} {y:Operand} (ho:o.op = .unOp p t y) (h:vUn p fr y K):Does P Rl o fr hp K:=by
  obtain ⟨a,ha,h⟩:=z09 h
  have ea:∀ {fr2:Fr},agr fr2 fr (z05 o.op)->fr2.ev y=some a:=fun hg=>hg.ev ha (by rw [ho];simp [Op.operands])
  split at h
  · split at h
    · exact ⟨_,h,.pure fun c R1 fr2 hp2 hg _ _=>ok_not ho (ea hg)⟩
    · exact h.elim
  · split at h
    · exact ⟨_,h,.pure fun c R1 fr2 hp2 hg _ _=>ok_neg ho (ea hg)⟩
    · exact h.elim
  · exact h.elim
def vConv (T:TB P) (s t:Nat) (fr:Fr) (y:Operand) (K:Stp->Prop):Prop:=vev fr y fun a=>match a with
  | .pv (.val (.int _ n))=>vti T s fun _=>vti T t fun e=>match e.i with
    | .int k'=>K ⟨.pv (.val (.int k' (k'.wrap n))),[],[],[]⟩
    | _=>False
  | .pv (.seq els)=>vti T s fun d=>vti T t fun e=>match d.i with
    | .slice q=>vti T q fun z=>match z.i with
      | .int .u8=>match e.i with
        | .str=>match z4g els with
          | some ns=>K ⟨.pv (.val (.string (z67 ns))),[],[],[]⟩
          | none=>False
        | _=>False
      | _=>False
    | _=>False
  | _=>False
theorem vConv_ok {s t:Nat} {y:Operand} (ho:o.op = .convert s t y) (h:vConv T s t fr y K):Does P Rl o fr hp K:=by
  obtain ⟨a,ha,h⟩:=z09 h
  have ea:∀ {fr2:Fr},agr fr2 fr (z05 o.op)->fr2.ev y=some a:=fun hg=>hg.ev ha (by rw [ho];simp [Op.operands])
  split at h
  · obtain ⟨e1,he1,h⟩:=z0a h
    obtain ⟨e,he,h⟩:=z0a h
    obtain ⟨d1,hd1,_⟩:=z0o he1
    obtain ⟨d,hd,hi⟩:=z0o he
    split at h
    · rename_i hb
      rw [hb] at hi
      cases hi
      exact ⟨_,h,.pure fun c R1 fr2 hp2 hg _ _=>z8l ho (ea hg) ⟨d1,hd1⟩ hd⟩
    · exact h.elim
  · obtain ⟨e1,he1,h⟩:=z0a h
    obtain ⟨e,he,h⟩:=z0a h
    obtain ⟨d1,hd1,hi1⟩:=z0o he1
    obtain ⟨d,hd,hi⟩:=z0o he
    split at h
    · rename_i q hb1
      rw [hb1] at hi1
      cases hi1
      obtain ⟨z,hz,h⟩:=z0a h
      obtain ⟨d2,hd2,hi2⟩:=z0o hz
      split at h
      · rename_i hb2
        rw [hb2] at hi2
        cases hi2
        split at h
        · rename_i hb
          rw [hb] at hi
          cases hi
          split at h
          · rename_i ns hns
            exact ⟨_,h,.pure fun c R1 fr2 hp2 hg _ _=>z8m ho (ea hg) hns hd1 hd2 hd⟩
          · exact h.elim
        · exact h.elim
      · exact h.elim
    · exact h.elim
  · exact h.elim
inductive VIdx (els:List (List PV)) (m:Int) (K:List PV->Prop):Prop
  | mk {i:Nat} {el:List PV} (hi:els[i]? = some el) (hm:m=i) (k:K el)
inductive VIdR (n:Nat) (m:Int) (K:Nat->Prop):Prop
  | mk {i:Nat} (hi:i<n) (hm:m=i) (k:K i)
inductive VIdS (s:ByteArray) (m:Int) (K:UInt8->Prop):Prop
  | mk {i:Nat} {b:UInt8} (hi:s[i]? = some b) (hm:m=i) (k:K b)
def vIdxA (T:TB P) (t:Nat) (fr:Fr) (hp:Hp) (y w:Operand) (K:Stp->Prop):Prop:=vev fr y fun a=>vev fr w fun b=>match b with
  | .pv (.val (.int _ m))=>vti T t fun e=>match e.i with
    | .slice q=>vti T q fun eq=>match a with
      | .pv (.seq els)=>VIdx els m fun el=>z0e (Nat.beq el.length eq.n) (K ⟨.pv (.ept el 0),[],[],[]⟩)
      | .sl k n=>vrow hp k fun s els=>z0e (Nat.beq s.e q&&Nat.beq s.n eq.n) (els.length=n/\VIdR n m fun i=>K ⟨.rpt k n (i*s.n),[],[k],[]⟩)
      | .bs k n=>vbox hp k fun _=>z0e (Nat.beq eq.n 1) (VIdR n m fun i=>K ⟨.ptr k i,[],[k],[]⟩)
      | .sp k n m'=>vrow hp k fun s els=>z0e (Nat.beq s.e q&&Nat.beq s.n eq.n) (els.length=m'/\VIdR n m fun i=>K ⟨.rpt k m' (i*s.n),[],[k],[]⟩)
      | _=>False
    | .arr n q=>vti T q fun eq=>match a with
      | .ptr k off=>vbox hp k fun _=>VIdR n m fun i=>K ⟨.ptr k (off+i*eq.n),[],[k],[]⟩
      | _=>False
    | _=>False
  | _=>False
theorem vIdxA_ok {t:Nat} {y w:Operand} (ho:o.op = .indexAddr t y w) (h:vIdxA T t fr hp y w K):Does P Rl o fr hp K:=by
  obtain ⟨a,ha,h⟩:=z09 h
  obtain ⟨b,hb,h⟩:=z09 h
  have ea:∀ {fr2:Fr},agr fr2 fr (z05 o.op)->fr2.ev y=some a:=fun hg=>hg.ev ha (by rw [ho];simp [Op.operands])
  have eb:∀ {fr2:Fr},agr fr2 fr (z05 o.op)->fr2.ev w=some b:=fun hg=>hg.ev hb (by rw [ho];simp [Op.operands])
  split at h
  · obtain ⟨e,he,h⟩:=z0a h
    obtain ⟨d,hd,hi⟩:=z0o he
    split at h
    · rename_i q hq
      rw [hq] at hi
      cases hi
      obtain ⟨eq,heq,h⟩:=z0a h
      split at h
      · obtain ⟨h1,h2,h⟩:=h
        obtain ⟨h3,h⟩:=z01 h
        exact ⟨_,h,.pure fun c R1 fr2 hp2 hg _ _=>iSq ho (ea hg) (eb hg) hd h1 (z0g heq) (Nat.eq_of_beq_eq_true h3) h2⟩
      · rename_i k n
        obtain ⟨s,els,hk,h⟩:=z0q h
        obtain ⟨h3,h⟩:=z01 h
        obtain ⟨hn,h1,h2,h9⟩:=h
        simp only [Bool.and_eq_true] at h3
        obtain rfl:=Nat.eq_of_beq_eq_true h3.1
        exact ⟨_,h9,.pure fun c R1 fr2 hp2 hg hh _=>iRw ho (ea hg) (eb hg) (hh.at hk (.head _)) hn hd (by rw [z0g heq,Nat.eq_of_beq_eq_true h3.2]) h1 h2⟩
      · rename_i k n
        obtain ⟨cs,hk,h⟩:=z0t h
        obtain ⟨h3,h⟩:=z01 h
        obtain ⟨h1,h2,h⟩:=h
        exact ⟨_,h,.pure fun c R1 fr2 hp2 hg hh _=>z8o ho (ea hg) (eb hg) (hh.at hk (.head _)) hd (by rw [z0g heq,Nat.eq_of_beq_eq_true h3]) h1 h2⟩
      · rename_i k n m'
        obtain ⟨s,els,hk,h⟩:=z0q h
        obtain ⟨h3,h⟩:=z01 h
        obtain ⟨hn,h1,h2,h9⟩:=h
        simp only [Bool.and_eq_true] at h3
        obtain rfl:=Nat.eq_of_beq_eq_true h3.1
        exact ⟨_,h9,.pure fun c R1 fr2 hp2 hg hh _=>z8p ho (ea hg) (eb hg) (hh.at hk (.head _)) hn hd (by rw [z0g heq,Nat.eq_of_beq_eq_true h3.2]) h1 h2⟩
      · exact h.elim
    · rename_i n q hq
      rw [hq] at hi
      cases hi
      obtain ⟨eq,heq,h⟩:=z0a h
      split at h
      · rename_i k off
        obtain ⟨cs,hk,h⟩:=z0t h
        obtain ⟨h1,h2,h⟩:=h
        exact ⟨_,h,.pure fun c R1 fr2 hp2 hg hh _=>z7i ho (ea hg) (eb hg) (hh.at hk (.head _)) hd (z0g heq) h2 h1⟩
      · exact h.elim
    · exact h.elim
  · exact h.elim
def vIdxV (T:TB P) (t:Nat) (fr:Fr) (y w:Operand) (K:Stp->Prop):Prop:=vev fr y fun a=>vev fr w fun b=>match b with
  | .pv (.val (.int _ m))=>match a with
    | .pv (.val (.string s))=>vti T t fun e=>match e.i with
      | .str=>VIdS s m fun b=>K ⟨.pv (.val (.int .u8 b.toNat)),[],[],[]⟩
      | _=>False
    | _=>False
  | _=>False
theorem vIdxV_ok {t:Nat} {y w:Operand} (ho:o.op = .index t y w) (h:vIdxV T t fr y w K):Does P Rl o fr hp K:=by
  obtain ⟨a,ha,h⟩:=z09 h
  obtain ⟨b,hb,h⟩:=z09 h
  have ea:∀ {fr2:Fr},agr fr2 fr (z05 o.op)->fr2.ev y=some a:=fun hg=>hg.ev ha (by rw [ho];simp [Op.operands])
  have eb:∀ {fr2:Fr},agr fr2 fr (z05 o.op)->fr2.ev w=some b:=fun hg=>hg.ev hb (by rw [ho];simp [Op.operands])
  split at h
  · split at h
    · obtain ⟨e,he,h⟩:=z0a h
      obtain ⟨d,hd,hi⟩:=z0o he
      split at h
      · rename_i hq
        rw [hq] at hi
        cases hi
        obtain ⟨h1,h2,h⟩:=h
        exact ⟨_,h,.pure fun c R1 fr2 hp2 hg _ _=>z7j ho (ea hg) (eb hg) hd h1 h2⟩
      · exact h.elim
    · exact h.elim
  · exact h.elim
theorem z7h {c:Cx} {R1:Nat->Prop} {t:TypeId} {x:Operand} {f fo:Nat} {k n off:Nat} {s:RT} {els:List (List PV)} (ho:o.op = .fieldAddr t x f) (hx:fr.ev x=some (.rpt k n off)) (hk:look hp k=some (.row s els)) (hn:els.length=n)
    (hfo:z65 P t f fo):OkV P c R1 o fr (look hp) (.rpt k n (off+fo)):=by
  refine fun ρ w a h=>?_
  obtain ⟨fs,fd,s',hu,hf,rfl,hs⟩:=hfo
  obtain ⟨b,cc,r,u,hv,hρ,h3,h4,hc,hcm,hwe,hcells,hu'⟩:=h.rpt hx hk hn
  refine ⟨.pointer (some ⟨b,off+fd.offset,none⟩),fun w2 _=>?_,.rpt _ _ _ _ fun s2 els2 h2=>?_⟩
  · simp [execOp,ho,hv,Instr.fieldAt,Sem.run_bind,run_underlying hu,hf,Instr.sureAddr,fieldPlace,z06 hs,Addr.add_mid]
  · rw [hk] at h2;cases h2
    exact ⟨by omega,fun _=>⟨b,cc,hρ,rfl⟩⟩
theorem z4y {c:Cx} {R1:Nat->Prop} {x:Operand} {k n off:Nat} {s:RT} {els:List (List PV)} (ho:o.op = .nilCheck x) (hx:fr.ev x=some (.rpt k n off)) (hk:look hp k=some (.row s els)) (hn:els.length=n):OkV P c R1 o fr (look hp) (.rpt k n off):=by
  intro ρ w a h
  obtain ⟨b,cc,r,u,hv,hρ,h3,h4,hc,hcm,hwe,hcells,hu'⟩:=h.rpt hx hk hn
  refine ⟨.pointer (some ⟨b,off,none⟩),fun w2 _=>by simp [execOp,ho,hv],.rpt _ _ _ _ fun s2 els2 h2=>?_⟩
  rw [hk] at h2;cases h2
  exact ⟨by omega,fun _=>⟨b,cc,hρ,rfl⟩⟩
def zh2 (T:TB P) (t:Nat) (fr:Fr) (hp:Hp) (y:Operand) (f:Nat) (K:Stp->Prop):Prop:=vev fr y fun a=>vti T t fun e=>match e.i with
  | .struct fs=>vopt fs[f]? fun p=>vti T p.2 fun ef=>z0e (Nat.blt 0 ef.n) (match a with
    | .pv (.ept cs off)=>K ⟨.pv (.ept cs (off+p.1)),[],[],[]⟩
    | .ptr k off=>vbox hp k fun _=>K ⟨.ptr k (off+p.1),[],[k],[]⟩
    | .rpt k n off=>vrow hp k fun _ els=>els.length=n/\K ⟨.rpt k n (off+p.1),[],[k],[]⟩
    | _=>False)
  | _=>False
theorem field_ok {t f:Nat} {e ef:TE} {fs:List (Nat × Nat)} {p:Nat × Nat} (he:teB P t e=true) (hi:e.i = .struct fs) (hp:fs[f]? = some p) (hf:teB P p.2 ef=true) (hn:Nat.blt 0 ef.n=true):z65 P t f p.1:=by
  obtain ⟨d,hd,h1⟩:=z0o he
  rw [hi] at h1
  obtain ⟨a,rfl,h2⟩:=h1
  rw [<- h2,List.getElem?_map,Option.map_eq_some_iff] at hp
  obtain ⟨fd,h3,rfl⟩:=hp
  have h4:1<=ef.n:=by simpa [Nat.blt] using hn
  exact ⟨a,fd,ef.n - 1,hd,by simpa using h3,rfl,by rw [z0g hf];congr 1;omega⟩
theorem zb3 {t f:Nat} {y:Operand} (ho:o.op = .fieldAddr t y f) (h:zh2 T t fr hp y f K):Does P Rl o fr hp K:=by
  obtain ⟨a,ha,h⟩:=z09 h
  have ea:∀ {fr2:Fr},agr fr2 fr (z05 o.op)->fr2.ev y=some a:=fun hg=>hg.ev ha (by rw [ho];simp [Op.operands])
  obtain ⟨e,he,h⟩:=z0a h
  split at h
  · rename_i fs hfs
    obtain ⟨p,hp',h⟩:=z02 h
    obtain ⟨ef,hef,h⟩:=z0a h
    obtain ⟨hn,h⟩:=z01 h
    have hF:=field_ok he hfs hp' hef hn
    split at h
    · exact ⟨_,h,.pure fun c R1 fr2 hp2 hg _ _=>z7f ho (ea hg) hF⟩
    · obtain ⟨cs,hk,h⟩:=z0t h
      exact ⟨_,h,.pure fun c R1 fr2 hp2 hg hh _=>z7g ho (ea hg) (hh.at hk (.head _)) hF⟩
    · obtain ⟨s,els,hk,h⟩:=z0q h
      exact ⟨_,h.2,.pure fun c R1 fr2 hp2 hg hh _=>z7h ho (ea hg) (hh.at hk (.head _)) h.1 hF⟩
    · exact h.elim
  · exact h.elim
theorem z2e {c:Cx} {R1:Nat->Prop} {t:Nat} {x:Operand} {d:TypeDesc} {k n i off:Nat} {s:RT} {els:List (List PV)} {el:List PV} (ho:o.op = .load t x) (hx:fr.ev x=some (.rpt k n off)) (hk:look hp k=some (.row s els)) (hn:els.length=n)
    (hoff:off=i*s.n) (hi:els[i]? = some el) (hu:P.underlying t=some d) (hd:d.isRow=true) (hs:(P.info? t).map (·.size)=some s.n) (hR1:R1 k):OkV P c R1 o fr (look hp) (.pv (.agg el)):=by
  intro ρ w a h
  obtain ⟨b,cc,r,u,hv,hρ,h3,h4,hc,hcm,hwe,hcells,hu'⟩:=h.rpt hx hk hn
  have hel:el.length=s.n:=hwe el (List.mem_of_getElem? hi)
  have hin:i<els.length:=(List.getElem?_eq_some_iff.1 hi).1
  have hle:i*s.n+s.n<=r.size:=by
    have:(i+1)*s.n<=cc*s.n:=Nat.mul_le_mul_right _ oM0
    rw [Nat.add_mul] at this;omega
  have hlen:((r.toList.drop off).take s.n).length=s.n:=by simp;omega
  refine ⟨_,fun w2 h2=>by simp only [execOp,ho,hv,Sem.run_bind,run_loadAt_mid (P:=P) w2 b off t _ d (z7r ((h2 b (h.rel.lt hρ) (.inr ⟨k,cc,hR1,hρ⟩)).trans h3) off s.n) hu hd (by rw [hlen];exact hs)];rfl,.pv _ _ (.agg _ _ (u i) ?_ ?_ ?_)⟩
  · simp;omega
  · intro j z hj
    have hjn:j<s.n:=by have:=(List.getElem?_eq_some_iff.1 hj).1;omega
    have:=hcells i el hi j z hj
    subst hoff
    simp [hjn]
    simpa using this
  · exact fun j z hj=>hu' i el hi j z hj
inductive VRow (s:RT) (els:List (List PV)) (n off:Nat) (K:PV->Prop):Prop
  | mk {i j:Nat} {el:List PV} {z:PV} (hn:els.length=n) (ho:off=i*s.n+j) (hi:els[i]? = some el) (hj:el[j]? = some z) (k:K z)
inductive VRowS (s:RT) (els:List (List PV)) (n off:Nat) (K:List PV->Prop):Prop
  | mk {i:Nat} {el:List PV} (hn:els.length=n) (ho:off=i*s.n) (hi:els[i]? = some el) (k:K el)
def z8y (T:TB P) (t:Nat) (fr:Fr) (hp:Hp) (y:Operand) (K:Stp->Prop):Prop:=vev fr y fun a=>vti T t fun e=>match a with
  | .pv (.ept cs off)=>match e.i.row with
    | false=>vopt cs[off]? fun z=>K ⟨.pv z,[],[],[]⟩
    | true=>z0e (Nat.ble (off+e.n) cs.length) (frcP ((cs.drop off).take e.n) fun l=>K ⟨.pv (.agg l),[],[],[]⟩)
  | .ptr k off=>vbox hp k fun cs=>match e.i.row with
    | false=>vopt cs[off]? fun z=>K ⟨z,[],[k],[]⟩
    | true=>z0e (Nat.ble (off+e.n) cs.length) (match z1j ((cs.drop off).take e.n) with
      | some ps=>frcP ps fun l=>K ⟨.pv (.agg l),[],[k],[]⟩
      | none=>frcI ((cs.drop off).take e.n) fun l=>K ⟨.agg l,[],[k],[]⟩)
  | .rpt k n off=>vrow hp k fun s els=>match e.i.row with
    | false=>VRow s els n off fun z=>K ⟨.pv z,[],[k],[]⟩
    | true=>z0e (Nat.beq e.n s.n) (VRowS s els n off fun el=>K ⟨.pv (.agg el),[],[k],[]⟩)
  | _=>False
theorem vLoad_ok {t:Nat} {y:Operand} (ho:o.op = .load t y) (h:z8y T t fr hp y K):Does P Rl o fr hp K:=by
  obtain ⟨a,ha,h⟩:=z09 h
  have ea:∀ {fr2:Fr},agr fr2 fr (z05 o.op)->fr2.ev y=some a:=fun hg=>hg.ev ha (by rw [ho];simp [Op.operands])
  obtain ⟨e,he,h⟩:=z0a h
  obtain ⟨d,hd,hi⟩:=z0o he
  have hrow:=TI.is_row hi
  split at h
  · split at h
    · rename_i hr
      obtain ⟨z,hz,h⟩:=z02 h
      exact ⟨_,h,.pure fun c R1 fr2 hp2 hg _ _=>z4w ho (ea hg) hd (hrow.trans hr) hz⟩
    · rename_i hr
      obtain ⟨hn,h⟩:=z01 h
      exact ⟨_,z1p h,.pure fun c R1 fr2 hp2 hg _ _=>lEA ho (ea hg) hd (hrow.trans hr) (z0g he) (Nat.le_of_ble_eq_true hn)⟩
  · obtain ⟨cs,hk,h⟩:=z0t h
    split at h
    · rename_i hr
      obtain ⟨z,hz,h⟩:=z02 h
      exact ⟨_,h,.pure fun c R1 fr2 hp2 hg hh hR=>z4v ho (ea hg) (hh.at hk (.head _)) hd (hrow.trans hr) hz (hR _ (.head _))⟩
    · rename_i hr
      obtain ⟨hn,h⟩:=z01 h
      split at h
      · rename_i ps hps
        exact ⟨_,z1p h,.pure fun c R1 fr2 hp2 hg hh hR=>lBP ho (ea hg) (hh.at hk (.head _)) hd (hrow.trans hr) (z0g he) (Nat.le_of_ble_eq_true hn) hps (hR _ (.head _))⟩
      · exact ⟨_,z11 h,.pure fun c R1 fr2 hp2 hg hh hR=>z1g ho (ea hg) (hh.at hk (.head _)) hd (hrow.trans hr) (z0g he) (Nat.le_of_ble_eq_true hn) (hR _ (.head _))⟩
  · obtain ⟨s,els,hk,h⟩:=z0q h
    split at h
    · rename_i hr
      obtain ⟨hn,hoff,h1,h2,h⟩:=h
      exact ⟨_,h,.pure fun c R1 fr2 hp2 hg hh hR=>lRw ho (ea hg) (hh.at hk (.head _)) hn hoff h1 h2 hd (hrow.trans hr) (hR _ (.head _))⟩
    · rename_i hr
      obtain ⟨hq,h⟩:=z01 h
      obtain ⟨hn,hoff,h1,h⟩:=h
      exact ⟨_,h,.pure fun c R1 fr2 hp2 hg hh hR=>z2e ho (ea hg) (hh.at hk (.head _)) hn hoff h1 hd (hrow.trans hr) (by rw [z0g he,Nat.eq_of_beq_eq_true hq]) (hR _ (.head _))⟩
  · exact h.elim
def zh3 (T:TB P) (t:Nat) (fr:Fr) (y:Operand) (f:Nat) (K:Stp->Prop):Prop:=vev fr y fun a=>match a with
  | .pv (.agg ps)=>vti T t fun e=>match e.i with
    | .struct fs=>vopt fs[f]? fun p=>vti T p.2 fun ef=>match ef.i.row with
      | false=>vopt ps[p.1]? fun z=>K ⟨.pv z,[],[],[]⟩
      | true=>False
    | _=>False
  | _=>False
theorem zb4 {t f:Nat} {y:Operand} (ho:o.op = .field t y f) (h:zh3 T t fr y f K):Does P Rl o fr hp K:=by
  obtain ⟨a,ha,h⟩:=z09 h
  have ea:∀ {fr2:Fr},agr fr2 fr (z05 o.op)->fr2.ev y=some a:=fun hg=>hg.ev ha (by rw [ho];simp [Op.operands])
  split at h
  · obtain ⟨e,he,h⟩:=z0a h
    obtain ⟨d,hd,hi⟩:=z0o he
    split at h
    · rename_i fs hfs
      rw [hfs] at hi
      obtain ⟨q,rfl,h2⟩:=hi
      obtain ⟨p,hp',h⟩:=z02 h
      obtain ⟨ef,hef,h⟩:=z0a h
      obtain ⟨df,hdf,hif⟩:=z0o hef
      split at h
      · rename_i hr
        obtain ⟨z,hz,h9⟩:=z02 h
        rw [<- h2,List.getElem?_map,Option.map_eq_some_iff] at hp'
        obtain ⟨fd,h3,rfl⟩:=hp'
        exact ⟨_,h9,.pure fun c R1 fr2 hp2 hg _ _=>z6p ho (ea hg) hd (by simpa using h3) hdf ((TI.is_row hif).trans hr) hz⟩
      · exact h.elim
    · exact h.elim
  · exact h.elim
def z9i (fr:Fr) (y:Operand) (i:Nat) (K:Stp->Prop):Prop:=vev fr y fun a=>match a with
  | .tup vs=>vopt vs[i]? fun z=>K ⟨z,[],[],[]⟩
  | _=>False
theorem z8x {i:Nat} {y:Operand} (ho:o.op = .extract y i) (h:z9i fr y i K):Does P Rl o fr hp K:=by
  obtain ⟨a,ha,h⟩:=z09 h
  split at h
  · obtain ⟨z,hz,h⟩:=z02 h
    exact ⟨_,h,.pure fun c R1 fr2 hp2 hg _ _=>z3r ho (hg.ev ha (by rw [ho];simp [Op.operands])) hz⟩
  · exact h.elim
def vNil (fr:Fr) (hp:Hp) (y:Operand) (K:Stp->Prop):Prop:=vev fr y fun a=>match a with
  | .ptr k off=>vbox hp k fun _=>K ⟨.ptr k off,[],[k],[]⟩
  | .pv (.ept cs off)=>K ⟨.pv (.ept cs off),[],[],[]⟩
  | .rpt k n off=>vrow hp k fun _ els=>els.length=n/\K ⟨.rpt k n off,[],[k],[]⟩
  | _=>False
theorem vNil_ok {y:Operand} (ho:o.op = .nilCheck y) (h:vNil fr hp y K):Does P Rl o fr hp K:=by
  obtain ⟨a,ha,h⟩:=z09 h
  have ea:∀ {fr2:Fr},agr fr2 fr (z05 o.op)->fr2.ev y=some a:=fun hg=>hg.ev ha (by rw [ho];simp [Op.operands])
  split at h
  · obtain ⟨cs,hk,h⟩:=z0t h
    exact ⟨_,h,.pure fun c R1 fr2 hp2 hg hh _=>nCk ho (ea hg) (hh.at hk (.head _))⟩
  · exact ⟨_,h,.pure fun c R1 fr2 hp2 hg _ _=>z4x ho (ea hg)⟩
  · obtain ⟨s,els,hk,h⟩:=z0q h
    exact ⟨_,h.2,.pure fun c R1 fr2 hp2 hg hh _=>z4y ho (ea hg) (hh.at hk (.head _)) h.1⟩
  · exact h.elim
def vEnd (fr:Fr) (y:Option Operand) (n:Nat) (K:Nat->Prop):Prop:=match y with
  | none=>K n
  | some y=>vev fr y fun a=>match a with
    | .pv (.val (.int _ m))=>∃ i:Nat,m=i/\K i
    | _=>False
theorem z3v {y:Option Operand} {n:Nat} {K:Nat->Prop} (h:vEnd fr y n K):∃ i,K i/\((y=none/\i=n)∨∃ z k,y=some z/\fr.ev z=some (.pv (.val (.int k i)))):=by
  unfold vEnd at h
  split at h
  · exact ⟨n,h,.inl ⟨rfl,rfl⟩⟩
  · rename_i y
    obtain ⟨a,ha,h⟩:=z09 h
    split at h
    · rename_i k m
      obtain ⟨i,rfl,h⟩:=h
      exact ⟨i,h,.inr ⟨y,k,rfl,ha⟩⟩
    · exact h.elim
def vSlice (T:TB P) (t:Nat) (fr:Fr) (hp:Hp) (y:Operand) (lo hi:Option Operand) (K:Stp->Prop):Prop:=vev fr y fun a=>vti T t fun e=>match a with
  | .pv (.seq els)=>match e.i with
    | .slice q=>vti T q fun eq=>vEnd fr lo 0 fun i=>vEnd fr hi els.length fun j=>i<=j/\j<=els.length/\(∀ el∈els,el.length=eq.n)/\K ⟨.pv (.seq ((els.take j).drop i)),[],[],[]⟩
    | _=>False
  | .pv (.val (.string s))=>match e.i with
    | .str=>vEnd fr lo 0 fun i=>vEnd fr hi s.size fun j=>i<=j/\j<=s.size/\K ⟨.pv (.val (.string (s.extract i j))),[],[],[]⟩
    | _=>False
  | .sl k n=>match e.i with
    | .slice q=>vti T q fun _=>z0e lo.isNone (vrow hp k fun _ els=>els.length=n/\vEnd fr hi n fun j=>j<=n/\K ⟨.sp k j n,[],[k],[]⟩)
    | _=>False
  | .sp k n m=>match e.i with
    | .slice q=>vti T q fun _=>z0e lo.isNone (vrow hp k fun _ els=>els.length=m/\vEnd fr hi n fun j=>j<=n/\K ⟨.sp k j m,[],[k],[]⟩)
    | _=>False
  | _=>False
theorem z3j {lo:Option Operand} {n i:Nat} {fr2:Fr} (hg:agr fr2 fr (z05 o.op)) (hm:∀ z,lo=some z->z∈o.op.operands.toList) (h:(lo=none/\i=n)∨∃ z k,lo=some z/\fr.ev z=some (.pv (.val (.int k i)))):(lo=none/\i=n)∨∃ z k,lo=some z/\fr2.ev z=some (.pv (.val (.int k i))):=by
  rcases h with h | ⟨z,k,h1,h2⟩
  · exact .inl h
  · exact .inr ⟨z,k,h1,hg.ev h2 (hm z h1)⟩
theorem zh7 {t:Nat} {y:Operand} {lo hi:Option Operand} (ho:o.op = .slice t y lo hi none) (h:vSlice T t fr hp y lo hi K):Does P Rl o fr hp K:=by
  obtain ⟨a,ha,h⟩:=z09 h
  have ea:∀ {fr2:Fr},agr fr2 fr (z05 o.op)->fr2.ev y=some a:=fun hg=>hg.ev ha (by rw [ho];simp [Op.operands])
  have ml:∀ z,lo=some z->z∈o.op.operands.toList:=fun z hz=>by rw [ho,hz];simp [Op.operands]
  have mh:∀ z,hi=some z->z∈o.op.operands.toList:=fun z hz=>by rw [ho,hz];simp [Op.operands]
  obtain ⟨e,he,h⟩:=z0a h
  obtain ⟨d,hd,hi'⟩:=z0o he
  split at h
  · split at h
    · rename_i q hq
      rw [hq] at hi'
      cases hi'
      obtain ⟨eq,heq,h⟩:=z0a h
      obtain ⟨i,h,h1⟩:=z3v h
      obtain ⟨j,h,h2⟩:=z3v h
      exact ⟨_,h.2.2.2,.pure fun c R1 fr2 hp2 hg _ _=>z7n ho (ea hg) hd (z0g heq) (z3j hg ml h1) (z3j hg mh h2) h.1 h.2.1 h.2.2.1⟩
    · exact h.elim
  · split at h
    · rename_i hq
      rw [hq] at hi'
      cases hi'
      obtain ⟨i,h,h1⟩:=z3v h
      obtain ⟨j,h,h2⟩:=z3v h
      exact ⟨_,h.2.2,.pure fun c R1 fr2 hp2 hg _ _=>z7o ho (ea hg) hd (z3j hg ml h1) (z3j hg mh h2) h.1 h.2.1⟩
    · exact h.elim
  · split at h
    · rename_i q hq
      rw [hq] at hi'
      cases hi'
      obtain ⟨eq,heq,h⟩:=z0a h
      obtain ⟨hl,h⟩:=z01 h
      obtain rfl:lo=none:=by simpa using hl
      obtain ⟨s,els,hk,hn,h⟩:=z0q h
      obtain ⟨j,h,h2⟩:=z3v h
      exact ⟨_,h.2,.pure fun c R1 fr2 hp2 hg hh _=>z40 ho (fun _ _ _ ha=>(ha.ev (ea hg)).toSp) (hh.at hk (.head _)) hn hd (z0g heq) (z3j hg mh h2) h.1⟩
    · exact h.elim
  · split at h
    · rename_i q hq
      rw [hq] at hi'
      cases hi'
      obtain ⟨eq,heq,h⟩:=z0a h
      obtain ⟨hl,h⟩:=z01 h
      obtain rfl:lo=none:=by simpa using hl
      obtain ⟨s,els,hk,hn,h⟩:=z0q h
      obtain ⟨j,h,h2⟩:=z3v h
      exact ⟨_,h.2,.pure fun c R1 fr2 hp2 hg hh _=>z40 ho (fun _ _ _ ha=>ha.ev (ea hg)) (hh.at hk (.head _)) hn hd (z0g heq) (z3j hg mh h2) h.1⟩
    · exact h.elim
  · exact h.elim
def vFunc (fr:Fr) (f:Fn) (xs ys:Array Operand) (K:Stp->Prop):Prop:=vopt (evs fr xs.toList) fun us=>vopt (evs fr ys.toList) fun vs=>K ⟨.fn f us vs,[],[],[]⟩
theorem vFunc_ok {f:Fn} {xs ys:Array Operand} (ho:o.op = .makeFunc f xs ys) (h:vFunc fr f xs ys K):Does P Rl o fr hp K:=by
  obtain ⟨us,h1,h⟩:=z02 h
  obtain ⟨vs,h2,h⟩:=z02 h
  exact ⟨_,h,.pure fun c R1 fr2 hp2 hg _ _=>z8q ho (hg.evs h1 fun y hy=>by rw [ho];simp only [Op.operands,Array.toList_append];exact List.mem_append_left _ hy) (hg.evs h2 fun y hy=>by rw [ho];simp only [Op.operands,Array.toList_append];exact List.mem_append_right _ hy)⟩
inductive VAsk (d:TypeDesc) (kv:Value) (es:List (Value × PV)) (z:Value) (K:PV->Bool->Prop):Prop
  | mk {p:PV} {b:Bool} (hk:z0l d kv=true) (hes:∀ e∈es,z0l d e.1=true) (h:((z20 kv es).getD (.val z),(z20 kv es).isSome)=(p,b)) (k:K p b)
inductive VMap (d:TypeDesc) (kv:Value) (es:List (Value × PV)) (A:Prop):Prop
  | mk (hk:z0l d kv=true) (hes:∀ e∈es,z0l d e.1=true) (k:A)
def TI.key:TI->Option TypeDesc
  | .int k=>some (.int k)
  | .str=>some .string
  | _=>none
theorem z6g {t:Nat} {e:TE} {d:TypeDesc} (he:teB P t e=true) (hd:e.i.key=some d):P.underlying t=some d:=by
  obtain ⟨d',hd',hi⟩:=z0o he
  rw [hd']
  cases hq:e.i<;>rw [hq] at hd hi<;>first | (cases hd;cases hi;rfl) | cases hd
def zh4 (T:TB P) (t:Nat) (fr:Fr) (hp:Hp) (y w:Operand) (two:Bool) (K:Stp->Prop):Prop:=vev fr y fun a=>vev fr w fun b=>match a with
  | .mp k=>match b with
    | .pv (.val kv)=>vmap hp k fun es=>vti T t fun e=>match e.i with
      | .map kt et=>vti T kt fun ek=>vti T et fun ee=>vopt ek.i.key fun d=>z0e (!ee.z.isEmpty) (VAsk d kv es ee.zv fun p b=>match two with
        | false=>K ⟨.pv p,[],[k],[]⟩
        | true=>K ⟨.tup [.pv p,iBool b],[],[k],[]⟩)
      | _=>False
    | _=>False
  | _=>False
theorem zb5 {t:Nat} {y w:Operand} {two:Bool} (ho:o.op = .lookup t y w two) (h:zh4 T t fr hp y w two K):Does P Rl o fr hp K:=by
  obtain ⟨a,ha,h⟩:=z09 h
  obtain ⟨b,hb,h⟩:=z09 h
  have ea:∀ {fr2:Fr},agr fr2 fr (z05 o.op)->fr2.ev y=some a:=fun hg=>hg.ev ha (by rw [ho];simp [Op.operands])
  have eb:∀ {fr2:Fr},agr fr2 fr (z05 o.op)->fr2.ev w=some b:=fun hg=>hg.ev hb (by rw [ho];simp [Op.operands])
  split at h
  · split at h
    · obtain ⟨es,hk,h⟩:=z6v h
      obtain ⟨e,he,h⟩:=z0a h
      obtain ⟨d,hd,hi⟩:=z0o he
      split at h
      · rename_i kt et hq
        rw [hq] at hi
        cases hi
        obtain ⟨ek,hek,h⟩:=z0a h
        obtain ⟨ee,hee,h⟩:=z0a h
        obtain ⟨dk,hdk,h⟩:=z02 h
        obtain ⟨hz,h⟩:=z01 h
        have hz':ee.z≠[]:=by simpa using hz
        obtain ⟨h1,h2,h3,h⟩:=h
        have e1:=(congrArg Prod.fst h3).symm
        have e2:=(congrArg Prod.snd h3).symm
        dsimp only at e1 e2
        subst e1 e2
        split at h
        · exact ⟨_,h,.pure fun c R1 fr2 hp2 hg hh hR=>ze9 ho (ea hg) (eb hg) (hh.at hk (.head _)) hd (z6g hek hdk) h1 h2 (z1l hee hz') (hR _ (.head _))⟩
        · exact ⟨_,h,.pure fun c R1 fr2 hp2 hg hh hR=>za0 ho (ea hg) (eb hg) (hh.at hk (.head _)) hd (z6g hek hdk) h1 h2 (z1l hee hz') (hR _ (.head _))⟩
      · exact h.elim
    · exact h.elim
  · exact h.elim
def vLen (T:TB P) (t:Nat) (fr:Fr) (hp:Hp) (y:Operand) (K:Stp->Prop):Prop:=vev fr y fun a=>vti T t fun e=>match a with
  | .pv (.seq els)=>match e.i with
    | .slice _=>K ⟨.pv (.val (.int .i64 els.length)),[],[],[]⟩
    | _=>False
  | .pv (.val (.slice none 0 0))=>match e.i with
    | .slice _=>K ⟨.pv (.val (.int .i64 0)),[],[],[]⟩
    | _=>False
  | .pv (.val (.string s))=>match e.i with
    | .str=>K ⟨.pv (.val (.int .i64 s.size)),[],[],[]⟩
    | _=>False
  | .sl k n=>match e.i with
    | .slice _=>vrow hp k fun _ els=>els.length=n/\K ⟨.pv (.val (.int .i64 n)),[],[k],[]⟩
    | _=>False
  | .mp k=>match e.i with
    | .map ..=>vmap hp k fun es=>K ⟨.pv (vInt es.length),[],[k],[]⟩
    | _=>False
  | .sp k n m=>match e.i with
    | .slice _=>vrow hp k fun _ els=>els.length=m/\K ⟨.pv (.val (.int .i64 n)),[],[k],[]⟩
    | _=>False
  | _=>False
theorem vLen_ok {t:Nat} {y:Operand} (ho:o.op = .call { callee:=.builtin .len,args:=#[y],argTypes:=#[t] }) (h:vLen T t fr hp y K):Does P Rl o fr hp K:=by
  obtain ⟨a,ha,h⟩:=z09 h
  have ea:∀ {fr2:Fr},agr fr2 fr (z05 o.op)->fr2.ev y=some a:=fun hg=>hg.ev ha (by rw [ho];simp [Op.operands,Call.operands])
  obtain ⟨e,he,h⟩:=z0a h
  obtain ⟨d,hd,hi⟩:=z0o he
  split at h
  · split at h
    · rename_i hq;rw [hq] at hi;cases hi
      exact ⟨_,h,.pure fun c R1 fr2 hp2 hg _ _=>z9y ho (ea hg) hd rfl⟩
    · exact h.elim
  · split at h
    · rename_i hq;rw [hq] at hi;cases hi
      exact ⟨_,h,.pure fun c R1 fr2 hp2 hg _ _=>z9w ho (ea hg) hd⟩
    · exact h.elim
  · split at h
    · rename_i hq;rw [hq] at hi;cases hi
      exact ⟨_,h,.pure fun c R1 fr2 hp2 hg _ _=>z9z ho (ea hg) hd⟩
    · exact h.elim
  · split at h
    · rename_i hq;rw [hq] at hi;cases hi
      obtain ⟨s,els,hk,h⟩:=z0q h
      exact ⟨_,h.2,.pure fun c R1 fr2 hp2 hg hh _=>z9x ho (ea hg) (hh.at hk (.head _)) h.1 hd⟩
    · exact h.elim
  · split at h
    · rename_i hq;rw [hq] at hi;cases hi
      obtain ⟨es,hk,h⟩:=z6v h
      exact ⟨_,h,.pure fun c R1 fr2 hp2 hg hh hR=>z9v ho (ea hg) (hh.at hk (.head _)) hd (hR _ (.head _))⟩
    · exact h.elim
  · split at h
    · rename_i hq;rw [hq] at hi;cases hi
      obtain ⟨s,els,hk,h⟩:=z0q h
      exact ⟨_,h.2,.pure fun c R1 fr2 hp2 hg hh _=>ze8 ho (ea hg) (hh.at hk (.head _)) h.1 hd⟩
    · exact h.elim
  · exact h.elim
def vMax (fr:Fr) (y w:Operand) (K:Stp->Prop):Prop:=vev fr y fun a=>vev fr w fun b=>match a with
  | .pv (.val (.int k m))=>match b with
    | .pv (.val (.int k' n))=>z0e (k'==k) (K ⟨.pv (.val (.int k (if m<n then n else m))),[],[],[]⟩)
    | _=>False
  | _=>False
theorem vMax_ok {t:Nat} {y w:Operand} (ho:o.op = .call { callee:=.builtin .max,args:=#[y,w],argTypes:=#[t,t] }) (h:vMax fr y w K):Does P Rl o fr hp K:=by
  obtain ⟨a,ha,h⟩:=z09 h
  obtain ⟨b,hb,h⟩:=z09 h
  split at h
  · split at h
    · obtain ⟨hk,h⟩:=z01 h
      obtain rfl:=eq_of_beq hk
      exact ⟨_,h,.pure fun c R1 fr2 hp2 hg _ _=>ok_max ho (hg.ev ha (by rw [ho];simp [Op.operands,Call.operands])) (hg.ev hb (by rw [ho];simp [Op.operands,Call.operands]))⟩
    · exact h.elim
  · exact h.elim
def vCap (T:TB P) (t:Nat) (fr:Fr) (y:Operand) (K:Stp->Prop):Prop:=vev fr y fun a=>vti T t fun e=>match a with
  | .pv (.val (.slice none 0 0))=>match e.i with
    | .slice _=>K ⟨iInt 0,[],[],[]⟩
    | _=>False
  | _=>False
theorem vCap_ok {t:Nat} {y:Operand} (ho:o.op = .call { callee:=.builtin .cap,args:=#[y],argTypes:=#[t] }) (h:vCap T t fr y K):Does P Rl o fr hp K:=by
  obtain ⟨a,ha,h⟩:=z09 h
  obtain ⟨e,he,h⟩:=z0a h
  obtain ⟨d,hd,hi⟩:=z0o he
  split at h
  · split at h
    · rename_i hq;rw [hq] at hi;cases hi
      exact ⟨_,h,.pure fun c R1 fr2 hp2 hg _ _=>z9u ho (hg.ev ha (by rw [ho];simp [Op.operands,Call.operands])) hd⟩
    · exact h.elim
  · exact h.elim
end
section
variable {P:Program} {T:TB P} {o:Oper} {fr:Fr} {hp:Hp} {Rl:List Nat} {K:Stp->Prop} {c:Cx}
theorem notR {k:Nat} (hR:∀ k,c.R k->k∈Rl) (h:nIn k Rl=false):¬ c.R k:=fun h1=>z0m h (hR k h1)
def vStore (T:TB P) (Rl:List Nat) (t:Nat) (fr:Fr) (hp:Hp) (y w:Operand) (K:Stp->Prop):Prop:=vev fr y fun a=>vev fr w fun z=>vti T t fun e=>match a with
  | .ptr k off=>z0e (!nIn k Rl) (vbox hp k fun cs=>match e.i.row with
    | false=>z0e (Nat.beq e.n 1&&Nat.blt off cs.length) (zb6 hp z (frcI (cs.set off z) fun l=>K ⟨.pv (.val undef),[(k,some (.box l))],k::z2w z,[]⟩))
    | true=>vopt z.parts fun zs=>z0e (Nat.beq e.n zs.length&&Nat.ble (off+zs.length) cs.length) (zh9 hp zs (frcI (z50 cs off zs) fun l=>K ⟨.pv (.val undef),[(k,some (.box l))],k::zs.flatMap z2w,[]⟩)))
  | .rpt k n off=>z0e (!nIn k Rl) (vrow hp k fun s els=>match z with
    | .pv p=>z0e (Nat.beq e.n 1&&p.one) (∃ i j el,els.length=n/\off=i*s.n+j/\els[i]? = some el/\j<el.length/\K ⟨.pv (.val undef),[(k,some (.row s (els.set i (el.set j p))))],[k],[]⟩)
    | _=>False)
  | _=>False
theorem zh8 {t:Nat} {y w:Operand} (ho:o.op = .store t y w) (h:vStore T Rl t fr hp y w K):Does P Rl o fr hp K:=by
  replace h:=z09 h
  obtain ⟨a,ha,h⟩:=h
  replace h:=z09 h
  obtain ⟨z,hz,h⟩:=h
  have ea:∀ {fr2:Fr},agr fr2 fr (z05 o.op)->fr2.ev y=some a:=fun hg=>hg.ev ha (by rw [ho];simp [Op.operands])
  have eb:∀ {fr2:Fr},agr fr2 fr (z05 o.op)->fr2.ev w=some z:=fun hg=>hg.ev hz (by rw [ho];simp [Op.operands])
  replace h:=z0a h
  obtain ⟨e,he,h⟩:=h
  split at h
  · rename_i k off
    replace h:=z01 h
    obtain ⟨hR,h⟩:=h
    have hR':nIn k Rl=false:=by simpa using hR
    replace h:=z0t h
    obtain ⟨cs,hk,h⟩:=h
    split at h
    · obtain ⟨h1,h⟩:=z01 h
      simp only [Bool.and_eq_true] at h1
      replace h:=z4f h
      obtain ⟨h,hf⟩:=h
      refine ⟨_,z11 h,fun c fr2 hp2 hc _ hg hh _=>?_⟩
      exact sBx ho (ea hg) (eb hg) (hh.at hk (.head _)) (notR hc hR') (by rw [z0g he,Nat.eq_of_beq_eq_true h1.1]) (hf hp2 fun k hk=>hh k (.tail _ hk)) (Nat.le_of_ble_eq_true h1.2)
    · obtain ⟨zs,hzs,h⟩:=z02 h
      replace h:=z01 h
      obtain ⟨h1,h⟩:=h
      simp only [Bool.and_eq_true] at h1
      replace h:=z84 h
      obtain ⟨h,hf⟩:=h
      refine ⟨_,z11 h,fun c fr2 hp2 hc _ hg hh _=>?_⟩
      exact sBA ho (ea hg) (eb hg) hzs (hh.at hk (.head _)) (notR hc hR') (by rw [z0g he,Nat.eq_of_beq_eq_true h1.1]) (hf hp2 fun k hk=>hh k (.tail _ hk)) (Nat.le_of_ble_eq_true h1.2)
  · rename_i k n off
    replace h:=z01 h
    obtain ⟨hR,h⟩:=h
    have hR':nIn k Rl=false:=by simpa using hR
    replace h:=z0q h
    obtain ⟨s,els,hk,h⟩:=h
    split at h
    · obtain ⟨h1,h⟩:=z01 h
      simp only [Bool.and_eq_true] at h1
      obtain ⟨i,j,el,hn,hoff,hi,hj,h⟩:=h
      exact ⟨_,h,fun c fr2 hp2 hc _ hg hh _=>z7p ho (ea hg) (eb hg) (hh.at hk (.head _)) hn hoff hi hj (by rw [z0g he,Nat.eq_of_beq_eq_true h1.1]) h1.2 (notR hc hR')⟩
    · exact h.elim
  · exact h.elim
def ZV.pvs:List ZV->List IV
  | []=>[]
  | z::r=>.pv (.val z.val)::ZV.pvs r
theorem ZV.pvs_eq:∀ l:List ZV,ZV.pvs l=(l.map ZV.val).map fun v=>.pv (.val v)
  | []=>rfl
  | z::r=>by simp only [ZV.pvs,List.map_cons,ZV.pvs_eq r]
def ZV.ps:List ZV->List PV
  | []=>[]
  | z::r=>.val z.val::ZV.ps r
theorem ZV.ps_eq:∀ l:List ZV,ZV.ps l=(l.map ZV.val).map .val
  | []=>rfl
  | z::r=>by simp only [ZV.ps,List.map_cons,ZV.ps_eq r]
def vAlloc (T:TB P) (t k:Nat) (K:Stp->Prop):Prop:=vti T t fun e=>z0e (!e.z.isEmpty) (frcI (ZV.pvs e.z) fun l=>K ⟨.ptr k 0,[(k,some (.box l))],[k],[k]⟩)
theorem zg8 {t k:Nat} (ho:o.op = .alloc t) (h:vAlloc T t k K):Does P Rl o fr hp K:=by
  replace h:=z0a h
  obtain ⟨e,he,h⟩:=h
  replace h:=z01 h
  obtain ⟨hz,h⟩:=h
  have hz':e.z≠[]:=by simpa using hz
  refine ⟨_,z11 h,fun c fr2 hp2 _ hc _ _ hf=>?_⟩
  obtain ⟨f1,f2,f3⟩:=z0s (hf k (.head _))
  have:=aLc (c:=c) ho (z1l he hz') f3 (hc k (.head _)) f1 f2
  rwa [(z15 he hz').1,<- ZV.pvs_eq] at this
def vBox (own:Bool) (fr:Fr) (hp:Hp) (y:Operand) (k:Nat) (K:Stp->Prop):Prop:=vev fr y fun a=>match own with
  | true=>match a with
    | .pv (.agg ps)=>frcI (ps.map .pv) fun l=>K ⟨.ptr k 0,[(k,some (.box l))],[k],[k]⟩
    | .agg cs=>z0e (!nm.nms k cs) (K ⟨.ptr k 0,[(k,some (.box cs))],[k],[k]⟩)
    | z=>z0e (!nm k z) (zb6 hp z (K ⟨.ptr k 0,[(k,some (.box [z]))],k::z2w z,[k]⟩))
  | false=>match a with
    | .pv (.agg ps)=>K ⟨.pv (.ept ps 0),[],[],[]⟩
    | .pv p=>z0e p.one (K ⟨.pv (.ept [p] 0),[],[],[]⟩)
    | _=>False
theorem vBox_ok {t k:Nat} {own:Bool} {y:Operand} (ho:o.op = .box t y) (h:vBox own fr hp y k K):Does P Rl o fr hp K:=by
  replace h:=z09 h
  obtain ⟨a,ha,h⟩:=h
  have ea:∀ {fr2:Fr},agr fr2 fr (z05 o.op)->fr2.ev y=some a:=fun hg=>hg.ev ha (by rw [ho];simp [Op.operands])
  split at h
  · split at h
    · refine ⟨_,z11 h,fun c fr2 hp2 _ hc hg _ hf=>?_⟩
      obtain ⟨f1,f2,f3⟩:=z0s (hf k (.head _))
      exact z9t ho (ea hg) f3 (hc k (.head _)) f1 f2
    · obtain ⟨hn,h⟩:=z01 h
      refine ⟨_,h,fun c fr2 hp2 _ hc hg _ hf=>?_⟩
      obtain ⟨f1,f2,f3⟩:=z0s (hf k (.head _))
      exact ze4 ho (ea hg) f3 (hc k (.head _)) f1 f2 (by simpa using hn)
    · obtain ⟨hn,h⟩:=z01 h
      replace h:=z4f h
      obtain ⟨h,hz⟩:=h
      refine ⟨_,h,fun c fr2 hp2 _ hc hg hh hf=>?_⟩
      obtain ⟨f1,f2,f3⟩:=z0s (hf k (.head _))
      exact z9s ho (ea hg) (hz hp2 fun k hk=>hh k (.tail _ hk)) f3 (hc k (.head _)) f1 f2 (by simpa using hn)
  · split at h
    · exact ⟨_,h,fun c fr2 hp2 _ _ hg _ _=>ok_box ho (ea hg)⟩
    · obtain ⟨h1,h⟩:=z01 h
      exact ⟨_,h,fun c fr2 hp2 _ _ hg _ _=>ok_box1 ho (ea hg) h1⟩
    · exact h.elim
def szs (T:TB P):List (Nat × Nat)->Option (List (Nat × Nat))
  | []=>some []
  | (off,t)::r=>match T.ti t with
    | some e=>match szs T r with
      | some l=>some ((off,e.n)::l)
      | none=>none
    | none=>none
theorem zg5 {w:World}:∀ {fs:List Field} {l:List (Nat × Nat)},szs T (fs.map fun f=>(f.offset,f.type))=some l->((fs.mapM fun f=>do pure (f.offset,<- sizeOf f.type)):Sem (List (Nat × Nat))).run P w = .ok l w
  | [],l,h=>by cases h;rfl
  | f::r,l,h=>by
    simp only [List.map_cons,szs] at h
    split at h
    · rename_i e he
      split at h
      · rename_i l' hl
        cases h
        have ih:=zg5 (w:=w) hl
        have hs:=z06 (z0g (T.tok _ _ he)) w
        simp only [List.mapM_cons,Sem.run_bind,hs,Result.andThen_ok,Sem.run_pure,ih]
      · cases h
    · cases h
theorem z7q {a:Array Field} {l:List (Nat × Nat)} (h:szs T (a.toList.map fun f=>(f.offset,f.type))=some l):z66 P a l.toArray:=by
  intro w
  have h1:=zg5 (P:=P) (w:=w) h
  obtain ⟨fs⟩:=a
  have h2:((#[].append fs.toArray:Array Field).mapM fun f=>(do pure (f.offset,<- sizeOf f.type):Sem (Nat × Nat)))=(fs.mapM fun f=>(do pure (f.offset,<- sizeOf f.type):Sem (Nat × Nat))) >>= fun l=>pure l.toArray:=by
    simp
  have h3:(⟨fs⟩:Array Field) = #[].append fs.toArray:=by simp
  rw [h3,h2,Sem.run_bind,h1]
  rfl
def z5e (hp:Hp):List (Nat × IV)->Prop->Prop
  | [],A=>A
  | (_,x)::r,A=>match x.parts with
    | some _=>z5e hp r A
    | none=>zb6 hp x (z5e hp r A)
theorem z2k:∀ {l:List (Nat × IV)} {A:Prop},z5e hp l A->A/\∀ hp2,agh hp2 hp (l.flatMap fun p=>z2w p.2)->z17 (look hp2) l
  | [],A,h=>⟨h,fun _ _ p hq=>by cases hq⟩
  | (i,x)::r,A,h=>by
    simp only [z5e] at h
    have split:∀ {hp2},agh hp2 hp (((i,x)::r).flatMap fun p=>z2w p.2)->agh hp2 hp (z2w x)/\agh hp2 hp (r.flatMap fun p=>z2w p.2):=fun hh=>by
      simp only [List.flatMap_cons] at hh
      exact ⟨fun k hk=>hh k (List.mem_append_left _ hk),fun k hk=>hh k (List.mem_append_right _ hk)⟩
    split at h
    · rename_i ps hps
      replace h:=z2k h
      obtain ⟨h1,h2⟩:=h
      refine ⟨h1,fun hp2 hh p hq h0=>?_⟩
      rcases List.mem_cons.1 hq with rfl | hq
      · rw [hps] at h0;cases h0
      · exact h2 hp2 (split hh).2 p hq h0
    · obtain ⟨h,hz⟩:=z4f h
      replace h:=z2k h
      obtain ⟨h1,h2⟩:=h
      refine ⟨h1,fun hp2 hh p hq h0=>?_⟩
      rcases List.mem_cons.1 hq with rfl | hq
      · exact hz hp2 (split hh).1
      · exact h2 hp2 (split hh).2 p hq h0
def vmade (ids:List Nat) (out:List IV) (K:Stp->Prop):Prop:=match z1j out with
  | some ps=>frcP ps fun l=>K ⟨.pv (.agg l),[],ids,[]⟩
  | none=>frcI out fun l=>K ⟨.agg l,[],ids,[]⟩
theorem zvIV {e:TE} {t:Nat} (he:teB P t e=true) (hz:e.z≠[]):z1b e.zv=ZV.pvs e.z:=by
  rw [z1b,(z15 he hz).1,<- ZV.pvs_eq]
def vBuild (T:TB P) (t:Nat) (fr:Fr) (hp:Hp) (parts:List (Nat × Operand)) (K:Stp->Prop):Prop:=vti T t fun e=>z0e (!e.z.isEmpty) (vopt (z0v fr parts) fun xs=>z5e hp xs (match e.i with
  | .struct fs=>vopt (szs T fs) fun pl=>vopt (z16 (pl.toArray[·]?) (ZV.pvs e.z) xs) fun out=>vmade (xs.flatMap fun p=>z2w p.2) out K
  | .arr _ q=>vti T q fun eq=>vopt (z16 (fun i=>some (i*eq.n,eq.n)) (ZV.pvs e.z) xs) fun out=>frcI out fun l=>K ⟨.agg l,[],xs.flatMap fun p=>z2w p.2,[]⟩
  | _=>False))
theorem zh1 {t:Nat} {parts:Array (Nat × Operand)} (ho:o.op = .build t parts) (h:vBuild T t fr hp parts.toList K):Does P Rl o fr hp K:=by
  replace h:=z0a h
  obtain ⟨e,he,h⟩:=h
  replace h:=z01 h
  obtain ⟨hz,h⟩:=h
  have hz':e.z≠[]:=by simpa using hz
  replace h:=z02 h
  obtain ⟨xs,hxs,h⟩:=h
  have ex:∀ {fr2:Fr},agr fr2 fr (z05 o.op)->z0v fr2 parts.toList=some xs:=fun hg=>hg.evParts hxs fun y hy=>by
    rw [ho];simp only [Op.operands];exact List.mem_map_of_mem hy
  replace h:=z2k h
  obtain ⟨h,hfirm⟩:=h
  obtain ⟨d,hd,hi⟩:=z0o he
  have hzi:=zvIV he hz'
  split at h
  · rename_i fs hq
    rw [hq] at hi
    obtain ⟨a,rfl,h2⟩:=hi
    replace h:=z02 h
    obtain ⟨pl,hpl,h⟩:=h
    replace h:=z02 h
    obtain ⟨out,hout,h⟩:=h
    rw [<- h2] at hpl
    unfold vmade at h
    split at h
    · rename_i ps hps
      exact ⟨_,z1p h,.pure fun c R1 fr2 hp2 hg hh _=>bPu ho (ex hg) (z1l he hz') ⟨a,hd,z7q hpl⟩ (by rw [hzi];exact hout) (hfirm hp2 hh) hps⟩
    · exact ⟨_,z11 h,.pure fun c R1 fr2 hp2 hg hh _=>z9e ho (ex hg) (z1l he hz') ⟨a,hd,z7q hpl⟩ (by rw [hzi];exact hout) (hfirm hp2 hh)⟩
  · rename_i n q hq
    rw [hq] at hi
    cases hi
    replace h:=z0a h
    obtain ⟨eq,heq,h⟩:=h
    replace h:=z02 h
    obtain ⟨out,hout,h⟩:=h
    exact ⟨_,z11 h,.pure fun c R1 fr2 hp2 hg hh _=>z7d ho (ex hg) (z1l he hz') hd (z0g heq) (by rw [hzi];exact hout) (hfirm hp2 hh)⟩
  · exact h.elim
def repZ (z:List ZV):Nat->List IV
  | 0=>[]
  | n+1=>ZV.pvs z++repZ z n
theorem zf6 {e:TE} {t:Nat} (he:teB P t e=true) (hz:e.z≠[]):∀ n,z30 e.zv n=repZ e.z n
  | 0=>rfl
  | n+1=>by simp only [z30,repZ,zf6 he hz n,zvIV he hz]
def frcE:List (List PV)->(List (List PV)->Prop)->Prop
  | [],K=>K []
  | x::r,K=>frcP x fun y=>frcE r fun l=>K (y::l)
theorem zd1:∀ {l:List (List PV)} {K:List (List PV)->Prop},frcE l K->K l
  | [],_,h=>h
  | x::r,K,h=>zd1 (l:=r) (K:=fun l=>K (x::l)) (z1p (K:=fun y=>frcE r fun l=>K (y::l)) h)
def zh0 (T:TB P) (own:Bool) (t len:Nat) (fr:Fr) (hp:Hp) (parts:List (Nat × Operand)) (k:Nat) (K:Stp->Prop):Prop:=vti T t fun e=>match e.i with
  | .slice q=>vti T q fun eq=>z0e (!eq.z.isEmpty&&Nat.ble 1 eq.n&&Nat.ble (len*eq.n) (2 ^ 24)) (vopt (z0v fr parts) fun xs=>z5e hp xs (vopt (z16 (fun i=>some (i*eq.n,eq.n)) (repZ eq.z len) xs) fun out=>match z1j out with
    | some ps=>frcE (z1n eq.n len ps) fun l=>match own with
      | false=>K ⟨.pv (.seq l),[],xs.flatMap fun p=>z2w p.2,[]⟩
      | true=>K ⟨.sl k len,[(k,some (.row ⟨q,eq.n⟩ l))],k::xs.flatMap fun p=>z2w p.2,[k]⟩
    | none=>z0e (!nm.nms k out) (K ⟨.bs k len,[(k,some (.box out))],k::xs.flatMap fun p=>z2w p.2,[k]⟩)))
  | _=>False
theorem zb1 {t len k:Nat} {own:Bool} {parts:Array (Nat × Operand)} (ho:o.op = .buildSlice t len parts) (h:zh0 T own t len fr hp parts.toList k K):Does P Rl o fr hp K:=by
  replace h:=z0a h
  obtain ⟨e,he,h⟩:=h
  obtain ⟨d,hd,hi⟩:=z0o he
  split at h
  · rename_i q hq
    rw [hq] at hi
    cases hi
    replace h:=z0a h
    obtain ⟨eq,heq,h⟩:=h
    replace h:=z01 h
    obtain ⟨h1,h⟩:=h
    simp only [Bool.and_eq_true] at h1
    have hz':eq.z≠[]:=by simpa using h1.1.1
    replace h:=z02 h
    obtain ⟨xs,hxs,h⟩:=h
    have ex:∀ {fr2:Fr},agr fr2 fr (z05 o.op)->z0v fr2 parts.toList=some xs:=fun hg=>hg.evParts hxs fun y hy=>by
      rw [ho];simp only [Op.operands];exact List.mem_map_of_mem hy
    replace h:=z2k h
    obtain ⟨h,hfirm⟩:=h
    replace h:=z02 h
    obtain ⟨out,hout,h⟩:=h
    rw [<- zf6 heq hz'] at hout
    cases hps:z1j out with
    | none =>
      rw [hps] at h
      replace h:=z01 h
      obtain ⟨hn,h⟩:=h
      refine ⟨_,h,fun c fr2 hp2 _ hc hg hh hf=>?_⟩
      obtain ⟨f1,f2,f3⟩:=z0s (hf k (.head _))
      exact z4u ho (ex hg) hd (z1l heq hz') (z0g heq) (z15 heq hz').2 h1.1.2 h1.2 hout (hfirm hp2 fun j hj=>hh j (.tail _ hj)) (by simpa using hn) f3 (hc k (.head _)) f1 f2
    | some ps =>
    rw [hps] at h
    replace h:=zd1 h
    split at h
    · exact ⟨_,h,fun c fr2 hp2 _ _ hg hh _=>bSl ho (ex hg) hd (z1l heq hz') (z0g heq) (z15 heq hz').2 h1.1.2 h1.2 hout (hfirm hp2 hh) hps⟩
    · refine ⟨_,h,fun c fr2 hp2 _ hc hg hh hf=>?_⟩
      obtain ⟨f1,f2,f3⟩:=z0s (hf k (.head _))
      exact z47 ho (ex hg) hd (z1l heq hz') (z0g heq) (z15 heq hz').2 h1.1.2 h1.2 hout (hfirm hp2 fun j hj=>hh j (.tail _ hj)) hps f3 (hc k (.head _)) f1 f2
  · exact h.elim
def vMkMap (k:Nat) (K:Stp->Prop):Prop:=K ⟨.mp k,[(k,some (.map []))],[k],[k]⟩
theorem zh6 {t k:Nat} (ho:o.op = .makeMap t none) (h:vMkMap k K):Does P Rl o fr hp K:=by
  refine ⟨_,h,fun c fr2 hp2 _ hc _ _ hf=>?_⟩
  obtain ⟨f1,f2,f3⟩:=z0s (hf k (.head _))
  exact za1 ho f3 (hc k (.head _)) f1 f2
inductive VNum (m:Int) (K:Nat->Prop):Prop
  | mk {n:Nat} (hm:m=n) (hb:n<=68719476736) (k:K n)
def z9j (T:TB P) (t:Nat) (fr:Fr) (y w:Operand) (k:Nat) (K:Stp->Prop):Prop:=vti T t fun e=>match e.i with
  | .slice q=>vti T q fun eq=>z0e (!eq.z.isEmpty&&Nat.ble 1 eq.n&&Nat.ble eq.b 2048) (vev fr y fun a=>match a with
    | .pv (.val (.int .i64 m))=>vev fr w fun b=>b=a/\VNum m fun n=>frcP (ZV.ps eq.z) fun l=>K ⟨.sl k n,[(k,some (.row ⟨q,eq.n⟩ (List.replicate n l)))],[k],[k]⟩
    | _=>False)
  | _=>False
theorem z8z {t k:Nat} {y w:Operand} (ho:o.op = .makeSlice t y w) (h:z9j T t fr y w k K):Does P Rl o fr hp K:=by
  replace h:=z0a h
  obtain ⟨e,he,h⟩:=h
  obtain ⟨d,hd,hi⟩:=z0o he
  split at h
  · rename_i q hq
    rw [hq] at hi
    cases hi
    replace h:=z0a h
    obtain ⟨eq,heq,h⟩:=h
    replace h:=z01 h
    obtain ⟨h1,h⟩:=h
    simp only [Bool.and_eq_true] at h1
    have hz':eq.z≠[]:=by simpa using h1.1.1
    replace h:=z09 h
    obtain ⟨a,ha,h⟩:=h
    split at h
    · obtain ⟨b,hb,h⟩:=z09 h
      obtain ⟨rfl,h⟩:=h
      obtain ⟨rfl,hn,h9⟩:=h
      refine ⟨_,z1p h9,fun c fr2 hp2 _ hc hg _ hf=>?_⟩
      obtain ⟨f1,f2,f3⟩:=z0s (hf k (.head _))
      have h128:=Nat.le_of_ble_eq_true h1.2
      have:=z7k (c:=c) (s:=⟨q,eq.n⟩) ho (hg.ev ha (by rw [ho];simp [Op.operands])) (hg.ev hb (by rw [ho];simp [Op.operands])) hd (z1l heq hz') (te_by heq) (z15 heq hz').2 (Nat.le_of_ble_eq_true h1.1.2) oM0 (Nat.le_trans (Nat.mul_le_mul h128 hn) dC0) f3 (hc k (.head _)) f1 f2
      rwa [(z15 heq hz').1,<- ZV.ps_eq] at this
    · exact h.elim
  · exact h.elim
def z81 (T:TB P) (t:Nat) (fr:Fr) (y w:Operand) (K:Stp->Prop):Prop:=vti T t fun e=>match e.i with
  | .slice q=>vti T q fun eq=>z0e (!eq.z.isEmpty&&Nat.ble 1 eq.n&&Nat.ble eq.b 2048) (vev fr y fun a=>match a with
    | .pv (.val (.int .i64 m))=>vev fr w fun b=>b=a/\VNum m fun n=>frcP (ZV.ps eq.z) fun l=>K ⟨.pv (.seq (List.replicate n l)),[],[],[]⟩
    | _=>False)
  | _=>False
theorem z82 {t:Nat} {y w:Operand} (ho:o.op = .makeSlice t y w) (h:z81 T t fr y w K):Does P Rl o fr hp K:=by
  replace h:=z0a h
  obtain ⟨e,he,h⟩:=h
  obtain ⟨d,hd,hi⟩:=z0o he
  split at h
  · rename_i q hq
    rw [hq] at hi
    cases hi
    replace h:=z0a h
    obtain ⟨eq,heq,h⟩:=h
    replace h:=z01 h
    obtain ⟨h1,h⟩:=h
    simp only [Bool.and_eq_true] at h1
    have hz':eq.z≠[]:=by simpa using h1.1.1
    replace h:=z09 h
    obtain ⟨a,ha,h⟩:=h
    split at h
    · obtain ⟨b,hb,h⟩:=z09 h
      obtain ⟨rfl,h⟩:=h
      obtain ⟨rfl,hn,h9⟩:=h
      refine ⟨_,z1p h9,fun c fr2 hp2 _ hc hg _ hf=>?_⟩
      have h128:=Nat.le_of_ble_eq_true h1.2
      have:=z6q (c:=c) (s:=⟨q,eq.n⟩) (σ:=look hp2) ho (hg.ev ha (by rw [ho];simp [Op.operands])) (hg.ev hb (by rw [ho];simp [Op.operands])) hd (z1l heq hz') (te_by heq) (z15 heq hz').2 (Nat.le_of_ble_eq_true h1.1.2) oM0 (Nat.le_trans (Nat.mul_le_mul h128 hn) dC0)
      rwa [(z15 heq hz').1,<- ZV.ps_eq] at this
    · exact h.elim
  · exact h.elim
def zh5 (T:TB P) (Rl:List Nat) (t:Nat) (fr:Fr) (hp:Hp) (x y w:Operand) (K:Stp->Prop):Prop:=vev fr x fun a=>vev fr y fun b=>vev fr w fun z=>match a with
  | .mp k=>z0e (!nIn k Rl) (match b with
    | .pv (.val kv)=>match z with
      | .pv p=>vmap hp k fun es=>vti T t fun e=>match e.i with
        | .map kt _=>vti T kt fun ek=>vopt ek.i.key fun d=>VMap d kv es (K ⟨.pv (.val undef),[(k,some (.map (mput kv p es)))],[k],[]⟩)
        | _=>False
      | _=>False
    | _=>False)
  | _=>False
theorem z80 {t:Nat} {x y w:Operand} (ho:o.op = .mapUpdate t x y w∨o.op = .insert t x y w) (h:zh5 T Rl t fr hp x y w K):Does P Rl o fr hp K:=by
  replace h:=z09 h
  obtain ⟨a,ha,h⟩:=h
  replace h:=z09 h
  obtain ⟨b,hb,h⟩:=h
  replace h:=z09 h
  obtain ⟨z,hz,h⟩:=h
  have hops:o.op.operands.toList=[x,y,w]:=by rcases ho with ho | ho<;>rw [ho]<;>rfl
  have ea:∀ {fr2:Fr},agr fr2 fr (z05 o.op)->fr2.ev x=some a:=fun hg=>hg.ev ha (by rw [hops];simp)
  have eb:∀ {fr2:Fr},agr fr2 fr (z05 o.op)->fr2.ev y=some b:=fun hg=>hg.ev hb (by rw [hops];simp)
  have ez:∀ {fr2:Fr},agr fr2 fr (z05 o.op)->fr2.ev w=some z:=fun hg=>hg.ev hz (by rw [hops];simp)
  split at h
  · rename_i k
    replace h:=z01 h
    obtain ⟨hR,h⟩:=h
    have hR':nIn k Rl=false:=by simpa using hR
    split at h
    · split at h
      · obtain ⟨es,hk,h⟩:=z6v h
        replace h:=z0a h
        obtain ⟨e,he,h⟩:=h
        obtain ⟨d,hd,hi⟩:=z0o he
        split at h
        · rename_i kt et hq
          rw [hq] at hi
          cases hi
          replace h:=z0a h
          obtain ⟨ek,hek,h⟩:=h
          replace h:=z02 h
          obtain ⟨dk,hdk,h⟩:=h
          obtain ⟨h1,h2,h⟩:=h
          refine ⟨_,h,fun c fr2 hp2 hc _ hg hh _=>?_⟩
          rcases ho with ho | ho
          · exact z7l ho (ea hg) (eb hg) (ez hg) (hh.at hk (.head _)) (notR hc hR') hd (z6g hek hdk) h1 h2
          · exact ze7 ho (ea hg) (eb hg) (ez hg) (hh.at hk (.head _)) (notR hc hR') hd (z6g hek hdk) h1 h2
        · exact h.elim
      · exact h.elim
    · exact h.elim
  · exact h.elim
def VFlat (n:Nat) (news:List (List PV)):Prop:=∀ el∈news,el.length=n/\∀ x∈el,x.one=true
def flatB (n:Nat):List (List PV)->Bool
  | []=>true
  | el::r=>Nat.beq el.length n&&el.all PV.one&&flatB n r
theorem z75 {n:Nat}:∀ {l:List (List PV)},flatB n l=true->VFlat n l
  | [],_=>fun _ h=>by cases h
  | el::r,h=>by
    simp only [flatB,Bool.and_eq_true] at h
    intro e he
    rcases List.mem_cons.1 he with rfl | he
    · exact ⟨Nat.eq_of_beq_eq_true h.1.1,fun x hx=>List.all_eq_true.1 h.1.2 x hx⟩
    · exact z75 h.2 e he
inductive VApp (s:RT) (els:List (List PV)) (n:Nat) (news:List (List PV)) (A:Prop):Prop
  | mk (hn:els.length=n) (hf:VFlat s.n news) (hb:n+news.length<=68719476736) (k:A)
theorem All.back {t:Nat} {v:Value} {y:IV} {ρ:Loc} {σ:Heap'} {w:World} {a:Act} (ht:fr.get t=some (.pv (.val v))) (hv:a.tmps[t]? = some v) (h:All c ρ σ w ((t,y)::fr) a):All c ρ σ w fr a:=by
  refine ⟨h.rel,fun t' z hz=>?_,h.tr,h.df,h.sz,h.kk⟩
  by_cases e:t=t'
  · subst e
    rw [ht] at hz
    cases hz
    exact ⟨v,hv,z0r v⟩
  · exact h.fr t' z (by simp only [Fr.get,z1m e];exact hz)
theorem All.slot {t:Nat} {v:Value} {ρ:Loc} {σ:Heap'} {w:World} {a:Act} (h:All c ρ σ w fr a) (ht:fr.get t=some (.pv (.val v))):a.tmps[t]? = some v:=by
  obtain ⟨u,hu,hr⟩:=h.fr t _ ht
  rw [hu,hr.val]
theorem Ok.reval {t:Nat} {v:Value} {y x:IV} {σ σ':Heap'} (ht:fr.get t=some (.pv (.val v))) (hs:∀ F ρ w,RepI F ρ σ w y v) (h:Ok P c o ((t,y)::fr) σ x σ'):Ok P c o fr σ x σ':=by
  intro ρ w a Kc Q ha hK
  have ha2:All c ρ σ w ((t,y)::fr) a:=ha.putFr ht fun u hu=>by rw [hu.val];exact hs _ _ _
  exact h ρ w a Kc Q ha2 fun ρ' w' u ha' hu=>hK ρ' w' u (ha'.back ht (ha.slot ht)) hu
theorem Ok.ghostR {k t:Nat} {s:RT} {x:IV} {σ':Heap'} (hσ:look hp k=none) (hc:c.σ k=none) (hfr:nmFr k fr=false) (hhp:nmHp k hp=false) (ht:fr.get t=some (.pv (.val (.slice none 0 0)))) (h:Ok P c o ((t,.sl k 0)::fr) (look ((k,some (.row s []))::hp)) x σ'):Ok P c o fr (look hp) x σ':=by
  intro ρ w a Kc Q ha hK
  obtain ⟨hk,ha'⟩:=ha.ghost hσ hc hfr hhp s
  have ha2:=ha'.putFr (y:=.sl k 0) ht fun v hv=>by
    obtain rfl:=hv.val
    exact .sl k 0 _ fun s' els' _=>⟨Nat.zero_le _,fun _=>.inr ⟨hk,rfl,rfl⟩⟩
  exact h ρ w a Kc Q ha2 fun ρ' w' u ha3 hu=>hK ρ' w' u (ha3.back ht (ha.slot ht)) hu
theorem z6n {t u v k by_:Nat} {s:RT} {news:List (List PV)} (hut:Nat.beq u v=false) (ho:o.op = .call { callee:=.builtin .append,args:=#[.tmp u,.tmp v],argTypes:=#[t,t] }) (hx:fr.get u=some (.pv (.val (.slice none 0 0)))) (hy:fr.get v=some (.pv (.seq news)))
    (ht:P.underlying t=some (.slice s.e)) (hi:(P.info? s.e).map (fun i=>(i.size,i.bytes,(i.zero.map fun z=>z.cells.size)))=some (s.n,by_,some s.n)) (hs:0<s.n)
    (hw:∀ el∈news,el.length=s.n) (hone:∀ el∈news,∀ x∈el,x.one=true) (hmax:0+news.length<=maxLen) (hb:(0+news.length)*by_<=140737488355328)
    (hσ:look hp k=none) (hc:c.σ k=none) (hR:¬ c.R k) (hfr:nmFr k fr=false) (hhp:nmHp k hp=false) :
    Ok P c o fr (look hp) (.sl k news.length) (look ((k,some (.row s news))::hp)):=by
  refine Ok.ghostR (s:=s) hσ hc hfr hhp hx ?_
  have hu:Fr.ev ((u,.sl k 0)::fr) (.tmp u)=some (.sl k 0):=by simp [Fr.ev,Fr.get]
  have hv:Fr.ev ((u,.sl k 0)::fr) (.tmp v)=some (.pv (.seq news)):=by simp only [Fr.ev,Fr.get,hut];exact hy
  have:=aPp (c:=c) (hp:=(k,some (.row s []))::hp) ho hu hv z0b rfl hR ht hi hs hw hone hmax hb
  simp only [Nat.zero_add,List.nil_append] at this
  rwa [z8g] at this
theorem z5i {t k n:Nat} {u:Operand} {v by_:Nat} {s:RT} {els:List (List PV)} (hut:∀ x,u = .tmp x->Nat.beq v x=false) (ho:o.op = .call { callee:=.builtin .append,args:=#[u,.tmp v],argTypes:=#[t,t] }) (hx:fr.ev u=some (.sl k n)) (hy:fr.get v=some (.pv (.val (.slice none 0 0))))
    (hk:look hp k=some (.row s els)) (hn:els.length=n) (hR:¬ c.R k) (ht:P.underlying t=some (.slice s.e)) (hi:(P.info? s.e).map (fun i=>(i.size,i.bytes,(i.zero.map fun z=>z.cells.size)))=some (s.n,by_,some s.n)) (hs:0<s.n)
    (hmax:n+0<=maxLen) (hb:(n+0)*by_<=140737488355328):Ok P c o fr (look hp) (.sl k n) (look ((k,some (.row s els))::hp)):=by
  refine Ok.reval (y:=.pv (.seq [])) hy (fun F ρ w=>.pv _ _ (.seq [] none 0 0 0 (fun _ _=>undef) sI0 sI0 sI0 (by simp [maxLen]) sI0 sI0)) ?_
  have hu:Fr.ev ((v,.pv (.seq []))::fr) u=some (.sl k n):=by
    cases u with
    | tmp x=>simp only [Fr.ev,Fr.get,hut x rfl];exact hx
    | _=>exact hx
  have hv:Fr.ev ((v,.pv (.seq []))::fr) (.tmp v)=some (.pv (.seq [])):=by simp [Fr.ev,Fr.get]
  have:=aPp (c:=c) ho hu hv hk hn hR ht hi hs (fun _ h=>by cases h) (fun _ h=>by cases h) hmax hb
  simpa using this
def tmpB:Operand->Option Nat
  | .tmp t=>some t
  | _=>none
theorem z5b {y:Operand} {t:Nat} (h:tmpB y=some t):y = .tmp t:=by cases y<;>simp_all [tmpB]
inductive VApp1 (s:RT) (els:List (List PV)) (n m:Nat) (el:List PV) (K:Nat->List (List PV)->Prop):Prop
  | mk {m':Nat} {els':List (List PV)} (hn:els.length=m) (hf:VFlat s.n [el]) (hb:m+1<=68719476736) (h:(n<m/\els'=els.set n el/\m'=m)∨(n=m/\els'=els++[el]/\m'=m+1)) (k:K m' els')
def z6l:List IV->Bool
  | []=>true
  | x::r=>match x.parts with
    | none=>z6l r
    | some _=>false
theorem z5u:∀ {l:List IV},z6l l=true->∀ x∈l,x.parts=none
  | y::r,h,x,hx=>by
    simp only [z6l] at h
    split at h
    · rename_i hy
      rcases List.mem_cons.1 hx with rfl | hx
      · exact hy
      · exact z5u h x hx
    · cases h
def zg9 (T:TB P) (Rl:List Nat) (t:Nat) (fr:Fr) (hp:Hp) (x y:Operand) (k0:Nat) (K:Stp->Prop):Prop:=vti T t fun e=>match e.i with
  | .slice q=>vti T q fun eq=>z0e (!eq.z.isEmpty&&Nat.ble 1 eq.n&&Nat.ble eq.b 2048) (vev fr x fun a=>vev fr y fun b=>match a with
    | .sl k n=>z0e (!nIn k Rl) (vrow hp k fun s els=>z0e (Nat.beq s.e q&&Nat.beq s.n eq.n) (match b with
      | .pv (.seq news)=>VApp s els n news (K ⟨.sl k (n+news.length),[(k,some (.row s (els++news)))],[k],[]⟩)
      | .sl k2 n2=>vrow hp k2 fun s2 news=>z0e (Nat.beq s2.e q&&Nat.beq s2.n eq.n) (news.length=n2/\VApp s els n news (K ⟨.sl k (n+news.length),[(k,some (.row s (els++news)))],[k,k2],[]⟩))
      | .pv (.val (.slice none 0 0))=>vopt (tmpB y) fun v=>z0e (match tmpB x with
          | some u=>!Nat.beq v u
          | none=>true) (els.length=n/\n<=68719476736/\K ⟨.sl k n,[(k,some (.row s els))],[k],[]⟩)
      | _=>False))
    | .pv (.val (.slice none 0 0))=>vopt (tmpB x) fun u=>vopt (tmpB y) fun v=>z0e (!Nat.beq u v && !nIn k0 Rl) (match b with
      | .pv (.seq news)=>VApp ⟨q,eq.n⟩ [] 0 news (K ⟨.sl k0 news.length,[(k0,some (.row ⟨q,eq.n⟩ news))],[k0],[k0]⟩)
      | .bs k2 n2=>vbox hp k2 fun cs=>z0e (!nm.nms k0 cs&&Nat.beq eq.n 1) (cs.length=n2/\0<n2/\n2<=68719476736/\K ⟨.bs k0 n2,[(k0,some (.box cs))],[k0,k2],[k0]⟩)
      | _=>False)
    | .sp k n m=>vopt (tmpB x) fun u=>vopt (tmpB y) fun v=>z0e (!Nat.beq u v && !nIn k Rl) (vrow hp k fun s els=>z0e (Nat.beq s.e q&&Nat.beq s.n eq.n) (match b with
      | .pv (.seq [el])=>VApp1 s els n m el fun m' els'=>K ⟨.sp k (n+1) m',[(k,some (.row s els'))],[k],[]⟩
      | _=>False))
    | .bs k n=>z0e (!nIn k Rl&&Nat.beq eq.n 1) (vbox hp k fun cs=>match b with
      | .bs k2 n2=>vbox hp k2 fun cs2=>z0e (!nm.nms k0 cs2&&z6l cs2) (z5e hp (cs2.map fun x=>((0:Nat),x)) (cs.length=n/\cs2.length=n2/\0<n/\0<n2/\n+n2<=68719476736/\K ⟨.bs k0 (n+n2),[(k0,some (.box (cs++cs2))),(k,none)],k0::k::k2::(cs2.map fun x=>((0:Nat),x)).flatMap (fun p=>z2w p.2),[k0]⟩))
      | _=>False)
    | _=>False)
  | _=>False
theorem z4h {n b:Nat} (hn:n<=68719476736) (hb:Nat.ble b 2048=true):n<=maxLen/\n*b<=140737488355328:=by
  refine ⟨by simp only [maxLen];omega,Nat.le_trans (Nat.mul_le_mul hn (Nat.le_of_ble_eq_true hb)) dC0⟩
theorem za9 {t k0:Nat} {x y:Operand} (ho:o.op = .call { callee:=.builtin .append,args:=#[x,y],argTypes:=#[t,t] }) (h:zg9 T Rl t fr hp x y k0 K):Does P Rl o fr hp K:=by
  have hops:o.op.operands.toList=[x,y]:=by rw [ho];rfl
  replace h:=z0a h
  obtain ⟨e,he,h⟩:=h
  obtain ⟨d,hd,hi⟩:=z0o he
  split at h
  · rename_i q hq
    rw [hq] at hi
    cases hi
    replace h:=z0a h
    obtain ⟨eq,heq,h⟩:=h
    replace h:=z01 h
    obtain ⟨h1,h⟩:=h
    simp only [Bool.and_eq_true] at h1
    have hz':eq.z≠[]:=by simpa using h1.1.1
    have hpos:=Nat.le_of_ble_eq_true h1.1.2
    have hinfo:=te_app heq hz'
    replace h:=z09 h
    obtain ⟨a,ha,h⟩:=h
    replace h:=z09 h
    obtain ⟨b,hb,h⟩:=h
    have ea:∀ {fr2:Fr},agr fr2 fr (z05 o.op)->fr2.ev x=some a:=fun hg=>hg.ev ha (by rw [hops];simp)
    have eb:∀ {fr2:Fr},agr fr2 fr (z05 o.op)->fr2.ev y=some b:=fun hg=>hg.ev hb (by rw [hops];simp)
    split at h
    · rename_i k n
      replace h:=z01 h
      obtain ⟨hR,h⟩:=h
      have hR':nIn k Rl=false:=by simpa using hR
      replace h:=z0q h
      obtain ⟨s,els,hk,h⟩:=h
      replace h:=z01 h
      obtain ⟨hs,h⟩:=h
      simp only [Bool.and_eq_true] at hs
      have hse:=Nat.eq_of_beq_eq_true hs.1
      have hsn:=Nat.eq_of_beq_eq_true hs.2
      split at h
      · obtain ⟨hn,hf,hbd,h⟩:=h
        obtain ⟨hm1,hm2⟩:=z4h hbd h1.2
        exact ⟨_,h,fun c fr2 hp2 hc _ hg hh _=>aPp ho (ea hg) (eb hg) (hh.at hk (.head _)) hn (notR hc hR') (by rw [hse];exact hd) (by rw [hse,hsn];exact hinfo) oM0 (fun el hel=>(hf el hel).1) (fun el hel=>(hf el hel).2) hm1 hm2⟩
      · rename_i k2 n2
        replace h:=z0q h
        obtain ⟨s2,news,hk2,h⟩:=h
        replace h:=z01 h
        obtain ⟨hs2,h⟩:=h
        simp only [Bool.and_eq_true] at hs2
        have hss:s2=s:=by
          cases s;cases s2
          have h3:=Nat.eq_of_beq_eq_true hs2.1
          have h4:=Nat.eq_of_beq_eq_true hs2.2
          simp_all
        subst hss
        obtain ⟨hn2,hn,hf,hbd,h9⟩:=h
        obtain ⟨hm1,hm2⟩:=z4h hbd h1.2
        exact ⟨_,h9,fun c fr2 hp2 hc _ hg hh _=>z6o ho (ea hg) (eb hg) (hh.at hk (.head _)) hn (hh.at hk2 (.tail _ (.head _))) hn2 (notR hc hR') (by rw [hse];exact hd) (by rw [hse,hsn];exact hinfo) oM0 (fun el hel=>(hf el hel).1) (fun el hel=>(hf el hel).2) hm1 hm2⟩
      · replace h:=z02 h
        obtain ⟨v,hv,h⟩:=h
        have hv':=z5b hv
        replace h:=z01 h
        obtain ⟨hut,h⟩:=h
        obtain ⟨hn,hbd,h⟩:=h
        obtain ⟨hm1,hm2⟩:=z4h hbd h1.2
        refine ⟨_,h,fun c fr2 hp2 hc _ hg hh _=>z5i (v:=v) (fun u hu=>?_) (by rw [ho,hv']) (ea hg) (by have:=eb hg;rw [hv'] at this;exact this) (hh.at hk (.head _)) hn (notR hc hR') (by rw [hse];exact hd) (by rw [hse,hsn];exact hinfo) oM0 hm1 hm2⟩
        rw [hu] at hut
        simpa [tmpB] using hut
      · exact h.elim
    · replace h:=z02 h
      obtain ⟨u,hu,h⟩:=h
      replace h:=z02 h
      obtain ⟨v,hv,h⟩:=h
      replace h:=z01 h
      obtain ⟨hut,h⟩:=h
      simp only [Bool.and_eq_true,Bool.not_eq_true'] at hut
      have hu':=z5b hu
      have hv':=z5b hv
      split at h
      · obtain ⟨hn,hf,hbd,h⟩:=h
        obtain ⟨hm1,hm2⟩:=z4h hbd h1.2
        refine ⟨_,h,fun c fr2 hp2 hc hc0 hg _ hfr=>?_⟩
        obtain ⟨f1,f2,f3⟩:=z0s (hfr k0 (.head _))
        exact z6n (s:=⟨q,eq.n⟩) hut.1 (by rw [ho,hu',hv']) (by have:=ea hg;rw [hu'] at this;exact this) (by have:=eb hg;rw [hv'] at this;exact this) hd hinfo hpos (fun el hel=>(hf el hel).1) (fun el hel=>(hf el hel).2) hm1 hm2 f3 (hc0 k0 (.head _)) (notR hc hut.2) f1 f2
      · rename_i k2 n2
        obtain ⟨cs,hk2,h⟩:=z0t h
        replace h:=z01 h
        obtain ⟨hn1,hn2,h02,hbd,h⟩:=h
        simp only [Bool.and_eq_true,Bool.not_eq_true'] at hn1
        obtain ⟨hm1,hm2⟩:=z4h hbd h1.2
        have hn3:=Nat.eq_of_beq_eq_true hn1.2
        refine ⟨_,h,fun c fr2 hp2 hc hc0 hg hh hfr=>?_⟩
        obtain ⟨f1,f2,f3⟩:=z0s (hfr k0 (.head _))
        exact z7c ho (ea hg) (eb hg) (hh.at hk2 (.tail _ (.head _))) hn2 h02 hd (by rw [hn3] at hinfo;exact hinfo) hm1 hm2 hn1.1 f3 (hc0 k0 (.head _)) f1 f2
      · exact h.elim
    · rename_i k n m
      replace h:=z02 h
      obtain ⟨u,hu,h⟩:=h
      replace h:=z02 h
      obtain ⟨v,hv,h⟩:=h
      replace h:=z01 h
      obtain ⟨hut,h⟩:=h
      simp only [Bool.and_eq_true,Bool.not_eq_true'] at hut
      have hu':=z5b hu
      have hv':=z5b hv
      replace h:=z0q h
      obtain ⟨s,els,hk,h⟩:=h
      replace h:=z01 h
      obtain ⟨hs,h⟩:=h
      simp only [Bool.and_eq_true] at hs
      have hse:=Nat.eq_of_beq_eq_true hs.1
      have hsn:=Nat.eq_of_beq_eq_true hs.2
      split at h
      · rename_i el
        obtain ⟨hn,hf,hbd,hor,h⟩:=h
        obtain ⟨hm1,hm2⟩:=z4h hbd h1.2
        obtain ⟨hf1,hf2⟩:=hf el (.head _)
        rcases hor with ⟨g1,rfl,rfl⟩ | ⟨rfl,rfl,rfl⟩
        · exact ⟨_,h,fun c fr2 hp2 hc _ hg hh _=>z5j ho (ea hg) (eb hg) (hh.at hk (.head _)) hn g1 (notR hc hut.2) (by rw [hse];exact hd) (by rw [hse,hsn];exact hinfo) hf1 hf2⟩
        · exact ⟨_,h,fun c fr2 hp2 hc _ hg hh _=>z4t hut.1 (by rw [ho,hu',hv']) (by have:=ea hg;rw [hu'] at this;exact this) (by have:=eb hg;rw [hv'] at this;exact this) (hh.at hk (.head _)) hn (notR hc hut.2) (by rw [hse];exact hd) (by rw [hse,hsn];exact hinfo) oM0 hf1 hf2 hm1 hm2⟩
      · exact h.elim
    · rename_i k n
      replace h:=z01 h
      obtain ⟨hut,h⟩:=h
      simp only [Bool.and_eq_true,Bool.not_eq_true'] at hut
      obtain ⟨cs,hk,h⟩:=z0t h
      split at h
      · rename_i k2 n2
        obtain ⟨cs2,hk2,h⟩:=z0t h
        replace h:=z01 h
        obtain ⟨hv,h⟩:=h
        simp only [Bool.and_eq_true,Bool.not_eq_true'] at hv
        obtain ⟨⟨hn,hn2,h0,h02,hbd,h⟩,hfm⟩:=z2k h
        obtain ⟨hm1,hm2⟩:=z4h hbd h1.2
        have hn3:=Nat.eq_of_beq_eq_true hut.2
        refine ⟨_,h,fun c fr2 hp2 hc hc0 hg hh hfr=>?_⟩
        obtain ⟨f1,f2,f3⟩:=z0s (hfr k0 (.head _))
        have hfm2:=hfm hp2 fun k hk=>hh k (.tail _ (.tail _ (.tail _ hk)))
        exact z6m ho (ea hg) (eb hg) (hh.at hk (.tail _ (.head _))) (hh.at hk2 (.tail _ (.tail _ (.head _)))) hn hn2 h0 h02 hd (by rw [hn3] at hinfo;exact hinfo) hm1 hm2 (fun x hx=>hfm2 (0,x) (List.mem_map.2 ⟨x,hx,rfl⟩) (z5u hv.2 x hx)) hv.1 (notR hc hut.1) f3 (hc0 k0 (.head _)) f1 f2
      · exact h.elim
    · exact h.elim
  · exact h.elim
end
section
variable {P:Program} {T:TB P} {o:Oper} {fr:Fr} {hp:Hp} {Rl:List Nat} {K:Stp->Prop} {c:Cx}
def z2n (l:List (Nat × HO)):List Nat:=l.map (·.1)
def lBeq:List Nat->List Nat->Bool
  | [],[]=>true
  | a::r,b::s=>match Nat.beq a b with
    | true=>lBeq r s
    | false=>false
  | _,_=>false
theorem z8f:∀ {l m:List Nat},lBeq l m=true->l=m
  | [],[],_=>rfl
  | a::r,b::s,h=>by
    simp only [lBeq] at h
    split at h
    · rename_i hb;rw [Nat.eq_of_beq_eq_true hb,z8f h]
    · cases h
def SubA (xs ys:List IV):Prop:=∀ σ,Subs σ xs ys
theorem sR {xs:List IV}:SubA xs xs:=fun σ=>sRf σ xs
def cOk (hp:Hp) (Rl U:List Nat) (R:Nat->Prop) (post:List (Nat × HO)):List (Nat × HO)->Prop
  | []=>True
  | (k,o)::r=>look hp k=some o/\(match nIn k U with
    | true=>look (up post) k=some o/\(match nIn k Rl with
      | true=>R k/\cOk hp Rl U R post r
      | false=>cOk hp Rl U R post r)
    | false=>match nIn k Rl with
      | true=>R k/\cOk hp Rl U R post r
      | false=>cOk hp Rl U R post r)
theorem z87 {U:List Nat} {R:Nat->Prop} {post:List (Nat × HO)}:∀ {pre:List (Nat × HO)},cOk hp Rl U R post pre->∀ p∈pre,look hp p.1=some p.2/\(p.1∈U->look (up post) p.1=some p.2)/\(p.1∈Rl->R p.1)
  | (k,o)::r,h,p,hq=>by
    simp only [cOk] at h
    obtain ⟨h0,h⟩:=h
    have key:(k∈U->look (up post) k=some o)/\(k∈Rl->R k)/\cOk hp Rl U R post r:=by
      split at h
      · obtain ⟨h1,h⟩:=h
        split at h
        · exact ⟨fun _=>h1,fun _=>h.1,h.2⟩
        · rename_i hn;exact ⟨fun _=>h1,fun e=>absurd e (z0m hn),h⟩
      · rename_i hu
        split at h
        · exact ⟨fun e=>absurd e (z0m hu),fun _=>h.1,h.2⟩
        · rename_i hn;exact ⟨fun e=>absurd e (z0m hu),fun e=>absurd e (z0m hn),h⟩
    rcases List.mem_cons.1 hq with rfl | hq
    · exact ⟨h0,key.1,key.2.1⟩
    · exact z87 key.2.2 p hq
def zd9 (pre post:List (Nat × HO)):List Nat:=(z2n post).take (post.length - pre.length)
def lAll (f:Nat->Bool):List Nat->Bool
  | []=>true
  | k::r=>match f k with
    | true=>lAll f r
    | false=>false
theorem z3o {f:Nat->Bool}:∀ {l:List Nat},lAll f l=true->∀ k∈l,f k=true
  | a::r,h,k,hk=>by
    simp only [lAll] at h
    split at h
    · rename_i ha
      rcases List.mem_cons.1 hk with rfl | hk
      · exact ha
      · exact z3o h k hk
    · cases h
def callB (U:List Nat) (pre post:List (Nat × HO)) (r:IV):Bool :=
  lBeq (z2n post) (zd9 pre post++z2n pre)&&lAll (fun k=>!nIn k U) (zd9 pre post)&&only (z2n post) r&&z2f (z2n post) post
def upU (U:List Nat):List (Nat × HO)->Hp
  | []=>[]
  | (k,o)::r=>match nIn k U with
    | true=>upU U r
    | false=>(k,some o)::upU U r
theorem z96 {U:List Nat} {k:Nat}:∀ {l:List (Nat × HO)},look (upU U l) k=if k∈U then none else look (up l) k
  | []=>by simp [upU,up,look]
  | (j,o)::r=>by
    simp only [upU]
    have ih:=z96 (U:=U) (k:=k) (l:=r)
    have hl:look (up ((j,o)::r)) k=bif Nat.beq j k then some o else look (up r) k:=rfl
    split
    · rename_i hj
      have hj':=z13.1 hj
      rw [ih,hl]
      by_cases e:k∈U
      · simp [e]
      · have:j≠k:=fun h=>e (h ▸ hj')
        simp [e,z1m this]
    · rename_i hj
      have hj':=z0m hj
      have hl2:look ((j,some o)::upU U r) k=bif Nat.beq j k then some o else look (upU U r) k:=rfl
      rw [hl2,ih,hl]
      by_cases e:k∈U
      · have:j≠k:=fun h=>hj' (h ▸ e)
        simp [e,z1m this]
      · simp [e]
theorem z0k {A B:Hp} {k:Nat}:look (A++B) k=if k∈A.map (·.1) then look A k else look B k:=by
  induction A with
  | nil=>simp
  | cons p r ih =>
    obtain ⟨j,q⟩:=p
    have h1:look ((j,q)::r++B) k=bif Nat.beq j k then q else look (r++B) k:=rfl
    have h2:look ((j,q)::r) k=bif Nat.beq j k then q else look r k:=rfl
    rw [h1,h2]
    by_cases e:j=k
    · subst e;simp
    · have e':k≠j:=Ne.symm e
      simp only [z1m e,cond_false,List.map_cons,List.mem_cons,e',false_or]
      exact ih
theorem up_ids {l:List (Nat × HO)}:(up l).map (·.1)=z2n l:=by simp [up,z2n]
theorem z6u {U:List Nat}:∀ {l:List (Nat × HO)} {k:Nat},k∈(upU U l).map (·.1)↔k∈z2n l/\k∉U
  | [],k=>by simp [upU,z2n]
  | (j,o)::r,k=>by
    have ih:=z6u (U:=U) (l:=r) (k:=k)
    simp only [upU,z2n,List.map_cons,List.mem_cons]
    simp only [z2n] at ih
    split
    · rename_i hj
      have hj':=z13.1 hj
      rw [ih]
      constructor
      · exact fun h=>⟨.inr h.1,h.2⟩
      · rintro ⟨rfl | h,h2⟩
        · exact absurd hj' h2
        · exact ⟨h,h2⟩
    · rename_i hj
      have hj':=z0m hj
      simp only [List.map_cons,List.mem_cons]
      rw [ih]
      constructor
      · rintro (rfl | h)
        · exact ⟨.inl rfl,hj'⟩
        · exact ⟨.inr h.1,h.2⟩
      · rintro ⟨rfl | h,h2⟩
        · exact .inl rfl
        · exact .inr ⟨h,h2⟩
inductive VCall (P:Program) (Rl:List Nat) (f:FuncId) (xs:List IV) (hp:Hp) (K:Stp->Prop):Prop
  | mk (U:List Nat) {args:List IV} {pre post:List (Nat × HO)} {R:Nat->Prop} {r:IV} (h:SC P f args pre R r post) (hs:SubA xs args) (ho:cOk hp Rl U R post pre) (hc:callB U pre post r=true) (k:K ⟨r,upU U post,z2n post,zd9 pre post⟩)
theorem VCall.does {f:FuncId} {os:Array Operand} {tys:Array TypeId} {xs:List IV} (hf:z4j P f) (ho:o.op = .call { callee:=.value (.func f),args:=os,argTypes:=tys }) (hx:evs fr os.toList=some xs) (h:VCall P Rl f xs hp K):Does P Rl o fr hp K:=by
  obtain ⟨U,hsc,hs,hok,hc,hk⟩:=h
  rename_i args pre post R r
  simp only [callB,Bool.and_eq_true] at hc
  obtain ⟨⟨⟨h1,h2⟩,h3⟩,h4⟩:=hc
  have hdom:=z8f h1
  have hU:=z3o h2
  have hm:=z87 hok
  refine ⟨_,hk,fun c fr2 hp2 hR hc0 hg hh hf0=>?_⟩
  have hpre2:∀ p∈pre,look hp2 p.1=some p.2:=fun p hq=>hh.at (hm p hq).1 (by
    show p.1∈z2n post
    rw [hdom];exact List.mem_append_right _ (List.mem_map_of_mem hq))
  have hpre3:∀ k ob,look (up pre) k=some ob->look hp2 k=some ob:=fun k ob hk=>hpre2 (k,ob) (z0f hk)
  have h5:=ze5 (ns:=zd9 pre post) (c:=c) hsc hf ho (hg.evs hx fun y hy=>by
      rw [ho];simp only [Op.operands,Call.operands,Array.toList_append];exact List.mem_append_right _ hy) (hs _) hpre3 hdom
    (fun k hk=>(z0s (hf0 k hk)).2.2) (fun k hk=>hc0 k hk) (fun k hk=>(z0s (hf0 k hk)).1) (fun k hk=>(z0s (hf0 k hk)).2.1)
    (fun k hk=>by
      cases hl:look (up pre) k with
      | none=>exact .inl rfl
      | some ob=>exact .inr ((hm _ (z0f hl)).2.2 (hR k hk))) h3 h4
  have heq:look (up post++hp2)=look (upU U post++hp2):=by
    funext k
    rw [z0k,z0k,up_ids]
    by_cases e:k∈z2n post
    · rw [if_pos e]
      by_cases u:k∈U
      · rw [if_neg (fun hx=>(z6u.1 hx).2 u)]
        rw [hdom] at e
        rcases List.mem_append.1 e with e | e
        · have:=hU k e
          rw [z13.2 u] at this
          cases this
        · obtain ⟨p,hq,rfl⟩:=List.mem_map.1 e
          rw [(hm p hq).2.1 u,hpre2 p hq]
      · rw [if_pos (z6u.2 ⟨e,u⟩),z96,if_neg u]
    · rw [if_neg e,if_neg (fun hx=>e (z6u.1 hx).1)]
  rw [<- heq]
  exact h5
inductive VCallV (P:Program) (Rl:List Nat) (f:FuncId) (xs:List IV) (hp:Hp) (K:Stp->Prop):Prop
  | mk {args:List IV} {pre post:List (Nat × HO)} {R:Nat->Prop} {r:IV} (h:SC P f args pre R r post) (hs:SubA xs args) (ho:cOk hp Rl [] R post pre) (hR:∀ k∈Rl,R k) (hc:callB [] pre post r=true) (hn:zd9 pre post=[]) (k:K ⟨r,up post,z2n post,[]⟩)
theorem VCallV.does {f:FuncId} {q:Operand} {os:Array Operand} {tys:Array TypeId} {us xs ws:List IV} (hf:z4j P f) (ho:o.op = .call { callee:=.value q,args:=os,argTypes:=tys }) (hq:fr.ev q=some (.fn (.func f) us ws)) (hx:evs fr os.toList=some xs) (h:VCallV P Rl f (us++xs++ws) hp K):Does P Rl o fr hp K:=by
  obtain ⟨hsc,hs,hok,hR0,hc,hn,hk⟩:=h
  rename_i args pre post R r
  simp only [callB,Bool.and_eq_true] at hc
  obtain ⟨⟨⟨h1,_⟩,h3⟩,h4⟩:=hc
  have hdom:=z8f h1
  rw [hn,List.nil_append] at hdom
  have hm:=z87 hok
  refine ⟨_,hk,fun c fr2 hp2 hR hc0 hg hh hf0=>?_⟩
  have hpre3:∀ k ob,look (up pre) k=some ob->look hp2 k=some ob:=fun k ob hk=>hh.at (hm _ (z0f hk)).1 (by
    show k∈z2n post
    rw [hdom];exact List.mem_map_of_mem (z0f hk))
  exact ok_callv (c:=c) hsc hf ho (hg.ev hq (by rw [ho];simp [Op.operands,Call.operands])) (hg.evs hx fun y hy=>by
      rw [ho];simp only [Op.operands,Call.operands,Array.toList_append];exact List.mem_append_right _ hy) (hs _) hpre3 hdom.symm (fun k hk=>hR0 k (hR k hk)) h3 h4
inductive Gh where
  | grow (t k e n:Nat)
  | growC (k2 j k e n:Nat)
  | fz (t k:Nat)
  | fzC (k2 j k:Nat)
  | fzB (t k:Nat)
  | len (t:Nat)
  | drop (k:Nat)
  | ni (t:Nat)
  | niC (k j:Nat)
  | un (t:Nat)
  | spC (k2 j k:Nat)
structure Hn where
  gh:List (Nat × List Gh):=[]
  pb:List Nat:=[]
  ob:List Nat:=[]
  an:List Nat:=[]
  jn:List Nat:=[]
  ids:List (Nat × Nat):=[]
def idAt (d:Nat):List (Nat × Nat)->Nat
  | []=>100+d
  | (s,k)::r=>match Nat.beq s d with
    | true=>k
    | false=>idAt d r
def z5h (H:Hn) (o:Oper):Nat:=match o.dst with
  | some d=>idAt d H.ids
  | none=>0
def newF (H:Hn) (o:Oper) (fr:Fr) (hp:Hp):Nat:=match frsh (z5h H o) fr hp with
  | true=>z5h H o
  | false=>z5h H o+10
def z8w (T:TB P) (H:Hn) (Rl:List Nat) (o:Oper) (q:Call) (fr:Fr) (hp:Hp) (K:Stp->Prop):Prop:=match q.callee with
  | .builtin b=>match b with
    | .len=>match q.args.toList with
      | [y]=>match q.argTypes.toList with
        | [t]=>vLen T t fr hp y K
        | _=>False
      | _=>False
    | .cap=>match q.args.toList with
      | [y]=>match q.argTypes.toList with
        | [t]=>vCap T t fr y K
        | _=>False
      | _=>False
    | .max=>match q.args.toList with
      | [y,w]=>match q.argTypes.toList with
        | [t,u]=>z0e (Nat.beq u t) (vMax fr y w K)
        | _=>False
      | _=>False
    | .append=>match q.args.toList with
      | [y,w]=>match q.argTypes.toList with
        | [t,u]=>z0e (Nat.beq u t) (zg9 T Rl t fr hp y w (newF H o fr hp) K)
        | _=>False
      | _=>False
    | _=>False
  | .value y=>vopt (evs fr q.args.toList) fun xs=>match y with
    | .func f=>z0e (T.fn f) (VCall P Rl f xs hp K)
    | y=>vev fr y fun a=>match a with
      | .fn (.func f) us ws=>z0e (T.fn f) (VCallV P Rl f (us++xs++ws) hp K)
      | _=>False
  | _=>False
theorem z4a {q:Call} {a:Callee} {xs:List Operand} {ts:List TypeId} (ha:q.callee=a) (hx:q.args.toList=xs) (ht:q.argTypes.toList=ts):q={ callee:=a,args:=xs.toArray,argTypes:=ts.toArray }:=by
  cases q;simp_all;exact ⟨by rw [<- hx],by rw [<- ht]⟩
theorem zb2 {H:Hn} {q:Call} (ho:o.op = .call q) (h:z8w T H Rl o q fr hp K):Does P Rl o fr hp K:=by
  unfold z8w at h
  split at h
  · rename_i b hb
    split at h
    · split at h
      · rename_i hy
        split at h
        · rename_i ht
          exact vLen_ok (by rw [ho,z4a hb hy ht]) h
        · exact h.elim
      · exact h.elim
    · split at h
      · rename_i hy
        split at h
        · rename_i ht
          exact vCap_ok (by rw [ho,z4a hb hy ht]) h
        · exact h.elim
      · exact h.elim
    · split at h
      · rename_i hy
        split at h
        · rename_i ht
          replace h:=z01 h
          obtain ⟨hu,h⟩:=h
          obtain rfl:=Nat.eq_of_beq_eq_true hu
          exact vMax_ok (by rw [ho,z4a hb hy ht]) h
        · exact h.elim
      · exact h.elim
    · split at h
      · rename_i hy
        split at h
        · rename_i ht
          replace h:=z01 h
          obtain ⟨hu,h⟩:=h
          obtain rfl:=Nat.eq_of_beq_eq_true hu
          exact za9 (by rw [ho,z4a hb hy ht]) h
        · exact h.elim
      · exact h.elim
    · exact h.elim
  · rename_i y hb
    replace h:=z02 h
    obtain ⟨xs,hx,h⟩:=h
    have hq:o.op = .call { callee:=.value y,args:=q.args,argTypes:=q.argTypes }:=by rw [ho];cases q;simp_all
    split at h
    · replace h:=z01 h
      exact VCall.does (T.fok _ h.1) hq hx h.2
    · replace h:=z09 h
      obtain ⟨a,ha,h⟩:=h
      split at h
      · replace h:=z01 h
        exact VCallV.does (T.fok _ h.1) hq ha hx h.2
      · exact h.elim
  · exact h.elim
def vop (T:TB P) (H:Hn) (Rl:List Nat) (key:Nat) (o:Oper) (fr:Fr) (hp:Hp) (K:Stp->Prop):Prop:=match nIn key H.an with
  | true=>VAny P Rl o fr hp K
  | false=>match o.op with
    | .move y=>z83 fr y K
    | .assign y=>z83 fr y K
    | .pick q y w=>vPick fr q y w K
    | .binOp p t y w _=>vBin T p t fr y w K
    | .unOp p _ y=>vUn p fr y K
    | .convert s t y=>vConv T s t fr y K
    | .load t y=>z8y T t fr hp y K
    | .store t y w=>vStore T Rl t fr hp y w K
    | .fieldAddr t y f=>zh2 T t fr hp y f K
    | .field t y f=>zh3 T t fr y f K
    | .indexAddr t y w=>vIdxA T t fr hp y w K
    | .index t y w=>vIdxV T t fr y w K
    | .extract y i=>z9i fr y i K
    | .nilCheck y=>vNil fr hp y K
    | .slice t y lo hi none=>vSlice T t fr hp y lo hi K
    | .makeFunc f xs ys=>vFunc fr f xs ys K
    | .lookup t y w two=>zh4 T t fr hp y w two K
    | .mapUpdate t x y w=>zh5 T Rl t fr hp x y w K
    | .insert t x y w=>zh5 T Rl t fr hp x y w K
    | .alloc t=>vAlloc T t (z5h H o) K
    | .box _ y=>vBox (!nIn (z5h H o) H.pb) fr hp y (z5h H o) K
    | .build t parts=>vBuild T t fr hp parts.toList K
    | .buildSlice t len parts=>zh0 T (nIn (z5h H o) H.ob) t len fr hp parts.toList (z5h H o) K
    | .makeMap _ none=>vMkMap (z5h H o) K
    | .makeSlice t y w=>match nIn (z5h H o) H.pb with
      | true=>z81 T t fr y w K
      | false=>z9j T t fr y w (newF H o fr hp) K
    | .call q=>z8w T H Rl o q fr hp K
    | _=>False
theorem z85 {H:Hn} {key:Nat} (h:vop T H Rl key o fr hp K):Does P Rl o fr hp K:=by
  unfold vop at h
  split at h
  · obtain ⟨h1,h2⟩:=h
    exact ⟨_,h2,h1⟩
  · split at h
    · exact vMove_ok ‹_› h
    · exact zb0 ‹_› h
    · exact vPick_ok ‹_› h
    · exact vBin_ok ‹_› h
    · exact vUn_ok ‹_› h
    · exact vConv_ok ‹_› h
    · exact vLoad_ok ‹_› h
    · exact zh8 ‹_› h
    · exact zb3 ‹_› h
    · exact zb4 ‹_› h
    · exact vIdxA_ok ‹_› h
    · exact vIdxV_ok ‹_› h
    · exact z8x ‹_› h
    · exact vNil_ok ‹_› h
    · exact zh7 ‹_› h
    · exact vFunc_ok ‹_› h
    · exact zb5 ‹_› h
    · exact z80 (.inl ‹_›) h
    · exact z80 (.inr ‹_›) h
    · exact zg8 ‹_› h
    · exact vBox_ok ‹_› h
    · exact zh1 ‹_› h
    · exact zb1 ‹_› h
    · exact zh6 ‹_› h
    · split at h
      · exact z82 ‹_› h
      · exact z8z ‹_› h
    · exact zb2 ‹_› h
    · exact h.elim
end
section
variable {P:Program} {c:Cx} {R1:Nat->Prop} {fr:Fr} {hp:Hp} {σ σ':Heap'} {Q:Exit->Fr->Heap'->Prop} {ops:Array Oper} {l:List Oper} {d e j i t:Nat} {b b':Bool} {x z:IV} {op:Op} {ty:TypeId} {ps:String} {af:Array Edge} {g:Option (Nat × Bool)} {ds:Option Nat}
section
variable {is:List Nat} {fuel:Nat} {li:Array Bool}
end
def z9r:Option Nat->Nat->Bool
  | some d,n=>Nat.blt d n
  | none,_=>true
theorem okDst_lt {n:Nat} (h:z9r ds n=true):∀ t,ds=some t->Nat.blt t n=true:=fun t ht=>by subst ht;exact h
section
variable {fuel:Nat} {li:Array Bool}
end
end
theorem fmc {α:Type} {p:α -> Prop} {a:α} {l:List α} (h:p a/\∀ x∈l,p x):∀ x∈a::l,p x:=List.forall_mem_cons.2 h
section
variable {P:Program} {T:TB P} {fr fr':Fr} {hp hp':Hp} {Rl ks:List Nat} {c:Cx} {ops:Array Oper} {Q:Exit->Fr->Heap'->Prop} {nt:Nat}
structure Ent where
  i:Nat
  o:Oper
  s:Option Stp
def Ent.x (e:Ent):IV:=match e.s with
  | some s=>s.x
  | none=>.pv (.val undef)
def Ent.wr (e:Ent):Hp:=match e.s with
  | some s=>s.wr
  | none=>[]
def Ent.rd (e:Ent):List Nat:=match e.s with
  | some s=>s.rd
  | none=>[]
def Ent.nw (e:Ent):List Nat:=match e.s with
  | some s=>s.nw
  | none=>[]
def putE (fr:Fr) (e:Ent):Fr:=fr.put e.o.dst e.x
def putH (hp:Hp) (e:Ent):Hp:=e.wr++hp
def z5q (ops:Array Oper) (o:Oper):List Nat:=match o.guard with
  | some (j,_)=>match ops[j]? with
    | some oj=>oj.dst.toList
    | none=>[]
  | none=>[]
def seen (ops:Array Oper) (o:Oper):List Nat:=z5q ops o++z05 o.op
inductive GYes (ops:Array Oper) (o:Oper) (fr:Fr):Prop
  | free (h:o.guard=none)
  | met {j t:Nat} {b:Bool} {oj:Oper} (h:o.guard=some (j,b)) (hj:ops[j]? = some oj) (ht:oj.dst=some t) (hb:fr.get t=some (.pv (.val (.bool b))))
inductive GNo (ops:Array Oper) (o:Oper) (fr:Fr):Prop
  | not {j t:Nat} {b:Bool} {oj:Oper} (h:o.guard=some (j,!b)) (hj:ops[j]? = some oj) (ht:oj.dst=some t) (hb:fr.get t=some (.pv (.val (.bool b))))
  | un {j t:Nat} {b:Bool} {oj:Oper} (h:o.guard=some (j,b)) (hj:ops[j]? = some oj) (ht:oj.dst=some t) (hb:fr.get t=some (.pv (.val undef)))
theorem GYes.wanted {o:Oper} {ρ:Loc} {σ:Heap'} {w:World} {a:Act} (h:GYes ops o fr) (ha:All c ρ σ w fr a):Region.wanted o (yielded ops a.tmps)=true:=by
  cases h with
  | free h=>simp [Region.wanted,h]
  | met h hj ht hb=>simp [Region.wanted,h,z5f ha hj ht hb]
theorem GNo.wanted {o:Oper} {ρ:Loc} {σ:Heap'} {w:World} {a:Act} (h:GNo ops o fr) (ha:All c ρ σ w fr a):Region.wanted o (yielded ops a.tmps)=false:=by
  cases h with
  | not h hj ht hb=>simp [Region.wanted,h,z5f ha hj ht hb]
  | un h hj ht hb=>simp [Region.wanted,h,z6x ha hj ht hb]
theorem GYes.agr {o:Oper} {fr2:Fr} (h:GYes ops o fr) (hg:agr fr2 fr (z5q ops o)):GYes ops o fr2:=by
  cases h with
  | free h=>exact .free h
  | met h hj ht hb=>exact .met h hj ht ((hg _ (by simp [z5q,h,hj,ht])).trans hb)
theorem GNo.agr {o:Oper} {fr2:Fr} (h:GNo ops o fr) (hg:agr fr2 fr (z5q ops o)):GNo ops o fr2:=by
  cases h with
  | not h hj ht hb=>exact .not h hj ht ((hg _ (by simp [z5q,h,hj,ht])).trans hb)
  | un h hj ht hb=>exact .un h hj ht ((hg _ (by simp [z5q,h,hj,ht])).trans hb)
def wrOk (hp:Hp) (nw:List Nat):Hp->Bool
  | []=>true
  | (k,_)::r=>match nIn k nw with
    | true=>wrOk hp nw r
    | false=>match look hp k with
      | some _=>wrOk hp nw r
      | none=>false
theorem z6w {nw:List Nat} {k:Nat}:∀ {l:Hp},wrOk hp nw l=true->k∈l.map (·.1)->k∈nw∨look hp k≠none
  | (j,q)::r,h,hk=>by
    simp only [wrOk] at h
    simp only [List.map_cons,List.mem_cons] at hk
    split at h
    · rename_i hn
      rcases hk with rfl | hk
      · exact .inl (z13.1 hn)
      · exact z6w h hk
    · split at h
      · rename_i ob hl
        rcases hk with rfl | hk
        · exact .inr (by rw [hl];simp)
        · exact z6w h hk
      · cases h
def newB (ks:List Nat) (fr:Fr) (hp:Hp) (k:Nat):Bool:=match nIn k ks with
  | true=>false
  | false=>frsh k fr hp
theorem z8i {k:Nat} (h:newB ks fr hp k=true):k∉ks/\frsh k fr hp=true:=by
  unfold newB at h
  split at h
  · cases h
  · rename_i hn;exact ⟨z0m hn,h⟩
def Good (P:Program) (ops:Array Oper) (Rl ks:List Nat) (nt:Nat) (e:Ent) (fr:Fr) (hp:Hp):Prop :=
  z9r e.o.dst nt=true/\match e.s with
  | some s=>GYes ops e.o fr/\OkF P Rl e.o fr hp s/\(∀ k∈s.nw,k∉ks/\frsh k fr hp=true)/\wrOk hp s.nw s.wr=true
  | none=>GNo ops e.o fr
def FrEq (fr fr2:Fr):Prop:=(∀ t,fr2.get t=fr.get t)/\∀ k,nmFr k fr2=nmFr k fr
theorem FrEq.rfl':FrEq fr fr:=⟨fun _=>rfl,fun _=>rfl⟩
theorem FrEq.lit {t:Nat} {v:Value} (h:fr.get t=some (.pv (.val v))):FrEq ((t,.pv (.val v))::fr) fr:=by
  refine ⟨fun u=>?_,fun k=>by simp [nmFr,nm]⟩
  simp only [Fr.get]
  cases hb:Nat.beq t u with
  | true=>obtain rfl:=Nat.eq_of_beq_eq_true hb;exact h
  | false=>rfl
theorem FrEq.put {d:Option Nat} {x:IV} {fr2:Fr} (h:FrEq fr fr2):FrEq (fr.put d x) (fr2.put d x):=by
  cases d with
  | none=>exact h
  | some t=>exact ⟨fun u=>by simp only [Fr.put,Fr.get,h.1 u],fun k=>by simp only [Fr.put,nmFr,h.2 k]⟩
theorem FrEq.trans {fr2 fr3:Fr} (h:FrEq fr fr2) (h2:FrEq fr2 fr3):FrEq fr fr3:=⟨fun t=>(h2.1 t).trans (h.1 t),fun k=>(h2.2 k).trans (h.2 k)⟩
theorem FrEq.frsh {k:Nat} {fr2:Fr} (h:FrEq fr fr2):frsh k fr2 hp=frsh k fr hp:=by simp only [Go.Proofs.Ytnpiekoeammkgaa.frsh,h.2 k]
theorem Good.eqv {e:Ent} {fr2:Fr} (h:Good P ops Rl ks nt e fr hp) (hf:FrEq fr fr2):Good P ops Rl ks nt e fr2 hp:=by
  refine ⟨h.1,?_⟩
  have h2:=h.2
  split at h2
  · obtain ⟨h3,h4,h5,h6⟩:=h2
    exact ⟨h3.agr fun t _=>hf.1 t,fun c fr3 hp3 a b ha=>h4 c fr3 hp3 a b (fun t ht=>(ha t ht).trans (hf.1 t)),fun k hk=>⟨(h5 k hk).1,by rw [hf.frsh];exact (h5 k hk).2⟩,h6⟩
  · exact h2.agr fun t _=>hf.1 t
inductive Chain (P:Program) (ops:Array Oper) (Rl ks:List Nat) (nt:Nat):Fr->Hp->List Ent->Fr->Hp->Prop
  | nil {fr:Fr} {hp:Hp}:Chain P ops Rl ks nt fr hp [] fr hp
  | lit {fr:Fr} {hp:Hp} {L:List Ent} {fr':Fr} {hp':Hp} {t:Nat} {v:Value} (ht:fr.get t=some (.pv (.val v))) (h:Chain P ops Rl ks nt ((t,.pv (.val v))::fr) hp L fr' hp'):Chain P ops Rl ks nt fr hp L fr' hp'
  | cons {fr:Fr} {hp:Hp} {L:List Ent} {fr':Fr} {hp':Hp} {e:Ent} (g:Good P ops Rl ks nt e fr hp) (h:Chain P ops Rl ks nt (putE fr e) (putH hp e) L fr' hp'):Chain P ops Rl ks nt fr hp (e::L) fr' hp'
def z19 (fr:Fr) (L:List Ent):Fr:=L.foldl putE fr
def z1a (hp:Hp) (L:List Ent):Hp:=L.foldl putH hp
theorem Chain.fin {L:List Ent} (h:Chain P ops Rl ks nt fr hp L fr' hp'):∀ {fr2:Fr},FrEq fr fr2->FrEq fr' (z19 fr2 L)/\hp'=z1a hp L:=by
  induction h with
  | nil=>exact fun hf=>⟨hf,rfl⟩
  | lit ht _ ih=>exact fun hf=>ih ((FrEq.lit ht).trans hf)
  | cons g _ ih=>exact fun hf=>ih (FrEq.put hf)
theorem Chain.at {L:List Ent} (h:Chain P ops Rl ks nt fr hp L fr' hp'):∀ {fr2:Fr},FrEq fr fr2->∀ {A B:List Ent} {e:Ent},L=A++e::B->Good P ops Rl ks nt e (z19 fr2 A) (z1a hp A):=by
  induction h with
  | nil=>intro fr2 hf A B e he;cases A<;>cases he
  | lit ht _ ih=>exact fun hf=>ih ((FrEq.lit ht).trans hf)
  | cons g _ ih =>
    intro fr2 hf A B e he
    cases A with
    | nil=>cases he;exact g.eqv hf
    | cons a A=>cases he;exact ih (FrEq.put hf) rfl
theorem All.putU {ρ:Loc} {σ:Heap'} {w:World} {a:Act} {d:Option Nat} {x:IV} {v:Value} (h:All c ρ σ w fr a) (hd:z9r d c.n=true) (hx:RepI c.F ρ σ w x v):All c ρ σ w (fr.put d x) (a.put d v) :=
  h.put hx fun t ht=>by simpa using okDst_lt hd t ht
theorem Chain.text {L:List Ent} (h:Chain P ops Rl ks nt fr hp L fr' hp') (hn:c.n=nt) (hR:∀ k,c.R k->k∈Rl) (hσ:∀ k,c.σ k≠none->k∈ks) (hQ:Q .normal fr' (look hp')):WL P c ops Q (L.map (·.o)) fr (look hp):=by
  induction h with
  | nil=>exact WL.nil hQ
  | lit ht _ ih=>exact fun ρ w a ha=>ih hQ ρ w a (ha.putFr ht fun _ h=>h)
  | cons g _ ih =>
    rename_i fr hp L fr' hp' e _
    intro ρ w a ha
    obtain ⟨hd,g⟩:=g
    subst hn
    refine wpList_step fun K hK=>?_
    split at g
    · rename_i s hs
      obtain ⟨h1,h2,h3,h4⟩:=g
      rw [if_pos (h1.wanted ha)]
      refine h2 c fr hp hR (fun k hk=>?_) (fun _ _=>rfl) (fun _ _=>rfl) (fun k hk=>(h3 k hk).2) ρ w a K _ ha fun ρ' w' v ha' hv=>hK _ _ ?_
      · cases h5:c.σ k with
        | none=>rfl
        | some o=>exact absurd (hσ k (by rw [h5];simp)) (h3 k hk).1
      · have hx:e.x=s.x:=by simp [Ent.x,hs]
        have hw:e.wr=s.wr:=by simp [Ent.wr,hs]
        refine ih hQ ρ' w' _ ?_
        simp only [putE,putH,hx,hw]
        exact ha'.putU hd hv
    · rename_i hs
      rw [if_neg (by simp [g.wanted ha])]
      refine hK _ _ (ih hQ ρ w _ ?_)
      have hx:e.x = .pv (.val undef):=by simp [Ent.x,hs]
      have hw:e.wr=[]:=by simp [Ent.wr,hs]
      simp only [putE,putH,hx,hw,List.nil_append]
      exact ha.putU hd (z0r undef)
theorem z10 {t:Nat} {p q:Ent->Bool}:∀ {L:List Ent} {fr fr2:Fr},fr.get t=fr2.get t->(∀ e∈L,e.o.dst=some t->p e=q e)->(z19 fr (L.filter p)).get t=(z19 fr2 (L.filter q)).get t
  | [],_,_,h,_=>h
  | e::L,fr,fr2,h,hh=>by
    have hL:∀ e∈L,e.o.dst=some t->p e=q e:=fun e he=>hh e (.tail _ he)
    have step:∀ {f:Fr},e.o.dst≠some t->(putE f e).get t=f.get t:=fun {f} hne=>by
      unfold putE
      cases hd:e.o.dst with
      | none=>rfl
      | some d =>
        have:d≠t:=fun h=>hne (by rw [hd,h])
        simp [Fr.put,Fr.get,z1m this]
    have step2:∀ {f:Fr},e.o.dst=some t->(putE f e).get t=some e.x:=fun {f} hd=>by simp [putE,hd,Fr.put,Fr.get]
    by_cases hd:e.o.dst=some t
    · have:=hh e (.head _) hd
      cases hp:p e with
      | true =>
        have hq:q e=true:=this ▸ hp
        rw [List.filter_cons_of_pos hp,List.filter_cons_of_pos hq]
        exact z10 (by rw [step2 hd,step2 hd]) hL
      | false =>
        have hq:q e=false:=this ▸ hp
        rw [List.filter_cons_of_neg (by simp [hp]),List.filter_cons_of_neg (by simp [hq])]
        exact z10 h hL
    · cases hp:p e<;>cases hq:q e
      · rw [List.filter_cons_of_neg (by simp [hp]),List.filter_cons_of_neg (by simp [hq])];exact z10 h hL
      · rw [List.filter_cons_of_neg (by simp [hp]),List.filter_cons_of_pos hq];exact z10 (fr2:=putE fr2 e) (by rw [step hd];exact h) hL
      · rw [List.filter_cons_of_pos hp,List.filter_cons_of_neg (by simp [hq])];exact z10 (fr:=putE fr e) (by rw [step hd];exact h) hL
      · rw [List.filter_cons_of_pos hp,List.filter_cons_of_pos hq];exact z10 (fr:=putE fr e) (fr2:=putE fr2 e) (by rw [step hd,step hd];exact h) hL
theorem z0u {k:Nat} {p q:Ent->Bool}:∀ {L:List Ent} {hp hp2:Hp},look hp k=look hp2 k->(∀ e∈L,k∈e.wr.map (·.1)->p e=q e)->look (z1a hp (L.filter p)) k=look (z1a hp2 (L.filter q)) k
  | [],_,_,h,_=>h
  | e::L,fr,fr2,h,hh=>by
    have hL:∀ e∈L,k∈e.wr.map (·.1)->p e=q e:=fun e he=>hh e (.tail _ he)
    have step:∀ {f:Hp},k∉e.wr.map (·.1)->look (putH f e) k=look f k:=fun {f} hne=>by unfold putH;rw [z0k,if_neg hne]
    have step2:∀ {f:Hp},k∈e.wr.map (·.1)->look (putH f e) k=look e.wr k:=fun {f} hd=>by unfold putH;rw [z0k,if_pos hd]
    by_cases hd:k∈e.wr.map (·.1)
    · have:=hh e (.head _) hd
      cases hp:p e with
      | true =>
        have hq:q e=true:=this ▸ hp
        rw [List.filter_cons_of_pos hp,List.filter_cons_of_pos hq]
        exact z0u (by rw [step2 hd,step2 hd]) hL
      | false =>
        have hq:q e=false:=this ▸ hp
        rw [List.filter_cons_of_neg (by simp [hp]),List.filter_cons_of_neg (by simp [hq])]
        exact z0u h hL
    · cases hp:p e<;>cases hq:q e
      · rw [List.filter_cons_of_neg (by simp [hp]),List.filter_cons_of_neg (by simp [hq])];exact z0u h hL
      · rw [List.filter_cons_of_neg (by simp [hp]),List.filter_cons_of_pos hq];exact z0u (hp2:=putH fr2 e) (by rw [step hd];exact h) hL
      · rw [List.filter_cons_of_pos hp,List.filter_cons_of_neg (by simp [hq])];exact z0u (hp:=putH fr e) (by rw [step hd];exact h) hL
      · rw [List.filter_cons_of_pos hp,List.filter_cons_of_pos hq];exact z0u (hp:=putH fr e) (hp2:=putH fr2 e) (by rw [step hd,step hd];exact h) hL
theorem z6j {k:Nat}:∀ {L:List Ent} {fr:Fr},nmFr k (z19 fr L)=false↔nmFr k fr=false/\∀ e∈L,e.o.dst≠none->nm k e.x=false
  | [],fr=>by simp [z19]
  | e::L,fr=>by
    have ih:=z6j (k:=k) (L:=L) (fr:=putE fr e)
    have h1:z19 fr (e::L)=z19 (putE fr e) L:=rfl
    rw [h1,ih]
    have h2:nmFr k (putE fr e)=false↔nmFr k fr=false/\(e.o.dst≠none->nm k e.x=false):=by
      unfold putE
      cases e.o.dst with
      | none=>simp [Fr.put]
      | some d=>simp [Fr.put,nmFr,and_comm]
    rw [h2]
    simp only [List.forall_mem_cons,and_assoc]
theorem z9a {k:Nat}:∀ {A B:Hp},nmHp k (A++B)=false↔nmHp k A=false/\nmHp k B=false
  | [],B=>by simp [nmHp]
  | (j,o)::A,B=>by
    have ih:=z9a (k:=k) (A:=A) (B:=B)
    match o with
    | some (.box cs)=>simp only [List.cons_append,nmHp,Bool.or_eq_false_iff,ih,and_assoc]
    | some (.row ..)=>simpa only [List.cons_append,nmHp] using ih
    | some (.map _)=>simpa only [List.cons_append,nmHp] using ih
    | none=>simpa only [List.cons_append,nmHp] using ih
theorem z6k {k:Nat}:∀ {L:List Ent} {hp:Hp},nmHp k (z1a hp L)=false↔nmHp k hp=false/\∀ e∈L,nmHp k e.wr=false
  | [],hp=>by simp [z1a]
  | e::L,hp=>by
    have ih:=z6k (k:=k) (L:=L) (hp:=putH hp e)
    have h1:z1a hp (e::L)=z1a (putH hp e) L:=rfl
    rw [h1,ih]
    unfold putH
    rw [z9a]
    simp only [List.forall_mem_cons]
    constructor
    · rintro ⟨⟨a,b⟩,d⟩;exact ⟨b,a,d⟩
    · rintro ⟨b,a,d⟩;exact ⟨⟨a,b⟩,d⟩
def insN (k:Nat) (l:List Nat):List Nat:=match nIn k l with
  | true=>l
  | false=>k::l
def insL:List Nat->List Nat->List Nat
  | [],l=>l
  | k::r,l=>insL r (insN k l)
theorem z99 {j k:Nat} {l:List Nat}:j∈insN k l↔j=k∨j∈l:=by
  unfold insN
  split
  · rename_i h
    have:=z13.1 h
    constructor
    · exact .inr
    · rintro (rfl | h)
      · exact this
      · exact h
  · simp
theorem z98 {j:Nat}:∀ {m l:List Nat},j∈insL m l↔j∈m∨j∈l
  | [],l=>by simp [insL]
  | k::r,l=>by
    simp only [insL,z98,z99,List.mem_cons]
    constructor
    · rintro (h | rfl | h)
      · exact .inl (.inr h)
      · exact .inl (.inl rfl)
      · exact .inr h
    · rintro ((rfl | h) | h)
      · exact .inr (.inl rfl)
      · exact .inl h
      · exact .inr (.inr h)
def nthL:List (List Nat)->Nat->List Nat
  | [],_=>[]
  | x::_,0=>x
  | _::r,n+1=>nthL r n
def za8 (ups:List (List Nat)) (n:Nat):List Edge->List Nat
  | []=>[]
  | e::r=>match Region.binds .any e with
    | true=>insN e.on (insL (nthL ups (n - 1 - e.on)) (za8 ups n r))
    | false=>za8 ups n r
def z7y:List Oper->List (List Nat)->Nat->List (List Nat)
  | [],ups,_=>ups
  | o::r,ups,n=>z7y r (za8 ups n o.after.toList::ups) (n+1)
def z4i (n:Nat):List Edge->Bool
  | []=>true
  | e::r=>match Region.binds .any e with
    | true=>match Nat.blt e.on n with
      | true=>z4i n r
      | false=>false
    | false=>z4i n r
def z2t:List Oper->Nat->Bool
  | [],_=>true
  | o::r,n=>match z4i n o.after.toList with
    | true=>z2t r (n+1)
    | false=>false
def disj:List Nat->List Nat->Bool
  | [],_=>true
  | k::r,m=>match nIn k m with
    | true=>false
    | false=>disj r m
theorem z1o {k:Nat}:∀ {l m:List Nat},disj l m=true->k∈l->k∉m
  | a::r,m,h,hk=>by
    simp only [disj] at h
    split at h
    · cases h
    · rename_i hn
      rcases List.mem_cons.1 hk with rfl | hk
      · exact z0m hn
      · exact z1o h hk
def idsH:Hp->List Nat
  | []=>[]
  | (k,_)::r=>k::idsH r
theorem z2v:∀ l:Hp,idsH l=l.map (·.1)
  | []=>rfl
  | (k,_)::r=>by simp [idsH,z2v r]
def z31 (e:Ent) (k:Nat):Bool:=match nm k e.x with
  | true=>false
  | false=>!nmHp k e.wr
def z2p (ops:Array Oper) (e f:Ent):Bool :=
  disj e.o.dst.toList (seen ops f.o)&&disj f.o.dst.toList (seen ops e.o)&&disj e.o.dst.toList f.o.dst.toList&&disj (idsH e.wr) f.rd&&disj (idsH f.wr) e.rd&&lAll (z31 f) e.nw&&lAll (z31 e) f.nw
def subN:List Nat->List Nat->Bool
  | [],_=>true
  | k::r,m=>match nIn k m with
    | true=>subN r m
    | false=>false
theorem z8u {k:Nat}:∀ {l m:List Nat},subN l m=true->k∈l->k∈m
  | a::r,m,h,hk=>by
    simp only [subN] at h
    split at h
    · rename_i hn
      rcases List.mem_cons.1 hk with rfl | hk
      · exact z13.1 hn
      · exact z8u h hk
    · cases h
def z34 (ops:Array Oper) (e:Ent) (up:List Nat):List Ent->Bool
  | []=>true
  | f::r=>match nIn f.i up with
    | true=>z34 ops e up r
    | false=>match z2p ops f e with
      | true=>z34 ops e up r
      | false=>false
def chkL (ops:Array Oper):List Ent->List (List Nat)->Bool
  | [],_=>true
  | e::r,u::us=>match subN (idsH e.wr) e.rd with
    | true=>match subN e.nw e.rd with
      | true=>match z34 ops e u r with
        | true=>chkL ops r us
        | false=>false
      | false=>false
    | false=>false
  | _::_,[]=>false
def chk (ops:Array Oper) (acc:List Ent):Bool:=match z2t ops.toList 0 with
  | true=>chkL ops acc (z7y ops.toList [] 0)
  | false=>false
end
section
variable {P:Program} {T:TB P} {fr fr':Fr} {hp hp':Hp} {Rl ks:List Nat} {c:Cx} {ops:Array Oper} {Q:Exit->Fr->Heap'->Prop} {nt:Nat}
def Idx:Nat->List Ent->Prop
  | _,[]=>True
  | n,e::r=>e.i=n/\Idx (n+1) r
theorem Idx.lo:∀ {L:List Ent} {n:Nat},Idx n L->∀ e∈L,n<=e.i/\e.i<n+L.length
  | [],_,_,_,hf=>by cases hf
  | e::r,n,h,f,hf=>by
    rcases List.mem_cons.1 hf with rfl | hf
    · have:=h.1;simp only [List.length_cons];omega
    · have:=h.2.lo f hf;simp only [List.length_cons];omega
theorem Idx.split:∀ {L:List Ent} {n:Nat},Idx n L->∀ {e:Ent},e∈L->∃ A B,L=A++e::B/\e.i=n+A.length/\L.filter (fun f=>decide (f.i<e.i))=A/\L.filter (fun f=>decide (f.i<=e.i))=A++[e]
  | [],_,_,_,he=>by cases he
  | f::r,n,h,e,he=>by
    have hr:=h.2.lo
    by_cases heq:e.i=n
    · have:e=f:=by
        rcases List.mem_cons.1 he with rfl | he
        · rfl
        · have:=(hr e he).1;omega
      subst this
      refine ⟨[],r,rfl,by simp [heq],?_,?_⟩
      · rw [List.filter_cons_of_neg sI0]
        exact List.filter_eq_nil_iff.2 fun g hg=>by have:=(hr g hg).1;simp;omega
      · rw [List.filter_cons_of_pos sI0,List.filter_eq_nil_iff.2 fun g hg=>by have:=(hr g hg).1;simp;omega]
        rfl
    · have he':e∈r:=by
        rcases List.mem_cons.1 he with rfl | he
        · exact absurd h.1 heq
        · exact he
      obtain ⟨A,B,h1,h2,h3,h4⟩:=h.2.split he'
      have:=(hr e he').1
      have hf:=h.1
      refine ⟨f::A,B,by rw [h1];rfl,by simp only [List.length_cons];omega,?_,?_⟩
      · rw [List.filter_cons_of_pos (by simp;omega),h3]
      · rw [List.filter_cons_of_pos (by simp;omega),h4];rfl
theorem Idx.inj {L:List Ent} {n:Nat} (h:Idx n L) {e f:Ent} (he:e∈L) (hf:f∈L) (hi:e.i=f.i):e=f:=by
  obtain ⟨A,B,h1,_,h3,h4⟩:=h.split he
  obtain ⟨A',B',h1',_,h3',h4'⟩:=h.split hf
  rw [hi] at h3 h4
  rw [h3'] at h3
  rw [h4',h3] at h4
  simpa using h4.symm
theorem Idx.get:∀ {L:List Ent} {n:Nat},Idx n L->∀ {i:Nat} {o:Oper},(L.map (·.o))[i]? = some o->∃ e∈L,e.i=n+i/\e.o=o
  | [],_,_,_,_,hi=>by simp at hi
  | e::r,n,h,0,o,hi=>⟨e,.head _,h.1,by simpa using hi⟩
  | e::r,n,h,i+1,o,hi=>by
    obtain ⟨f,hf,h1,h2⟩:=h.2.get (i:=i) (o:=o) (by simpa using hi)
    exact ⟨f,.tail _ hf,by omega,h2⟩
def z2o (l:List Oper) (S:Nat->Prop):Prop:=∀ i o,l[i]? = some o->S i->∀ e∈o.after.toList,Region.binds .any e=true->S e.on
theorem z3l {n:Nat}:∀ {l:List Edge},z4i n l=true->∀ e∈l,Region.binds .any e=true->e.on<n
  | [],_,_,he,_=>by cases he
  | a::r,h,e,he,hb=>by
    simp only [z4i] at h
    split at h
    · split at h
      · rename_i h1 h2
        rcases List.mem_cons.1 he with rfl | he
        · exact Nat.le_of_ble_eq_true h2
        · exact z3l h e he hb
      · cases h
    · rename_i h1
      rcases List.mem_cons.1 he with rfl | he
      · rw [hb] at h1;cases h1
      · exact z3l h e he hb
theorem z5p:∀ {l:List Oper} {n:Nat},z2t l n=true->∀ {i:Nat} {o:Oper},l[i]? = some o->∀ e∈o.after.toList,Region.binds .any e=true->e.on<n+i
  | [],_,_,_,_,hi,_,_,_=>by simp at hi
  | a::r,n,h,0,o,hi,e,he,hb=>by
    simp only [z2t] at h
    split at h
    · rename_i h1;simp at hi;subst hi;exact z3l h1 e he hb
    · cases h
  | a::r,n,h,i+1,o,hi,e,he,hb=>by
    simp only [z2t] at h
    split at h
    · have:=z5p h (i:=i) (o:=o) (by simpa using hi) e he hb;omega
    · cases h
theorem z5d {ups:List (List Nat)} {n:Nat} {S:Nat->Prop} {k:Nat} (hS:∀ j,j<n->S j->∀ k∈nthL ups (n - 1 - j),S k):∀ {l:List Edge},z4i n l=true->(∀ e∈l,Region.binds .any e=true->S e.on)->k∈za8 ups n l->S k
  | [],_,_,h=>by cases h
  | a::r,hok,hc,h=>by
    simp only [z4i] at hok
    simp only [za8] at h
    split at hok
    · rename_i hb
      split at hok
      · rename_i hlt
        have hlt':a.on<n:=Nat.le_of_ble_eq_true hlt
        rw [hb] at h
        simp only [z99,z98] at h
        rcases h with rfl | h | h
        · exact hc a (.head _) hb
        · exact hS a.on hlt' (hc a (.head _) hb) k h
        · exact z5d hS hok (fun e he=>hc e (.tail _ he)) h
      · cases hok
    · rename_i hb
      rw [hb] at h
      exact z5d hS hok (fun e he=>hc e (.tail _ he)) h
theorem z7z:∀ {r l0:List Oper} {ups:List (List Nat)} {S:Nat->Prop},z2t r l0.length=true->ups.length=l0.length->z2o (l0++r) S->(∀ j,j<l0.length->S j->∀ k∈nthL ups (l0.length - 1 - j),S k) ->
    ∀ j,j<(l0++r).length->S j->∀ k∈nthL (z7y r ups l0.length) ((l0++r).length - 1 - j),S k
  | [],l0,ups,S,_,_,_,h=>by simpa [z7y] using h
  | o::r,l0,ups,S,hok,hl,hc,h=>by
    simp only [z2t] at hok
    split at hok
    · rename_i h1
      have h2:=z7z (r:=r) (l0:=l0++[o]) (ups:=za8 ups l0.length o.after.toList::ups) (S:=S) (by simpa using hok) (by simp [hl]) (by simpa using hc) (fun j hj hSj k hk=>by
        simp only [List.length_append,List.length_cons,List.length_nil] at hj hk
        by_cases e:j=l0.length
        · subst e
          rw [show l0.length+(0+1) - 1 - l0.length=0 by omega] at hk
          refine z5d h h1 (fun e he hb=>hc l0.length o ?_ hSj e he hb) hk
          simp
        · rw [show l0.length+(0+1) - 1 - j=(l0.length - 1 - j)+1 by omega] at hk
          exact h j oM0 hSj k hk)
      simpa [z7y] using h2
    · cases hok
theorem z2b {e:Ent} {up:List Nat}:∀ {l:List Ent},z34 ops e up l=true->∀ f∈l,f.i∈up∨z2p ops f e=true
  | [],_,_,hf=>by cases hf
  | a::r,h,f,hf=>by
    simp only [z34] at h
    split at h
    · rename_i h1
      rcases List.mem_cons.1 hf with rfl | hf
      · exact .inl (z13.1 h1)
      · exact z2b h f hf
    · split at h
      · rename_i h1
        rcases List.mem_cons.1 hf with rfl | hf
        · exact .inr h1
        · exact z2b h f hf
      · cases h
theorem z68:∀ {acc:List Ent} {ups:List (List Nat)},chkL ops acc ups=true->∀ {A B:List Ent} {e:Ent},acc=B++e::A->subN (idsH e.wr) e.rd=true/\subN e.nw e.rd=true/\∀ f∈A,f.i∈nthL ups B.length∨z2p ops f e=true
  | [],_,_,A,B,e,he=>by cases B<;>simp at he
  | a::r,u::us,h,A,B,e,he=>by
    simp only [chkL] at h
    split at h
    · rename_i h1
      split at h
      · rename_i h2
        split at h
        · rename_i h3
          cases B with
          | nil=>cases he;exact ⟨h1,h2,fun f hf=>z2b h3 f hf⟩
          | cons b B=>cases he;exact z68 h rfl
        · cases h
      · cases h
    · cases h
  | a::r,[],h,_,_,_,_=>by simp [chkL] at h
structure Fine (ops:Array Oper) (L:List Ent):Prop where
  idx:Idx 0 L
  map:L.map (·.o)=ops.toList
  edge:∀ {i:Nat} {o:Oper},ops[i]? = some o->∀ e∈o.after.toList,Region.binds .any e=true->e.on<i
  wr:∀ e∈L,∀ k∈e.wr.map (·.1),k∈e.rd
  nw:∀ e∈L,∀ k∈e.nw,k∈e.rd
  pair:∀ e∈L,∀ f∈L,e.i<f.i->z2p ops e f=true∨∀ S:Nat->Prop,z2o ops.toList S->S f.i->S e.i
theorem fine_of {L:List Ent} (hi:Idx 0 L) (hm:L.map (·.o)=ops.toList) (h:chk ops L.reverse=true):Fine ops L:=by
  unfold chk at h
  split at h
  · rename_i he
    have hlen:L.length=ops.toList.length:=by rw [<- hm,List.length_map]
    have hat:∀ e∈L,∃ A B,L=A++e::B/\A.length=e.i/\L.reverse=B.reverse++e::A.reverse:=fun e hme=>by
      obtain ⟨A,B,h1,h2,_⟩:=hi.split hme
      exact ⟨A,B,h1,by omega,by rw [h1];simp⟩
    refine ⟨hi,hm,fun {i o} ho e hme hb=>?_,fun e hme k hk=>?_,fun e hme k hk=>?_,fun e hme f hmf hlt=>?_⟩
    · have:=z5p he (i:=i) (o:=o) (by simpa using ho) e hme hb;omega
    · obtain ⟨A,B,_,_,h3⟩:=hat e hme
      exact z8u (z68 h h3).1 (by rw [z2v];exact hk)
    · obtain ⟨A,B,_,_,h3⟩:=hat e hme
      exact z8u (z68 h h3).2.1 hk
    · obtain ⟨A,B,h1,h2,h3⟩:=hat f hmf
      have hA:e∈A:=by
        have:=(hi.split hmf)
        obtain ⟨A',B',h1',h2',h3',_⟩:=this
        have hAA:A=A':=by
          have h5:A++f::B=A'++f::B':=h1.symm.trans h1'
          exact (List.append_inj h5 oM0).1
        rw [hAA,<- h3']
        exact List.mem_filter.2 ⟨hme,by simpa using hlt⟩
      rcases (z68 h h3).2.2 e (List.mem_reverse.2 hA) with h4 | h4
      · refine .inr fun S hS hSf=>?_
        have h5:=z7z (r:=ops.toList) (l0:=[]) (ups:=[]) (S:=S) he rfl (by simpa using hS) (fun j hj=>by simp at hj) f.i (by
          have:=(hi.lo f hmf).2;simp only [List.nil_append];omega) hSf e.i
        refine h5 ?_
        have h6:L.length=A.length+(B.length+1):=by rw [h1];simp
        simp only [List.nil_append,List.length_nil]
        rw [show ops.toList.length - 1 - f.i=B.reverse.length by simp only [List.length_reverse];omega]
        exact h4
      · exact .inl h4
  · cases h
section
variable {L:List Ent} {S:Nat->Bool} {fr0:Fr} {hp0:Hp}
def z1v (S:Nat->Bool) (i:Nat):Nat->Bool:=fun j=>S j||j==i
theorem Fine.upto (F:Fine ops L) {e f:Ent} (he:e∈L) (hf:f∈L) (hn:S e.i=false) (hS:z2o ops.toList fun j=>S j=true) (hS1:z2o ops.toList fun j=>z1v S e.i j=true) (hap1:z2p ops f e=false) (hap2:z2p ops e f=false):S f.i=decide (f.i<e.i):=by
  rcases Nat.lt_trichotomy f.i e.i with h | h | h
  · rcases F.pair f hf e he h with h1 | h1
    · rw [h1] at hap1;cases hap1
    · have:=h1 _ hS1 (by simp [z1v])
      simp only [z1v,Bool.or_eq_true,beq_iff_eq] at this
      rcases this with h2 | h2
      · simp [h2,h]
      · omega
  · obtain rfl:=F.idx.inj hf he h
    simp [hn]
  · rcases F.pair e he f hf h with h1 | h1
    · rw [h1] at hap2;cases hap2
    · cases h2:S f.i with
      | false=>simp;omega
      | true=>rw [h1 _ hS h2] at hn;cases hn
theorem z0x {e f:Ent} (h:z2p ops e f=true):(∀ t,e.o.dst=some t->t∉seen ops f.o)/\(∀ t,f.o.dst=some t->t∉seen ops e.o)/\(∀ t,e.o.dst=some t->f.o.dst≠some t)/\(∀ k∈e.wr.map (·.1),k∉f.rd)/\(∀ k∈f.wr.map (·.1),k∉e.rd)/\(∀ k∈e.nw,z31 f k=true)/\∀ k∈f.nw,z31 e k=true:=by
  simp only [z2p,Bool.and_eq_true,z2v] at h
  obtain ⟨⟨⟨⟨⟨⟨h1,h2⟩,h3⟩,h4⟩,h5⟩,h6⟩,h7⟩:=h
  refine ⟨fun t ht=>z1o h1 (by simp [ht]),fun t ht=>z1o h2 (by simp [ht]),fun t ht hf=>z1o h3 (k:=t) (by simp [ht]) (by simp [hf]),fun k hk=>z1o h4 hk,fun k hk=>z1o h5 hk,fun k hk=>z3o h6 k hk,fun k hk=>z3o h7 k hk⟩
theorem Fine.both (F:Fine ops L) {e f:Ent} (he:e∈L) (hf:f∈L) (hn:S e.i=false) (hS:z2o ops.toList fun j=>S j=true) (hS1:z2o ops.toList fun j=>z1v S e.i j=true) (hap:f≠e -> ¬ z2p ops f e=true /\ ¬ z2p ops e f=true):S f.i=decide (f.i<e.i):=by
  by_cases h:f=e
  · subst h;simp [hn]
  · obtain ⟨h1,h2⟩:=hap h
    exact F.upto he hf hn hS hS1 (by simpa using h1) (by simpa using h2)
variable (F:Fine ops L) (hG:∀ {A B:List Ent} {e:Ent},L=A++e::B->Good P ops Rl ks nt e (z19 fr0 A) (z1a hp0 A))
include F hG
theorem Fine.now {e:Ent} (he:e∈L) (hn:S e.i=false) (hS:z2o ops.toList fun j=>S j=true) (hS1:z2o ops.toList fun j=>z1v S e.i j=true) :
    Good P ops Rl ks nt e (z19 fr0 (L.filter fun f=>S f.i)) (z1a hp0 (L.filter fun f=>S f.i)) /\
    (∀ t,(z19 fr0 (L.filter fun f=>z1v S e.i f.i)).get t=(putE (z19 fr0 (L.filter fun f=>S f.i)) e).get t)/\∀ k,look (z1a hp0 (L.filter fun f=>z1v S e.i f.i)) k=look (putH (z1a hp0 (L.filter fun f=>S f.i)) e) k:=by
  obtain ⟨A,B,h1,h2,h3,h4⟩:=F.idx.split he
  have hg:=hG h1
  have hg':=hg
  rw [<- h3] at hg'
  have c1:agr (z19 fr0 (L.filter fun f=>S f.i)) (z19 fr0 (L.filter fun f=>decide (f.i<e.i))) (seen ops e.o):=fun t ht=>z10 rfl fun f hf hd=>F.both he hf hn hS hS1 fun _=>⟨fun h=>(z0x h).1 t hd ht,fun h=>(z0x h).2.1 t hd ht⟩
  have c2:agh (z1a hp0 (L.filter fun f=>S f.i)) (z1a hp0 (L.filter fun f=>decide (f.i<e.i))) e.rd:=fun k hk=>z0u rfl fun f hf hd=>F.both he hf hn hS hS1 fun _=>⟨fun h=>(z0x h).2.2.2.1 k hd hk,fun h=>(z0x h).2.2.2.2.1 k hd hk⟩
  refine ⟨⟨hg.1,?_⟩,fun t=>?_,fun k=>?_⟩
  · have h5:=hg'.2
    split at h5
    · rename_i s hs
      have hrd:e.rd=s.rd:=by simp [Ent.rd,hs]
      have hnw:e.nw=s.nw:=by simp [Ent.nw,hs]
      have hwr:e.wr=s.wr:=by simp [Ent.wr,hs]
      rw [hrd] at c2
      obtain ⟨g1,g2,g3,g4⟩:=h5
      refine ⟨g1.agr fun t ht=>c1 t (List.mem_append_left _ ht),fun c fr2 hp2 hR hc hg hh hf=>g2 c fr2 hp2 hR hc (fun t ht=>(hg t ht).trans (c1 t (List.mem_append_right _ ht))) (fun k hk=>(hh k hk).trans (c2 k hk)) hf,fun k hk=>⟨(g3 k hk).1,?_⟩,?_⟩
      · have hk':k∈e.nw:=hnw ▸ hk
        obtain ⟨f1,f2,f3⟩:=z0s (g3 k hk).2
        rw [z6j] at f1
        rw [z6k] at f2
        have un:∀ f∈L.filter (fun f=>S f.i),(f.i<e.i)∨z31 f k=true:=fun f hf=>by
          obtain ⟨hf,hSf⟩:=List.mem_filter.1 hf
          rcases Nat.lt_trichotomy f.i e.i with h | h | h
          · exact .inl h
          · obtain rfl:=F.idx.inj hf he h;rw [hn] at hSf;cases hSf
          · rcases F.pair e he f hf h with h6 | h6
            · exact .inr ((z0x h6).2.2.2.2.2.1 k hk')
            · rw [h6 _ hS hSf] at hn;cases hn
        have unn:∀ f,z31 f k=true->nm k f.x=false/\nmHp k f.wr=false:=fun f hu=>by
          unfold z31 at hu
          split at hu
          · cases hu
          · rename_i h7;exact ⟨h7,by simpa using hu⟩
        have n1:nmFr k (z19 fr0 (L.filter fun f=>S f.i))=false:=z6j.2 ⟨f1.1,fun f hf hd=>by
          rcases un f hf with h | h
          · exact f1.2 f (List.mem_filter.2 ⟨(List.mem_filter.1 hf).1,by simpa using h⟩) hd
          · exact (unn f h).1⟩
        have n2:nmHp k (z1a hp0 (L.filter fun f=>S f.i))=false:=z6k.2 ⟨f2.1,fun f hf=>by
          rcases un f hf with h | h
          · exact f2.2 f (List.mem_filter.2 ⟨(List.mem_filter.1 hf).1,by simpa using h⟩)
          · exact (unn f h).2⟩
        have n3:=(c2 k (by rw [<- hrd];exact F.nw e he k hk')).trans f3
        simp only [frsh,n1,n2,n3]
      · have key:∀ (l:Hp),(∀ k∈l.map (·.1),k∈s.rd)->wrOk (z1a hp0 (L.filter fun f=>decide (f.i<e.i))) s.nw l=true->wrOk (z1a hp0 (L.filter fun f=>S f.i)) s.nw l=true:=by
          intro l
          induction l with
          | nil=>exact fun _ _=>rfl
          | cons p r ih =>
            intro hl h
            obtain ⟨k,q⟩:=p
            simp only [wrOk] at h ⊢
            rw [c2 k (hl k sI0)]
            have ih':=ih fun k hk=>hl k (by simp only [List.map_cons,List.mem_cons];exact .inr hk)
            split
            · rename_i h8;rw [h8] at h;exact ih' h
            · rename_i h8
              rw [h8] at h
              split
              · rename_i h9;rw [h9] at h;exact ih' h
              · rename_i h9;rw [h9] at h;cases h
        exact key s.wr (fun k hk=>by rw [<- hrd];exact F.wr e he k (by rw [hwr];exact hk)) g4
    · exact h5.agr fun t ht=>c1 t (List.mem_append_left _ ht)
  · by_cases hd:e.o.dst=some t
    · have:(z19 fr0 (L.filter fun f=>z1v S e.i f.i)).get t=(z19 fr0 (L.filter fun f=>decide (f.i<=e.i))).get t:=z10 rfl fun f hf hdf=>by
        by_cases heq:f=e
        · subst heq;simp [z1v]
        · have:=F.both he hf hn hS hS1 fun _=>⟨fun h=>(z0x h).2.2.1 t hdf hd,fun h=>(z0x h).2.2.1 t hd hdf⟩
          have hne:f.i≠e.i:=fun h=>heq (F.idx.inj hf he h)
          simp only [z1v,this]
          by_cases hlt:f.i<e.i
          · simp [hlt,Nat.le_of_lt hlt]
          · have hle:¬ f.i<=e.i:=by omega
            simp [hlt,hne,hle]
      rw [this,h4]
      simp [z19,List.foldl_append,putE,hd,Fr.put,Fr.get]
    · have h6:(putE (z19 fr0 (L.filter fun f=>S f.i)) e).get t=(z19 fr0 (L.filter fun f=>S f.i)).get t:=by
        unfold putE
        cases hq:e.o.dst with
        | none=>rfl
        | some d =>
          have:d≠t:=fun h=>hd (by rw [hq,h])
          simp [Fr.put,Fr.get,z1m this]
      rw [h6]
      refine z10 rfl fun f hf hdf=>?_
      have hne:f.i≠e.i:=fun h=>hd (by rw [<- F.idx.inj hf he h];exact hdf)
      simp [z1v,hne]
  · by_cases hd:k∈e.wr.map (·.1)
    · have hdr:=F.wr e he k hd
      have:look (z1a hp0 (L.filter fun f=>z1v S e.i f.i)) k=look (z1a hp0 (L.filter fun f=>decide (f.i<=e.i))) k:=z0u rfl fun f hf hdf=>by
        by_cases heq:f=e
        · subst heq;simp [z1v]
        · have:=F.both he hf hn hS hS1 fun _=>⟨fun h=>(z0x h).2.2.2.1 k hdf hdr,fun h=>(z0x h).2.2.2.2.1 k hdf hdr⟩
          have hne:f.i≠e.i:=fun h=>heq (F.idx.inj hf he h)
          simp only [z1v,this]
          by_cases hlt:f.i<e.i
          · simp [hlt,Nat.le_of_lt hlt]
          · have hle:¬ f.i<=e.i:=by omega
            simp [hlt,hne,hle]
      rw [this,h4]
      unfold putH
      rw [z0k,if_pos hd]
      simp [z1a,List.foldl_append,putH,z0k,hd]
    · unfold putH
      rw [z0k,if_neg hd]
      refine z0u rfl fun f hf hdf=>?_
      have hne:f.i≠e.i:=fun h=>hd (by rw [<- F.idx.inj hf he h];exact hdf)
      simp [z1v,hne]
end
theorem WA.ext {R1:Nat->Prop} {fuel:Nat} {listed:Array Bool} {fr2:Fr} {σ σ2:Heap'} (h1:∀ t,fr2.get t=fr.get t) (h2:∀ k,σ2 k = σ k) (h:WA P c R1 ops Q fuel listed fr σ):WA P c R1 ops Q fuel listed fr2 σ2:=by
  obtain rfl:σ2 = σ:=funext h2
  exact fun ρ w a S ha hS=>h ρ w a S (ha.weaken fun t x hx=>(h1 t).trans hx) hS
theorem WI.go {R1:Nat->Prop} {fuel:Nat} {listed:Array Bool} {i:Nat} {o:Oper} {x:IV} {σ σ':Heap'} (hi:ops[i]? = some o) (hw:∀ ρ w a,All c ρ σ w fr a->Region.wanted o (yielded ops a.tmps)=true) (hd:z9r o.dst c.n=true) (hR:∀ k,c.R k->R1 k) (hnew:∀ k,σ k=none -> σ' k≠none->c.σ k=none)
    (hok:∀ ρ w,Ok P ⟨c.F,R1,ρ,σ,w,c.n⟩ o fr σ x σ') (h:WA P c R1 ops Q fuel (listed.setIfInBounds i true) (fr.put o.dst x) σ'):WI P c R1 ops Q fuel listed fr σ i:=by
  intro ρ w a S ha hS
  unfold wpOp
  simp only [hi]
  rw [if_pos (hw ρ w a ha)]
  refine .inl (hok ρ w ρ w a _ _ ⟨ha.rel,ha.fr,.refl _ _ _ _ _,ha.df,ha.sz,ha.kept⟩ fun ρ' w' v ha' hv=>?_)
  have hall:All c ρ' σ' w' fr a:=⟨ha'.rel,ha'.fr,ha.tr.trans ha'.tr hR hnew,ha'.df,ha'.sz,ha.kk⟩
  exact ⟨hS w' (SameFor.of ha.rel ha'.tr),h ρ' w' _ S (hall.putU hd hv) fun w'' h''=>hS w'' (SameFor.trans ha.rel ha'.tr h'')⟩
theorem WI.pass {R1:Nat->Prop} {fuel:Nat} {listed:Array Bool} {i:Nat} {o:Oper} {σ:Heap'} (hi:ops[i]? = some o) (hw:∀ ρ w a,All c ρ σ w fr a->Region.wanted o (yielded ops a.tmps)=false) (hd:z9r o.dst c.n=true)
    (h:WA P c R1 ops Q fuel (listed.setIfInBounds i true) (fr.put o.dst (.pv (.val undef))) σ):WI P c R1 ops Q fuel listed fr σ i:=by
  intro ρ w a S ha hS
  unfold wpOp
  simp only [hi]
  rw [if_neg (by simp [hw ρ w a ha])]
  exact ⟨hS w (.refl _ _ _ _),h ρ w _ S (ha.putU hd (z0r undef)) hS⟩
def left (n:Nat) (listed:Array Bool):Nat:=((List.range n).filter fun i=>!listed.getD i true).length
theorem zc9 {p q:Nat->Bool} (h:∀ j,q j=true->p j=true):∀ l:List Nat,(l.filter q).length<=(l.filter p).length
  | []=>Nat.le_refl _
  | a::r=>by
    have ih:=zc9 h r
    simp only [List.filter_cons]
    cases hq:q a with
    | true=>simp only [h a hq,if_true,List.length_cons];omega
    | false=>cases p a<;>simp only [if_true,Bool.false_eq_true,if_false,List.length_cons]<;>omega
theorem zd0 {p q:Nat->Bool} {i:Nat} (h:∀ j,q j=true->p j=true) (hp:p i=true) (hq:q i=false):∀ l:List Nat,i∈l->(l.filter q).length<(l.filter p).length
  | [],hm=>by cases hm
  | a::r,hm=>by
    simp only [List.filter_cons]
    by_cases e:i=a
    · subst e
      have:=zc9 h r
      simp only [hp,hq,if_true,Bool.false_eq_true,if_false,List.length_cons];omega
    · have hr:i∈r:=by
        rcases List.mem_cons.1 hm with h | h
        · exact absurd h e
        · exact h
      have ih:=zd0 h hp hq r hr
      cases hq:q a with
      | true=>simp only [h a hq,if_true,List.length_cons];omega
      | false=>cases p a<;>simp only [if_true,Bool.false_eq_true,if_false,List.length_cons]<;>omega
theorem z95 {n i:Nat} {listed:Array Bool} (hi:i<n) (hs:listed.size=n) (hl:listed.getD i true=false):left n (listed.setIfInBounds i true)<left n listed:=by
  unfold left
  refine zd0 (i:=i) (fun j hj=>?_) (by rw [hl];rfl) ?_ _ (List.mem_range.2 hi)
  · by_cases e:i=j
    · subst e;rw [hl];rfl
    · simpa [Array.getD_eq_getD_getElem?,Array.getElem?_setIfInBounds,e] using hj
  · simp [Array.getD_eq_getD_getElem?,Array.getElem?_setIfInBounds,hs,hi]
theorem z7s {listed:Array Bool} {i:Nat} (hs:listed.size=ops.size) (h:i∈Region.ready .any ops listed):∃ o,ops[i]? = some o/\i<ops.size/\listed.getD i true=false/\listed.getD i false=false/\∀ e∈o.after.toList,Region.binds .any e=true->listed.getD e.on false=true:=by
  obtain ⟨h1,h2⟩:=List.mem_filter.1 h
  have hi:=List.mem_range.1 h1
  simp only [Bool.and_eq_true,Bool.not_eq_true'] at h2
  obtain ⟨h2,h3⟩:=h2
  refine ⟨ops[i],by simp [hi],hi,h2,?_,fun e he hb=>?_⟩
  · simpa [Array.getD_eq_getD_getElem?,hs,hi] using h2
  · have h4:ops[i]? = some ops[i]:=by simp [hi]
    rw [h4] at h3
    simp only [Option.map_some,Option.getD_some,Array.all_eq_true_iff_forall_mem] at h3
    have:=h3 e (by simpa using he)
    simpa [hb] using this
theorem za2 {listed:Array Bool} (hs:listed.size=ops.size) (he:∀ {i:Nat} {o:Oper},ops[i]? = some o->∀ e∈o.after.toList,Region.binds .any e=true->e.on<i) (h:Region.ready .any ops listed=[]):∀ i,i<ops.size->listed.getD i false=true:=by
  intro i
  induction i using Nat.strongRecOn with
  | _ i ih =>
    intro hi
    cases hl:listed.getD i false with
    | true=>rfl
    | false =>
      have:i∈Region.ready .any ops listed:=by
        refine List.mem_filter.2 ⟨List.mem_range.2 hi,?_⟩
        have h1:listed.getD i true=false:=by simpa [Array.getD_eq_getD_getElem?,hs,hi] using hl
        have h2:ops[i]? = some ops[i]:=by simp [hi]
        rw [h1,h2]
        simp only [Bool.not_false,Bool.true_and,Option.map_some,Option.getD_some,Array.all_eq_true_iff_forall_mem]
        intro e hme
        cases hb:Region.binds .any e with
        | false=>rfl
        | true =>
          have hlt:=he h2 e (by simpa using hme) hb
          simpa using ih e.on hlt oM0
      rw [h] at this
      cases this
theorem Fine.orders {L:List Ent} {fr0:Fr} {hp0:Hp} (F:Fine ops L) (hG:∀ {A B:List Ent} {e:Ent},L=A++e::B->Good P ops Rl ks nt e (z19 fr0 A) (z1a hp0 A)) (hn:c.n=nt) (hR:∀ k,c.R k->k∈Rl) (hσ:∀ k,c.σ k≠none->k∈ks)
    (hQ:Q .normal (z19 fr0 L) (look (z1a hp0 L))):∀ (fuel:Nat) (listed:Array Bool),listed.size=ops.size->left ops.size listed<=fuel->z2o ops.toList (fun j=>listed.getD j false=true) ->
      WA P c c.R ops Q fuel listed (z19 fr0 (L.filter fun f=>listed.getD f.i false)) (look (z1a hp0 (L.filter fun f=>listed.getD f.i false))):=by
  subst hn
  have hlen:L.length=ops.size:=by rw [<- List.length_map (f:=(·.o)),F.map];simp
  have hend:∀ {fuel:Nat} {listed:Array Bool},listed.size=ops.size->Region.ready .any ops listed=[]->WA P c c.R ops Q fuel listed (z19 fr0 (L.filter fun f=>listed.getD f.i false)) (look (z1a hp0 (L.filter fun f=>listed.getD f.i false))):=by
    intro fuel listed hs hr
    have hall:=za2 hs F.edge hr
    have:(L.filter fun f=>listed.getD f.i false)=L:=List.filter_eq_self.2 fun f hf=>hall f.i (by have:=(F.idx.lo f hf).2;omega)
    rw [this]
    exact wDn hr hQ
  intro fuel
  induction fuel with
  | zero =>
    intro listed hs hl hc
    refine hend hs ?_
    cases hq:Region.ready .any ops listed with
    | nil=>rfl
    | cons i r =>
      obtain ⟨o,ho,hi,h1,_⟩:=z7s hs (i:=i) (by rw [hq];exact .head _)
      have:=z95 hi hs h1
      omega
  | succ fuel ih =>
    intro listed hs hl hc
    by_cases hr:Region.ready .any ops listed=[]
    · exact hend hs hr
    refine WA.all rfl hr fun i hi=>?_
    obtain ⟨o,ho,hlt,h1,h2,h3⟩:=z7s hs hi
    obtain ⟨e,he,hei,heo⟩:=F.idx.get (i:=i) (o:=o) (by rw [F.map];simpa using ho)
    simp only [Nat.zero_add] at hei
    subst hei
    subst heo
    have hset:∀ j,(listed.setIfInBounds e.i true).getD j false=z1v (fun j=>listed.getD j false) e.i j:=fun j=>by
      by_cases hj:e.i=j
      · subst hj;simp [z1v,Array.getD_eq_getD_getElem?,Array.getElem?_setIfInBounds,hs,hlt]
      · simp [z1v,Array.getD_eq_getD_getElem?,Array.getElem?_setIfInBounds,hj,Ne.symm hj]
    have hc1:z2o ops.toList fun j=>z1v (fun j=>listed.getD j false) e.i j=true:=by
      intro j oj hoj hj ed hed hb
      simp only [z1v,Bool.or_eq_true,beq_iff_eq] at hj ⊢
      rcases hj with hj | rfl
      · exact .inl (hc j oj hoj hj ed hed hb)
      · have:oj=e.o:=by simpa [ho] using hoj.symm
        subst this
        exact .inl (h3 ed hed hb)
    obtain ⟨g,hF,hH⟩:=F.now hG he h2 hc hc1
    have hrest:WA P c c.R ops Q fuel (listed.setIfInBounds e.i true) (putE (z19 fr0 (L.filter fun f=>listed.getD f.i false)) e) (look (putH (z1a hp0 (L.filter fun f=>listed.getD f.i false)) e)):=by
      refine WA.ext (fun t=>(hF t).symm) (fun k=>(hH k).symm) ?_
      have:=ih (listed.setIfInBounds e.i true) (by simpa using hs) (by have:=z95 hlt hs h1;omega) (by simpa only [hset] using hc1)
      simpa only [hset] using this
    obtain ⟨hd,g⟩:=g
    split at g
    · rename_i s hsome
      have hx:e.x=s.x:=by simp [Ent.x,hsome]
      have hw:e.wr=s.wr:=by simp [Ent.wr,hsome]
      have hnw:e.nw=s.nw:=by simp [Ent.nw,hsome]
      obtain ⟨g1,g2,g3,g4⟩:=g
      simp only [putE,putH,hx,hw] at hrest
      refine WI.go ho (fun ρ w a ha=>g1.wanted ha) hd (fun _ h=>h) (fun k hk1 hk2=>?_) (fun ρ w=>g2 _ _ _ hR (fun k hk=>(z0s (g3 k hk).2).2.2) (fun _ _=>rfl) (fun _ _=>rfl) fun k hk=>(g3 k hk).2) hrest
      rw [z0k] at hk2
      split at hk2
      · rename_i hm
        rcases z6w g4 hm with h5 | h5
        · cases h6:c.σ k with
          | none=>rfl
          | some ob=>exact absurd (hσ k (by rw [h6];simp)) (g3 k h5).1
        · exact absurd hk1 h5
      · exact absurd hk1 hk2
    · rename_i hsome
      have hx:e.x = .pv (.val undef):=by simp [Ent.x,hsome]
      have hw:e.wr=[]:=by simp [Ent.wr,hsome]
      simp only [putE,putH,hx,hw,List.nil_append] at hrest
      exact WI.pass ho (fun ρ w a ha=>g.wanted ha) hd hrest
theorem Chain.any {L:List Ent} (h:Chain P ops Rl ks nt fr hp L fr' hp') (hm:P.follows .mixedOrders=true) (hi:Idx 0 L) (hmap:L.map (·.o)=ops.toList) (hc:chk ops L.reverse=true) (hn:c.n=nt) (hR:∀ k,c.R k->k∈Rl) (hσ:∀ k,c.σ k≠none->k∈ks)
    (hQ:∀ fr2,(∀ t,fr2.get t=fr'.get t)->Q .normal fr2 (look hp')) {id:Nat}:Tr P c (.region id ops true) fr (look hp) Q:=by
  have F:=fine_of hi hmap hc
  obtain ⟨h1,h2⟩:=h.fin FrEq.rfl'
  refine tDr hm c.R ?_
  have:=F.orders (c:=c) (Q:=Q) (fr0:=fr) (hp0:=hp) (fun {A B e} he=>h.at FrEq.rfl' he) hn hR hσ (by rw [<- h2];exact hQ _ h1.1) ops.size (Array.replicate ops.size false) sI0 (by
      unfold left
      exact Nat.le_trans (List.length_filter_le _ _) sI0) (fun i o _ hS=>by
        simp [Array.getD_eq_getD_getElem?,Array.getElem?_replicate] at hS
        split at hS<;>simp at hS)
  have he:(L.filter fun f=>(Array.replicate ops.size false).getD f.i false)=[]:=List.filter_eq_nil_iff.2 fun f _=>by
    simp [Array.getD_eq_getD_getElem?,Array.getElem?_replicate]
    split<;>simp
  rw [he] at this
  exact this
end
end Go.Proofs.Ytnpiekoeammkgaa
