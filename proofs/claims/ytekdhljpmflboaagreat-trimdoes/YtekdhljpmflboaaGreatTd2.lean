/- PART 2 of 7 of a proof: see the last part. -/
import Derived.Test.YtekdhljpmflboaaGreatTd1
set_option maxRecDepth 8000
set_option maxHeartbeats 2000000
set_option linter.unusedSimpArgs false
set_option linter.unusedVariables false
set_option linter.unusedSectionVars false
namespace Go.Proofs.YtekdhljpmflboaaGreat
open Go
section
variable {P:Program} {c:Cx} {R1:Nat->Prop} {o:Oper} {fr:Fr} {hp:Hp}
theorem zp9 {t:TypeId} {x:Operand} {k:Nat} {cs:List IV} (ho:o.op = .box t x) (hx:fr.ev x=some (.agg cs)) (hσ:look hp k=none) (hc:c.σ k=none) (hfr:nmFr k fr=false) (hhp:nmHp k hp=false) (hcs:nm.nms k cs=false) :
    Ok P c o fr (look hp) (.ptr k 0) (look ((k,some (.box cs))::hp)):=by
  intro ρ w a K Q h hK
  obtain ⟨vs,u,hv,hl,hvu,hr⟩:=(h.ev hx).inv_agg
  have hrun:(execOp a.eval o).run P w = .ok (.value (.pointer (some ⟨w.heap.size,0,none⟩))) (w.alloc (.cells vs t)):=by
    have hn:(newVar t (.agg vs)).run P w = .ok ⟨w.heap.size,0,none⟩ (w.alloc (.cells vs t)):=rfl
    simp only [execOp,ho,hv,Instr.box,Sem.run_bind,hn,Result.andThen_ok]
    rfl
  unfold Oper.wp
  rw [hrun]
  refine hK (z1q ρ k (some (w.heap.size,1))) _ _ (h.alloc hσ hc hfr hhp 1 _ _ fun keep _=>?_) (.ptr _ _ _ fun cs' _=>⟨w.heap.size,1,z0d,rfl⟩)
  exact .box _ t vs u (z39 w _) (Nat.le_of_eq hl.symm) hvu fun j x hj=>keep _ _ (hr j x hj) (z5e hcs (List.mem_of_getElem? hj))
def firm1 (hp:Hp):IV->Prop
  | .pv (.agg _)=>True
  | .pv p=>p.one=true
  | .agg _=>True
  | .fn ..=>True
  | .sl k len=>∃ s els,look hp k=some (.row s els)/\els.length=len
  | .ptr k _=>∃ cs,look hp k=some (.box cs)
  | .mp k=>∃ es,look hp k=some (.map es)
  | .bs k _=>∃ cs,look hp k=some (.box cs)
  | _=>False
def y5o (hp:Hp):List (Nat × IV)->Prop
  | []=>True
  | (_,x)::r=>firm1 hp x/\y5o hp r
theorem zo2:∀ {xs:List (Nat × IV)},y5o hp xs->z45 (look hp) xs
  | (i,x)::r,h,p,hq,hn=>by
    rcases List.mem_cons.1 hq with rfl | hq
    ·have h1:=h.1
     cases x with
     | pv q=>cases q<;>first | exact h1 | (simp [IV.parts] at hn)
     | agg=>simp [IV.parts] at hn
     | fn=>trivial
     | tup=>exact h1.elim
     | rpt=>exact h1.elim
     | _=>exact h1
    exact zo2 h.2 p hq hn
def keyB:Value->Value->Bool
  | .int _ a,.int _ b=>a==b
  | .string a,.string b=>a.toList==b.toList
  | _,_=>false
def z2d:TypeDesc->Value->Bool
  | .int k,.int k' _=>k'==k
  | .string,.string _=>true
  | _,_=>false
theorem z5w {d:TypeDesc} {v:Value} (h:z2d d v=true):MapKept.IsKey d v:=by
  cases d<;>cases v<;>simp_all [z2d,MapKept.IsKey]
theorem y5v {d:TypeDesc} {a b:Value} (ha:z2d d a=true) (hb:z2d d b=true):keyB a b=true↔a=b:=by
  cases d<;>cases a<;>cases b<;>first
    | (simp_all [z2d,keyB];done)
    | (simp only [keyB,beq_iff_eq,Value.string.injEq]
       exact ⟨fun h=>MapKept.bytes_beq _ _ |>.1 (by rw [beq_toListBytes];simpa using h),fun h=>by rw [h]⟩)
def z4m (k:Value):List (Value × PV)->Option PV
  | []=>none
  | (a,p)::r=>if keyB k a then some p else z4m k r
def mput (k:Value) (v:PV):List (Value × PV)->List (Value × PV)
  | []=>[(k,v)]
  | (a,p)::r=>if keyB k a then (k,v)::r else (a,p)::mput k v r
theorem zl2 {d:TypeDesc} {k:Value} (hk:z2d d k=true):∀ (es:List (Value × PV)) (l:List MapEntry) (i:Nat),l.length=es.length->(∀ e∈es,z2d d e.1=true)->(∀ (j:Nat) (a:Value) (p:PV),es[j]? = some (a,p)->∃ m:MapEntry,l[j]? = some m/\m.key=a) ->
    (Instr.findNow d k l i=some none/\z4m k es=none/\∀ v,mput k v es=es++[(k,v)])∨∃ j m p,Instr.findNow d k l i=some (some (i+j,m.val))/\l[j]? = some m/\m.key=k/\es[j]? = some (k,p)/\z4m k es=some p/\∀ v,mput k v es=es.set j (k,v)
  | [],[],_,_,_,_=>.inl ⟨rfl,rfl,fun _=>rfl⟩
  | (a,p)::es,m::l,i,hl,he,h=>by
    have h0:m.key=a:=by obtain ⟨m',hm',e⟩:=h 0 a p rfl;cases hm';exact e
    have ha:=he (a,p) (.head _)
    obtain ⟨r,hr,hiff⟩:=MapKept.sameNow_of_keys (z5w hk) (z5w ha)
    rw [<- h0] at hr
    cases r with
    | true =>
      have hka:k=a:=hiff.1 rfl
      have hb:keyB k a=true:=(y5v hk ha).2 hka
      exact .inr ⟨0,m,p,by simp [Instr.findNow,hr],rfl,h0.trans hka.symm,by simp [hka],by simp [z4m,hb],fun v=>by simp [mput,hb]⟩
    | false =>
      have hb:keyB k a=false:=by
        cases hb:keyB k a with
        | false=>rfl
        | true=>have:=hiff.2 ((y5v hk ha).1 hb);cases this
      rcases zl2 hk es l (i+1) (by simpa using hl) (fun e h'=>he e (.tail _ h')) (fun j a p hj=>by simpa using h (j+1) a p (by simpa using hj)) with ⟨h1,h2,h3⟩ | ⟨j,m',p',h1,h2,h3,h4,h5,h6⟩
      ·exact .inl ⟨by simp [Instr.findNow,hr,h1],by simp [z4m,hb,h2],fun v=>by simp [mput,hb,h3]⟩
      exact .inr ⟨j+1,m',p',by simp [Instr.findNow,hr,h1];omega,by simpa using h2,h3,by simpa using h4,by simp [z4m,hb,h5],fun v=>by simp [mput,hb,h6]⟩
theorem RepO.inv_map {F:Nat->Prop} {ρ:Loc} {σ:Heap'} {w:World} {b cc:Nat} {es:List (Value × PV)} (h:RepO F ρ σ w b cc (.map es)) :
    ∃ (a:Array MapEntry) (t:Nat) (u:Nat->Value),w.heap[b]? = some (.map a t)/\a.size=es.length/\(∀ i k p,es[i]? = some (k,p)->∃ m:MapEntry,a[i]? = some m/\m.key=k/\m.val=u i)/\∀ i k p,es[i]? = some (k,p)->RepP (owned F ρ) w p (u i):=by
  cases h with
  | map _ a t u h hl hv hr=>exact ⟨a,t,u,h,hl,hv,hr⟩
theorem All.mapAt {ρ:Loc} {w:World} {a:Act} (h:All c ρ (look hp) w fr a) {x:Operand} {k:Nat} {es:List (Value × PV)} (hx:fr.ev x=some (.mp k)) (hk:look hp k=some (.map es)) :
    ∃ (b cc:Nat) (r:Array MapEntry) (t:Nat) (u:Nat->Value),a.eval x = .map (some b) /\ ρ k=some (b,cc)/\w.heap[b]? = some (.map r t)/\r.size=es.length/\(∀ i k p,es[i]? = some (k,p)->∃ m:MapEntry,r[i]? = some m/\m.key=k/\m.val=u i)/\∀ i k p,es[i]? = some (k,p)->RepP (owned c.F ρ) w p (u i):=by
  have hr:=h.ev hx
  generalize hv:a.eval x=v at hr
  cases hr with
  | mp _ _ hh =>
    obtain ⟨b,cc,hρ,rfl⟩:=hh es hk
    obtain ⟨o1,h1,h2⟩:=h.rel.obj k b cc hρ
    rw [hk] at h1;cases h1
    obtain ⟨r,t,u,h3,h4,h5,h6⟩:=h2.inv_map
    exact ⟨b,cc,r,t,u,rfl,hρ,h3,h4,h5,h6⟩
theorem y7m {t:TypeId} {k:Nat} (ho:o.op = .makeMap t none) (hσ:look hp k=none) (hc:c.σ k=none) (hfr:nmFr k fr=false) (hhp:nmHp k hp=false) :
    Ok P c o fr (look hp) (.mp k) (look ((k,some (.map []))::hp)):=by
  intro ρ w a K Q h hK
  have hrun:(execOp a.eval o).run P w = .ok (.value (.map (some w.heap.size))) (w.alloc (.map #[] 0)):=by
    have hn:(newObj (.map #[] 0)).run P w = .ok w.heap.size (w.alloc (.map #[] 0)):=rfl
    simp [execOp,ho,Instr.makeMap,Sem.run_bind,hn]
  unfold Oper.wp
  rw [hrun]
  refine hK (z1q ρ k (some (w.heap.size,1))) _ _ (h.alloc hσ hc hfr hhp 1 _ _ fun keep _=>?_) (.mp _ _ fun es' _=>⟨w.heap.size,1,z0d,rfl⟩)
  exact .map [] #[] 0 (fun _=>undef) (z39 w _) rfl (fun i k p hi=>by simp at hi) fun i k p hi=>by simp at hi
theorem y2c {t kt et:TypeId} {d:TypeDesc} {x y z:Operand} {k:Nat} {es:List (Value × PV)} {kv:Value} {p:PV} (ho:o.op = .mapUpdate t x y z) (hx:fr.ev x=some (.mp k)) (hy:fr.ev y=some (.pv (.val kv))) (hz:fr.ev z=some (.pv p)) (hk:look hp k=some (.map es))
    (hR:¬ c.R k) (hu:P.underlying t=some (.map kt et)) (hd:P.underlying kt=some d) (hkv:z2d d kv=true) (hes:∀ e∈es,z2d d e.1=true):Ok P c o fr (look hp) (.pv (.val undef)) (look ((k,some (.map (mput kv p es)))::hp)):=by
  refine zq2 fun ρ w a h=>?_
  obtain ⟨b,cc,r,ck,u,hv,hρ,h3,h4,h5,h6⟩:=h.mapAt hx hk
  have hzr:RepP (owned c.F ρ) w p (a.eval z):=by
    have:=h.ev hz
    generalize a.eval z=vz at this
    cases this with
    | pv _ _ hp=>exact hp
  have hkey:=MapKept.run_checkKey (w:=w) hd (z5w hkv) false 9999
  have hset:∀ o',(setObj b o').run P w = .ok () { w with heap:=w.heap.setIfInBounds b o' }:=fun o'=>MapKept.run_setObj_map o' h3
  have hb:b<w.heap.size:=(Array.getElem?_eq_some_iff.1 h3).1
  have hsame:∀ v:Value,z2d d v=true->Instr.sameBits 10000 v v=true:=by
    intro v hv
    cases d<;>cases v<;>simp_all [z2d,Instr.sameBits,MapKept.bytes_beq]
  rcases zl2 hkv es r.toList 0 (by simpa using h4) hes (fun j a p hj=>by obtain ⟨m,hm,e,_⟩:=h5 j a p hj;exact ⟨m,by simpa using hm,e⟩) with ⟨h1,h2,h7⟩ | ⟨j,m,q,h1,h2,h3',h4',h5',h7⟩
  ·have hfind:=MapKept.run_findKey (P:=P) (w:=w) (kt:=kt) hd h1
   refine ⟨ρ,{ w with heap:=w.heap.setIfInBounds b (.map (r.push ⟨kv,a.eval z,ck⟩) (ck+1)) },by simp [execOp,ho,hv,z0v h hy,Instr.mapUpdate,Sem.run_bind,run_underlying hu,MapKept.run_getObj_map h3,hkey,hfind,hset],?_⟩
   refine h.write hρ hk trivial hR rfl rfl rfl sI0 (fun j hj=>by simp [Ne.symm hj]) fun keep keepP=>?_
   refine .map _ (r.push ⟨kv,a.eval z,ck⟩) (ck+1) (fun i=>if i=es.length then a.eval z else u i) (by simp [hb]) (by simp [h7,h4]) (fun i k' p' hi=>?_) fun i k' p' hi=>?_
   ·rw [h7] at hi
    by_cases e:i=es.length
    ·subst e
     simp only [List.getElem?_concat_length,Option.some.injEq,Prod.mk.injEq] at hi
     obtain ⟨rfl,rfl⟩:=hi
     exact ⟨⟨kv,a.eval z,ck⟩,by rw [<- h4];simp,rfl,by simp⟩
    have hlt:i<es.length:=by
      have:=(List.getElem?_eq_some_iff.1 hi).1
      simp at this;omega
    rw [List.getElem?_append_left hlt] at hi
    obtain ⟨m,hm,e1,e2⟩:=h5 i k' p' hi
    refine ⟨m,?_,e1,by simp [e,e2]⟩
    rw [Array.getElem?_push,if_neg oM0]
    exact hm
   rw [h7] at hi
   by_cases e:i=es.length
   ·subst e
    simp only [List.getElem?_concat_length,Option.some.injEq,Prod.mk.injEq] at hi
    obtain ⟨rfl,rfl⟩:=hi
    simpa using keepP _ _ hzr
   have hlt:i<es.length:=by
     have:=(List.getElem?_eq_some_iff.1 hi).1
     simp at this;omega
   rw [List.getElem?_append_left hlt] at hi
   simpa [e] using keepP _ _ (h6 i k' p' hi)
  have hfind:=MapKept.run_findKey (P:=P) (w:=w) (kt:=kt) hd h1
  have hj:r[0+j]? = some m:=by simpa using h2
  have hstay:(Instr.keyThatStays kv kv).run P w = .ok kv w:=by simp [Instr.keyThatStays,hsame kv hkv]
  refine ⟨ρ,{ w with heap:=w.heap.setIfInBounds b (.map (r.modify (0+j) fun e=>{ e with key:=kv,val:=a.eval z }) ck) },?_,?_⟩
  ·simp only [execOp,ho,hv,z0v h hy,Instr.mapUpdate,Sem.run_bind,run_underlying hu,MapKept.run_getObj_map h3,hkey,hfind,Result.andThen_ok,hj,Option.map_some,Option.getD_some,h3',hstay,hset]
   rfl
  refine h.write hρ hk trivial hR rfl rfl rfl sI0 (fun j hj=>by simp [Ne.symm hj]) fun keep keepP=>?_
  have hjl:j<es.length:=(List.getElem?_eq_some_iff.1 h4').1
  refine .map _ (r.modify (0+j) fun e=>{ e with key:=kv,val:=a.eval z }) ck (fun i=>if i=j then a.eval z else u i) (by simp [hb]) (by simp [h7,h4]) (fun i k' p' hi=>?_) fun i k' p' hi=>?_
  ·rw [h7] at hi
   by_cases e:i=j
   ·subst e
    rw [List.getElem?_set_self hjl] at hi
    cases hi
    refine ⟨{ m with key:=kv,val:=a.eval z },?_,rfl,by simp⟩
    simp only [Nat.zero_add,Array.getElem?_modify,if_true] at hj ⊢
    rw [hj];rfl
   rw [List.getElem?_set_ne (Ne.symm e)] at hi
   obtain ⟨m',hm',e1,e2⟩:=h5 i k' p' hi
   refine ⟨m',?_,e1,by simp [e,e2]⟩
   simp only [Nat.zero_add,Array.getElem?_modify,if_neg (Ne.symm e)]
   exact hm'
  rw [h7] at hi
  by_cases e:i=j
  ·subst e
   rw [List.getElem?_set_self hjl] at hi
   cases hi
   simpa using keepP _ _ hzr
  rw [List.getElem?_set_ne (Ne.symm e)] at hi
  simpa [e] using keepP _ _ (h6 i k' p' hi)
theorem yd1 {t kt et:TypeId} {d:TypeDesc} {x y z:Operand} {k:Nat} {es:List (Value × PV)} {kv:Value} {p:PV} (ho:o.op = .insert t x y z) (hx:fr.ev x=some (.mp k)) (hy:fr.ev y=some (.pv (.val kv))) (hz:fr.ev z=some (.pv p)) (hk:look hp k=some (.map es))
    (hR:¬ c.R k) (hu:P.underlying t=some (.map kt et)) (hd:P.underlying kt=some d) (hkv:z2d d kv=true) (hes:∀ e∈es,z2d d e.1=true):Ok P c o fr (look hp) (.pv (.val undef)) (look ((k,some (.map (mput kv p es)))::hp)):=by
  refine zq2 fun ρ w a h=>?_
  obtain ⟨b,cc,r,ck,u,hv,hρ,h3,h4,h5,h6⟩:=h.mapAt hx hk
  have hzr:RepP (owned c.F ρ) w p (a.eval z):=by
    have:=h.ev hz
    generalize a.eval z=vz at this
    cases this with
    | pv _ _ hp=>exact hp
  have hkey:=MapKept.run_checkKey (w:=w) hd (z5w hkv) false 9999
  have hset:∀ o',(setObj b o').run P w = .ok () { w with heap:=w.heap.setIfInBounds b o' }:=fun o'=>MapKept.run_setObj_map o' h3
  have hb:b<w.heap.size:=(Array.getElem?_eq_some_iff.1 h3).1
  have hsame:∀ v:Value,z2d d v=true->Instr.sameBits 10000 v v=true:=by
    intro v hv
    cases d<;>cases v<;>simp_all [z2d,Instr.sameBits,MapKept.bytes_beq]
  rcases zl2 hkv es r.toList 0 (by simpa using h4) hes (fun j a p hj=>by obtain ⟨m,hm,e,_⟩:=h5 j a p hj;exact ⟨m,by simpa using hm,e⟩) with ⟨h1,h2,h7⟩ | ⟨j,m,q,h1,h2,h3',h4',h5',h7⟩
  ·have hfind:=MapKept.run_findKey (P:=P) (w:=w) (kt:=kt) hd h1
   refine ⟨ρ,{ w with heap:=w.heap.setIfInBounds b (.map (r.push ⟨kv,a.eval z,ck⟩) (ck+1)) },by simp [execOp,ho,hv,z0v h hy,Instr.mapUpdate,Sem.run_bind,run_underlying hu,MapKept.run_getObj_map h3,hkey,hfind,hset],?_⟩
   refine h.write hρ hk trivial hR rfl rfl rfl sI0 (fun j hj=>by simp [Ne.symm hj]) fun keep keepP=>?_
   refine .map _ (r.push ⟨kv,a.eval z,ck⟩) (ck+1) (fun i=>if i=es.length then a.eval z else u i) (by simp [hb]) (by simp [h7,h4]) (fun i k' p' hi=>?_) fun i k' p' hi=>?_
   ·rw [h7] at hi
    by_cases e:i=es.length
    ·subst e
     simp only [List.getElem?_concat_length,Option.some.injEq,Prod.mk.injEq] at hi
     obtain ⟨rfl,rfl⟩:=hi
     exact ⟨⟨kv,a.eval z,ck⟩,by rw [<- h4];simp,rfl,by simp⟩
    have hlt:i<es.length:=by
      have:=(List.getElem?_eq_some_iff.1 hi).1
      simp at this;omega
    rw [List.getElem?_append_left hlt] at hi
    obtain ⟨m,hm,e1,e2⟩:=h5 i k' p' hi
    refine ⟨m,?_,e1,by simp [e,e2]⟩
    rw [Array.getElem?_push,if_neg oM0]
    exact hm
   rw [h7] at hi
   by_cases e:i=es.length
   ·subst e
    simp only [List.getElem?_concat_length,Option.some.injEq,Prod.mk.injEq] at hi
    obtain ⟨rfl,rfl⟩:=hi
    simpa using keepP _ _ hzr
   have hlt:i<es.length:=by
     have:=(List.getElem?_eq_some_iff.1 hi).1
     simp at this;omega
   rw [List.getElem?_append_left hlt] at hi
   simpa [e] using keepP _ _ (h6 i k' p' hi)
  have hfind:=MapKept.run_findKey (P:=P) (w:=w) (kt:=kt) hd h1
  have hj:r[0+j]? = some m:=by simpa using h2
  have hstay:(Instr.keyThatStays kv kv).run P w = .ok kv w:=by simp [Instr.keyThatStays,hsame kv hkv]
  refine ⟨ρ,{ w with heap:=w.heap.setIfInBounds b (.map (r.modify (0+j) fun e=>{ e with key:=kv,val:=a.eval z }) ck) },?_,?_⟩
  ·simp only [execOp,ho,hv,z0v h hy,Instr.mapUpdate,Sem.run_bind,run_underlying hu,MapKept.run_getObj_map h3,hkey,hfind,Result.andThen_ok,hj,Option.map_some,Option.getD_some,h3',hstay,hset]
   rfl
  refine h.write hρ hk trivial hR rfl rfl rfl sI0 (fun j hj=>by simp [Ne.symm hj]) fun keep keepP=>?_
  have hjl:j<es.length:=(List.getElem?_eq_some_iff.1 h4').1
  refine .map _ (r.modify (0+j) fun e=>{ e with key:=kv,val:=a.eval z }) ck (fun i=>if i=j then a.eval z else u i) (by simp [hb]) (by simp [h7,h4]) (fun i k' p' hi=>?_) fun i k' p' hi=>?_
  ·rw [h7] at hi
   by_cases e:i=j
   ·subst e
    rw [List.getElem?_set_self hjl] at hi
    cases hi
    refine ⟨{ m with key:=kv,val:=a.eval z },?_,rfl,by simp⟩
    simp only [Nat.zero_add,Array.getElem?_modify,if_true] at hj ⊢
    rw [hj];rfl
   rw [List.getElem?_set_ne (Ne.symm e)] at hi
   obtain ⟨m',hm',e1,e2⟩:=h5 i k' p' hi
   refine ⟨m',?_,e1,by simp [e,e2]⟩
   simp only [Nat.zero_add,Array.getElem?_modify,if_neg (Ne.symm e)]
   exact hm'
  rw [h7] at hi
  by_cases e:i=j
  ·subst e
   rw [List.getElem?_set_self hjl] at hi
   cases hi
   simpa using keepP _ _ hzr
  rw [List.getElem?_set_ne (Ne.symm e)] at hi
  simpa [e] using keepP _ _ (h6 i k' p' hi)
theorem zx0 {t kt et:TypeId} {d:TypeDesc} {b ck:Nat} {r:Array MapEntry} {kv z:Value} {es:List (Value × PV)} (commaOk:Bool) (hl:r.size=es.length) (h5:∀ (j:Nat) (a:Value) (p:PV),es[j]? = some (a,p)->∃ m:MapEntry,r[j]? = some m/\m.key=a)
    (hu:P.underlying t=some (.map kt et)) (hd:P.underlying kt=some d) (hkv:z2d d kv=true) (hes:∀ e∈es,z2d d e.1=true) (hzv:((P.info? et).bind (·.zero))=some z) :
    (z4m kv es=none/\∀ w:World,w.heap[b]? = some (.map r ck)->(Instr.lookup t (.map (some b)) kv commaOk).run P w = .ok (if commaOk then .tuple #[z,.bool false] else z) w) ∨
    ∃ (j:Nat) (m:MapEntry) (p:PV),r[j]? = some m/\es[j]? = some (kv,p)/\z4m kv es=some p/\∀ w:World,w.heap[b]? = some (.map r ck)->(Instr.lookup t (.map (some b)) kv commaOk).run P w = .ok (if commaOk then .tuple #[m.val,.bool true] else m.val) w:=by
  have hz:∀ w,(zeroValue et).run P w = .ok z w:=by
    intro w
    cases hq:P.info? et with
    | none=>simp [hq] at hzv
    | some i=>simp [hq] at hzv;simp [zeroValue,typeInfo,hq,hzv]
  rcases zl2 hkv es r.toList 0 (by simpa using hl) hes (fun j a p hj=>by obtain ⟨m,hm,e⟩:=h5 j a p hj;exact ⟨m,by simpa using hm,e⟩) with ⟨h1,h2,h7⟩ | ⟨j,m,q,h1,h2,h3',h4',h5',h7⟩
  ·refine .inl ⟨h2,fun w hb=>?_⟩
   have hkey:=MapKept.run_checkKey (w:=w) hd (z5w hkv) r.isEmpty 9999
   have hfind:=MapKept.run_findKey (P:=P) (w:=w) (kt:=kt) hd h1
   simp only [Instr.lookup,Sem.run_bind,run_underlying hu,MapKept.run_getObj_map hb,Sem.run_pure,hkey,hfind,hz,Result.andThen_ok]
  refine .inr ⟨j,m,q,by simpa using h2,h4',h5',fun w hb=>?_⟩
  have hkey:=MapKept.run_checkKey (w:=w) hd (z5w hkv) r.isEmpty 9999
  have hfind:=MapKept.run_findKey (P:=P) (w:=w) (kt:=kt) hd h1
  simp only [Instr.lookup,Sem.run_bind,run_underlying hu,MapKept.run_getObj_map hb,Sem.run_pure,hkey,hfind,hz,Result.andThen_ok]
theorem yd2 {t kt et:TypeId} {d:TypeDesc} {x y:Operand} {k:Nat} {es:List (Value × PV)} {kv z:Value} (ho:o.op = .lookup t x y false) (hx:fr.ev x=some (.mp k)) (hy:fr.ev y=some (.pv (.val kv))) (hk:look hp k=some (.map es))
    (hu:P.underlying t=some (.map kt et)) (hd:P.underlying kt=some d) (hkv:z2d d kv=true) (hes:∀ e∈es,z2d d e.1=true) (hzv:((P.info? et).bind (·.zero))=some z) (hR:R1 k):OkV P c R1 o fr (look hp) (.pv ((z4m kv es).getD (.val z))):=by
  intro ρ w a h
  obtain ⟨b,cc,r,ck,u,hv,hρ,h3,h4,h5,h6⟩:=h.mapAt hx hk
  have h3':∀ w2,SameFor c.F R1 ρ w w2->w2.heap[b]? = some (.map r ck):=fun w2 h2=>(h2 b (h.rel.lt hρ) (.inr ⟨k,cc,hR,hρ⟩)).trans h3
  rcases zx0 (b:=b) (ck:=ck) false h4 (fun j a p hj=>by obtain ⟨m,h1,h2,_⟩:=h5 j a p hj;exact ⟨m,h1,h2⟩) hu hd hkv hes hzv with ⟨h1,h2⟩ | ⟨j,m,p,h1,h2,h7,h8⟩
  ·refine ⟨z,fun w2 hw2=>?_,by rw [h1];exact z31 _⟩
   simp [execOp,ho,hv,z0v h hy,Sem.run_bind,h2 w2 (h3' w2 hw2)]
  obtain ⟨m',hm',_,e2⟩:=h5 j kv p h2
  rw [h1] at hm';cases hm'
  refine ⟨m.val,fun w2 hw2=>by simp [execOp,ho,hv,z0v h hy,Sem.run_bind,h8 w2 (h3' w2 hw2)],?_⟩
  rw [h7,e2]
  exact .pv _ _ (h6 j kv p h2)
theorem y7l {t kt et:TypeId} {d:TypeDesc} {x y:Operand} {k:Nat} {es:List (Value × PV)} {kv z:Value} (ho:o.op = .lookup t x y true) (hx:fr.ev x=some (.mp k)) (hy:fr.ev y=some (.pv (.val kv))) (hk:look hp k=some (.map es))
    (hu:P.underlying t=some (.map kt et)) (hd:P.underlying kt=some d) (hkv:z2d d kv=true) (hes:∀ e∈es,z2d d e.1=true) (hzv:((P.info? et).bind (·.zero))=some z) (hR:R1 k):OkV P c R1 o fr (look hp) (.tup [.pv ((z4m kv es).getD (.val z)),iBool (z4m kv es).isSome]):=by
  intro ρ w a h
  obtain ⟨b,cc,r,ck,u,hv,hρ,h3,h4,h5,h6⟩:=h.mapAt hx hk
  have h3':∀ w2,SameFor c.F R1 ρ w w2->w2.heap[b]? = some (.map r ck):=fun w2 h2=>(h2 b (h.rel.lt hρ) (.inr ⟨k,cc,hR,hρ⟩)).trans h3
  have two:∀ {p:PV} {v:Value} {g:Bool},RepP (owned c.F ρ) w p v->RepI c.F ρ (look hp) w (.tup [.pv p,iBool g]) (.tuple #[v,.bool g]):=fun {p v g} hp=>.tup _ _ (fun j=>if j=0 then v else .bool g) rfl (fun j x hj=>by
      match j,hj with
      | 0,hj=>rfl
      | 1,hj=>rfl
      | j+2,hj=>simp at hj) fun j x hj=>by
      match j,hj with
      | 0,hj=>cases hj;exact .pv _ _ hp
      | 1,hj=>cases hj;exact z31 _
      | j+2,hj=>simp at hj
  rcases zx0 (b:=b) (ck:=ck) true h4 (fun j a p hj=>by obtain ⟨m,h1,h2,_⟩:=h5 j a p hj;exact ⟨m,h1,h2⟩) hu hd hkv hes hzv with ⟨h1,h2⟩ | ⟨j,m,p,h1,h2,h7,h8⟩
  ·refine ⟨.tuple #[z,.bool false],fun w2 hw2=>?_,by rw [h1];exact two (.val _)⟩
   simp [execOp,ho,hv,z0v h hy,Sem.run_bind,h2 w2 (h3' w2 hw2)]
  obtain ⟨m',hm',_,e2⟩:=h5 j kv p h2
  rw [h1] at hm';cases hm'
  refine ⟨.tuple #[m.val,.bool true],fun w2 hw2=>by simp [execOp,ho,hv,z0v h hy,Sem.run_bind,h8 w2 (h3' w2 hw2)],?_⟩
  rw [h7,e2]
  exact two (h6 j kv p h2)
theorem y7j {t kt et:TypeId} {x:Operand} {k:Nat} {es:List (Value × PV)} (ho:o.op = .call { callee:=.builtin .len,args:=#[x],argTypes:=#[t] }) (hx:fr.ev x=some (.mp k)) (hk:look hp k=some (.map es)) (hu:P.underlying t=some (.map kt et)) (hR:R1 k) :
    OkV P c R1 o fr (look hp) (.pv (vInt es.length)):=by
  intro ρ w a h
  obtain ⟨b,cc,r,ck,u,hv,hρ,h3,h4,h5,h6⟩:=h.mapAt hx hk
  refine ⟨_,fun w2 h2=>?_,z31 _⟩
  have h3':=(h2 b (h.rel.lt hρ) (.inr ⟨k,cc,hR,hρ⟩)).trans h3
  simp [execOp,ho,hv,resolve,Sem.run_bind,invoke,builtin,Builtin.len_,run_underlying hu,goInt,MapKept.run_getObj_map h3',h4]
end
section
variable {P:Program} {c:Cx} {R1:Nat->Prop} {o:Oper} {fr:Fr} {hp:Hp}
theorem y47 {t:TypeId} {x:Operand} {p:PV} {σ:Heap'} (ho:o.op = .box t x) (hx:fr.ev x=some (.pv p)) (h1:p.one=true):Ok P c o fr σ (.pv (.ept [p] 0)) σ:=by
  intro ρ w a K Q h hK
  have hr:=h.ev hx
  have hone:=RepI.one hr (show (IV.pv p).firm σ from h1)
  generalize hv:a.eval x=v at hr hone
  cases hr with
  | pv _ _ hr =>
    have hcells:v.cells = #[v]:=by cases v<;>first | rfl | cases hone
    have hrun:(execOp a.eval o).run P w = .ok (.value (.pointer (some ⟨w.heap.size,0,none⟩))) (w.alloc (.cells #[v] t)):=by
      have hn:(newVar t v).run P w = .ok ⟨w.heap.size,0,none⟩ (w.alloc (.cells v.cells t)):=rfl
      rw [hcells] at hn
      simp only [execOp,ho,hv,Instr.box,Sem.run_bind,hn,Result.andThen_ok]
      rfl
    unfold Oper.wp
    rw [hrun]
    obtain ⟨h3,keep⟩:=h.push (.cells #[v] t)
    refine hK ρ _ _ h3 (.pv _ _ (.ept [p] 0 w.heap.size 0 (fun _=>v) ⟨h.fresh,by simp⟩ (fun j z hj=>?_) fun j z hj=>?_))
    ·have h0:j=0:=by have:=(List.getElem?_eq_some_iff.1 hj).1;simp at this;exact this
     subst h0
     rw [z4q (z39 w _)];rfl
    have h0:j=0:=by have:=(List.getElem?_eq_some_iff.1 hj).1;simp at this;exact this
    subst h0
    simp only [List.getElem?_cons_zero,Option.some.injEq] at hj
    subst hj
    exact keep _ _ hr
theorem zh5 {t:TypeId} {x:Operand} {k:Nat} {z:IV} (ho:o.op = .box t x) (hx:fr.ev x=some z) (hz:z.firm (look hp)) (hσ:look hp k=none) (hc:c.σ k=none) (hfr:nmFr k fr=false) (hhp:nmHp k hp=false) (hcs:nm k z=false) :
    Ok P c o fr (look hp) (.ptr k 0) (look ((k,some (.box [z]))::hp)):=by
  intro ρ w a K Q h hK
  have hr:=h.ev hx
  have hone:=RepI.one hr hz
  generalize hv:a.eval x=v at hr hone
  have hcells:v.cells = #[v]:=by cases v<;>first | rfl | cases hone
  have hrun:(execOp a.eval o).run P w = .ok (.value (.pointer (some ⟨w.heap.size,0,none⟩))) (w.alloc (.cells #[v] t)):=by
    have hn:(newVar t v).run P w = .ok ⟨w.heap.size,0,none⟩ (w.alloc (.cells v.cells t)):=rfl
    rw [hcells] at hn
    simp only [execOp,ho,hv,Instr.box,Sem.run_bind,hn,Result.andThen_ok]
    rfl
  unfold Oper.wp
  rw [hrun]
  refine hK (z1q ρ k (some (w.heap.size,1))) _ _ (h.alloc hσ hc hfr hhp 1 _ _ fun keep _=>?_) (.ptr _ _ _ fun cs' _=>⟨w.heap.size,1,z0d,rfl⟩)
  refine .box _ t #[v] (fun _=>v) (z39 w _) (Nat.le_refl _) (fun j x hj=>?_) fun j x hj=>?_
  ·have h0:j=0:=by have:=(List.getElem?_eq_some_iff.1 hj).1;simp at this;exact this
   subst h0;rfl
  have h0:j=0:=by have:=(List.getElem?_eq_some_iff.1 hj).1;simp at this;exact this
  subst h0
  simp only [List.getElem?_cons_zero,Option.some.injEq] at hj
  subst hj
  exact keep _ _ hr hcs
theorem y5z {l r:Hp} {k:Nat}:look (l++r) k=if k∈l.map (·.1) then look l k else look r k:=by
  induction l with
  | nil=>simp
  | cons a l ih =>
    obtain ⟨j,q⟩:=a
    simp only [List.cons_append,look,ih]
    by_cases e:j=k
    ·subst e;simp
    have:(k∈List.map (fun (x:Nat × Option HO)=>x.1) ((j,q)::l))↔k∈List.map (fun (x:Nat × Option HO)=>x.1) l:=by simp [Ne.symm e]
    simp only [z25 e,cond_false,this]
theorem y22 {l:Hp} {k:Nat} (h:k∉l.map (·.1)):look l k=none:=by
  induction l with
  | nil=>rfl
  | cons a l ih =>
    obtain ⟨j,q⟩:=a
    simp only [List.map_cons,List.mem_cons,not_or] at h
    simp only [look,z25 (Ne.symm h.1),cond_false]
    exact ih h.2
theorem z23 {l r:List (Nat × HO)} (h:l.map (·.1)=r.map (·.1)):look (up l++up r)=look (up l):=by
  have hu:∀ l:List (Nat × HO),(up l).map (·.1)=l.map (·.1):=fun l=>by simp [up]
  funext k
  rw [y5z]
  split
  ·rfl
  rename_i hk
  rw [y22 (by rw [hu,<- h,<- hu];exact hk),y22 hk]
theorem z49 {l r:List (Nat × HO)} (h:l.map (·.1)=r.map (·.1)) (k:Nat) (o:HO) (hk:look (up l) k=some o):look (up l++up r) k=some o:=by
  rw [z23 h];exact hk
theorem zj8 {t e:TypeId} {x y:Operand} {k off n s i:Nat} {m:Int} {cs:List IV} {kk:IntKind} (ho:o.op = .indexAddr t x y) (hx:fr.ev x=some (.ptr k off)) (hy:fr.ev y=some (.pv (.val (.int kk m)))) (hk:look hp k=some (.box cs))
    (hu:P.underlying t=some (.array n e)) (hs:(P.info? e).map (·.size)=some s) (hm:m=i) (hi:i<n):OkV P c R1 o fr (look hp) (.ptr k (off+i*s)):=by
  subst hm
  intro ρ w a h
  obtain ⟨b,cc,e',r,u,hv,hρ,h3,h4,h5,h6⟩:=h.box hx hk
  refine ⟨.pointer (some ⟨b,off+i*s,none⟩),fun w2 _=>?_,.ptr _ _ _ fun cs' _=>⟨b,cc,hρ,rfl⟩⟩
  have hs':=z1p hs w2
  have h0:(0:Int)<=i/\(i:Int)<n:=by omega
  simp [execOp,ho,hv,z0v h hy,Instr.indexAt,Sem.run_bind,asIntOf,run_underlying hu,Instr.sureAddr,h0,hi,hs',Addr.add]
theorem zj6 {t e:TypeId} {n s:Nat} {parts:Array (Nat × Operand)} {xs:List (Nat × IV)} {z:Value} {out:List IV} {σ:Heap'} (ho:o.op = .build t parts) (hx:z3z fr parts.toList=some xs)
    (hz:((P.info? t).bind (·.zero))=some z) (hu:P.underlying t=some (.array n e)) (hs:(P.info? e).map (·.size)=some s) (hf:z56 (fun i=>some (i*s,s)) (z5i z) xs=some out) (hfirm:z45 σ xs):OkV P c R1 o fr σ (.agg out):=by
  intro ρ w a h
  have hzv:∀ w,(zeroValue t).run P w = .ok z w:=fun w=>by
    cases hq:P.info? t with
    | none=>simp [hq] at hz
    | some i=>simp [hq] at hz;simp [zeroValue,typeInfo,hq,hz]
  obtain ⟨hl,hv⟩:=z63 h hx
  obtain ⟨vs,h1,h2⟩:=zd0 (y3h c.F ρ σ w z) hl (fun j i x hj=>by
    obtain ⟨v,h3,h4⟩:=hv j i x hj
    exact ⟨v,h3,h4,hfirm _ (List.mem_of_getElem? hj)⟩) hf
  have hparts:(parts.map fun (i,x)=>(i,a.eval x)).toList=parts.toList.map fun p=>(p.1,a.eval p.2):=by simp
  refine ⟨.agg vs,fun w2 _=>?_,.agg _ _ (fun j=>vs.getD j undef) h2.1 (fun j x hj=>?_) fun j x hj=>?_⟩
  ·have hso:=z1p hs w2
   simp only [execOp,ho,Instr.build,Sem.run_bind,hzv,run_underlying hu,hso,Result.andThen_ok,hparts,h1]
   rfl
  ·obtain ⟨v,h3,_⟩:=h2.2 j x hj
   simp [h3,Array.getD_eq_getD_getElem?]
  obtain ⟨v,h3,h4⟩:=h2.2 j x hj
  simp only [Array.getD_eq_getD_getElem?,h3,Option.getD_some]
  exact h4
end
section
variable {P:Program} {c:Cx} {R1:Nat->Prop} {o:Oper} {fr:Fr} {hp:Hp}
def ResC (P:Program) (fr:Fr) (σ:Heap') (a:Tmp) (t:TypeId) (x:IV):Prop:=∀ (c:Cx) (o:Oper),o.op = .load t (.tmp a)->OkV P c (fun _=>True) o fr σ x
theorem y4h {ρ:Loc} {σ:Heap'} {w:World} {a:Act} {q:Tmp} {t:TypeId} {x:IV} (h:All c ρ σ w fr a) (hr:ResC P fr σ q t x):∃ v ad,(asAddr ((a.tmps[q]?).getD undef)).run P w = .ok ad w/\(loadVar t ad).run P w = .ok v w/\RepI c.F ρ σ w x v:=by
  obtain ⟨v,h1,h2⟩:=hr c { (default:Oper) with op:=.load t (.tmp q) } rfl ρ w a h
  have h3:=h1 w (SameFor.refl _ _ _ _)
  simp only [execOp,Instr.loadAt,Sem.run_bind] at h3
  have hev:a.eval (.tmp q)=(a.tmps[q]?).getD undef:=by simp [Act.eval]
  rw [hev] at h3
  generalize (a.tmps[q]?).getD undef=p at h3 ⊢
  cases p with
  | pointer ad =>
    cases ad with
    | none=>simp [Instr.sureAddr] at h3
    | some ad =>
      refine ⟨v,ad,rfl,?_,h2⟩
      simp only [Instr.sureAddr,Sem.run_bind,Sem.run_pure,Result.andThen_ok] at h3
      generalize (loadVar t ad).run P w=res at h3 ⊢
      cases res with
      | ok v' w'=>simpa [Result.andThen] using h3
      | _=>simp [Result.andThen] at h3
  | _=>simp [Instr.sureAddr] at h3
theorem zu0 {α:Type} {k:Nat} {s:RT} {f:α -> List PV} {l:List α} {x:α} {q:Option HO} {pre:List (Nat × HO)} :
    look ((k,some (.row s (l.map f++[f x])))::(up pre++((k,q)::up pre)))=look ((k,some (.row s ((l++[x]).map f)))::up pre):=by
  funext j
  simp only [look,List.map_append,List.map_cons,List.map_nil]
  by_cases e:k=j
  ·subst e;simp
  simp only [z25 e,cond_false]
  rw [y5z]
  split
  ·rfl
  simp only [look,z25 e,cond_false]
theorem y7h {t:TypeId} {x:Operand} {k:Nat} {ps:List PV} (ho:o.op = .box t x) (hx:fr.ev x=some (.pv (.agg ps))) (hσ:look hp k=none) (hc:c.σ k=none) (hfr:nmFr k fr=false) (hhp:nmHp k hp=false) :
    Ok P c o fr (look hp) (.ptr k 0) (look ((k,some (.box (ps.map .pv)))::hp)):=by
  intro ρ w a K Q h hK
  have hr:=h.ev hx
  generalize hv:a.eval x=v at hr
  cases hr with
  | pv _ _ hr =>
    cases hr with
    | agg _ vs u hl hvu hr =>
      have hrun:(execOp a.eval o).run P w = .ok (.value (.pointer (some ⟨w.heap.size,0,none⟩))) (w.alloc (.cells vs t)):=by
        have hn:(newVar t (.agg vs)).run P w = .ok ⟨w.heap.size,0,none⟩ (w.alloc (.cells vs t)):=rfl
        simp only [execOp,ho,hv,Instr.box,Sem.run_bind,hn,Result.andThen_ok]
        rfl
      unfold Oper.wp
      rw [hrun]
      refine hK (z1q ρ k (some (w.heap.size,1))) _ _ (h.alloc hσ hc hfr hhp 1 _ _ fun keep keepP=>?_) (.ptr _ _ _ fun cs' _=>⟨w.heap.size,1,z0d,rfl⟩)
      refine .box _ t vs u (z39 w _) (by simp [hl]) (fun j x hj=>?_) fun j x hj=>?_
      ·rw [List.getElem?_map] at hj
       obtain ⟨p,hp,rfl⟩:=Option.map_eq_some_iff.1 hj
       exact hvu j p hp
      rw [List.getElem?_map] at hj
      obtain ⟨p,hp,rfl⟩:=Option.map_eq_some_iff.1 hj
      exact .pv _ _ (keepP _ _ (hr j p hp))
theorem ze3 {t:TypeId} {x:Operand} {f:Nat} {ps:List PV} {p:PV} {fs:Array Field} {fd:Field} {d:TypeDesc} {σ:Heap'} (ho:o.op = .field t x f) (hx:fr.ev x=some (.pv (.agg ps)))
    (hu:P.underlying t=some (.struct fs)) (hf:fs[f]? = some fd) (hd:P.underlying fd.type=some d) (hrow:d.isRow=false) (hp:ps[fd.offset]? = some p):OkV P c R1 o fr σ (.pv p):=by
  intro ρ w a h
  have hr:=h.ev hx
  generalize hv:a.eval x=v at hr
  cases hr with
  | pv _ _ hr =>
    cases hr with
    | agg _ vs u hl hvu hr =>
      refine ⟨u fd.offset,fun w2 _=>?_,.pv _ _ (hr _ _ hp)⟩
      simp [execOp,ho,hv,Instr.field,Sem.run_bind,run_underlying hu,hf,part,asAgg,ze5 hd,hrow,hvu _ _ hp]
def retC (P:Program) (a:Tmp) (t:TypeId) (r:IV) (post:List (Nat × HO)):Exit->Fr->Heap'->Prop
  | .ret,fr,σ | .normal,fr,σ=>(∃ x,ResC P fr σ a t x/\∀ F ρ w v,RepI F ρ σ w x v->RepI F ρ σ w r v)/\∀ k o,look (up post) k=some o -> σ k=some o
  | _,_,_=>False
theorem SC.start {f:FuncId} {fn:Func} {code:Code} {args:List IV} {pre post:List (Nat × HO)} {R:Nat->Prop} {r:IV} {Q:Exit->Fr->Heap'->Prop} (hf:P.funcs[f]? = some fn) (hb:fn.body=some code) (hn:args.length<=fn.ntmps)
    (hQ:∀ (c:Cx) (e:Exit) (fr:Fr) (σ:Heap'),Q e fr σ -> (e = .ret∨e = .normal)/\(∀ k o,look (up post) k=some o -> σ k=some o)/\∀ ρ w a,All c ρ σ w fr a->∃ v,(results fn a.tmps).run P w = .ok v w/\RepI c.F ρ σ w r v)
    (h:∀ F ρ w,Tr P ⟨F,R,ρ,look (up pre),w,fn.ntmps⟩ code (frOf 0 args) (look (up pre)) Q):SC P f args pre R r post:=by
  intro F ρ w vs hrel hargs
  refine calls_of_wp hf hb ?_
  have ha:All ⟨F,R,ρ,look (up pre),w,fn.ntmps⟩ ρ (look (up pre)) w (frOf 0 args) { tmps:=vs.toArray++Array.replicate (fn.ntmps - vs.toArray.size) undef,defers:=[] }:=by
    refine ⟨hrel,fun t x hx=>?_,.refl _ _ _ _ _,rfl,?_⟩
    ·obtain ⟨v,hv,hr⟩:=hargs.2 t x (by simpa using (zl3 hx).2)
     refine ⟨v,?_,hr⟩
     rw [Array.getElem?_append_left (by simpa using (List.getElem?_eq_some_iff.1 hv).1)]
     simpa using hv
    have:=hargs.1
    simp;omega
  refine wp_mono (h F ρ w ρ w _ ha) fun e a' w' hq=>?_
  obtain ⟨ρ',σ',fr',ha',hq⟩:=hq
  obtain ⟨he,hσ,hres⟩:=hQ ⟨F,R,ρ,look (up pre),w,fn.ntmps⟩ e fr' σ' hq
  obtain ⟨v,hv,h1⟩:=hres ρ' w' a' ha'
  obtain ⟨ρ'',ha'',keep⟩:=ha'.restrict hσ
  rcases he with rfl | rfl
  ·exact ⟨ha'.df,v,hv,ρ'',v,rfl,keep _ _ h1,ha''.rel,ha''.tr⟩
  exact ⟨ha'.df,v,hv,ρ'',v,rfl,keep _ _ h1,ha''.rel,ha''.tr⟩
theorem SC.ofC {f:FuncId} {fn:Func} {code:Code} {args:List IV} {pre post:List (Nat × HO)} {R:Nat->Prop} {r:IV} {q:Tmp} {t:TypeId} (hf:P.funcs[f]? = some fn) (hb:fn.body=some code) (hn:args.length<=fn.ntmps) (hrs:fn.results = #[.cell q t])
    (h:∀ F ρ w,Tr P ⟨F,R,ρ,look (up pre),w,fn.ntmps⟩ code (frOf 0 args) (look (up pre)) (retC P q t r post)):SC P f args pre R r post:=by
  refine SC.start hf hb hn (fun c e fr σ hq=>?_) h
  have key:(∃ x,ResC P fr σ q t x/\∀ F ρ w v,RepI F ρ σ w x v->RepI F ρ σ w r v)->∀ ρ w a,All c ρ σ w fr a->∃ v,(results fn a.tmps).run P w = .ok v w/\RepI c.F ρ σ w r v:=by
    rintro ⟨x,hx,hs⟩ ρ w a ha
    obtain ⟨v,ad,hv,hv2,h1⟩:=y4h ha hx
    refine ⟨v,?_,hs _ _ _ _ h1⟩
    simp [results,hrs,hv,hv2,Sem.run_bind]
  cases e with
  | ret=>exact ⟨.inl rfl,hq.2,key hq.1⟩
  | normal=>exact ⟨.inr rfl,hq.2,key hq.1⟩
  | _=>exact hq.elim
theorem rCk {q:Tmp} {t:TypeId} {x r:IV} {post:List (Nat × HO)} {σ:Heap'} {e:Exit} (he:e = .ret∨e = .normal) (hx:ResC P fr σ q t x) (hr:x=r) (hσ:∀ k o,look (up post) k=some o -> σ k=some o):retC P q t r post e fr σ:=by
  rcases he with rfl | rfl<;>exact ⟨⟨x,hx,fun _ _ _ _ h=>hr ▸ h⟩,hσ⟩
end
section
variable {P:Program} {c:Cx} {R1:Nat->Prop} {o:Oper} {fr:Fr} {hp:Hp} {σ:Heap'} {Q:Exit->Fr->Heap'->Prop}
theorem RepP.keepIt {own:Nat->Prop} {w w':World} {b0:Nat} {p:PV} {v:Value} (h:RepP own w p v) (hs:w.heap.size<=w'.heap.size) (h0:∀ off sp,w.cell? ⟨b0,off,sp⟩=none)
    (hk:∀ b,b≠b0->w'.heap[b]? = w.heap[b]?):RepP own w' p v:=by
  have key:∀ (b off:Nat) (x:Value),w.cell? ⟨b,off,none⟩=some x->w'.cell? ⟨b,off,none⟩=some x:=by
    intro b off x hx
    by_cases e:b=b0
    ·subst e;rw [h0] at hx;cases hx
    rw [<- hx];exact World.cell?_of_block (a:=⟨b,off,none⟩) (hk b e)
  induction h with
  | val v=>exact .val v
  | seq els a cap b off u ha hb hl hm hc _ ih=>exact .seq els a cap b off u ha (fun hne=>⟨(hb hne).1,Nat.lt_of_lt_of_le (hb hne).2 hs⟩) hl hm (fun i el hi j c hj=>key _ _ _ (hc i el hi j c hj)) ih
  | agg cs vs u hl hv _ ih=>exact .agg cs vs u hl hv ih
  | ept cs off b o u hb hc _ ih=>exact .ept cs off b o u ⟨hb.1,Nat.lt_of_lt_of_le hb.2 hs⟩ (fun j c hj=>key _ _ _ (hc j c hj)) ih
theorem RepI.mapP {F:Nat->Prop} {ρ:Loc} {w w':World} {x:IV} {v:Value} (hk:∀ p v,RepP (owned F ρ) w p v->RepP (owned F ρ) w' p v) (h:RepI F ρ σ w x v):RepI F ρ σ w' x v:=by
  induction h with
  | pv p v h=>exact .pv p v (hk _ _ h)
  | ptr k off v h=>exact .ptr k off v h
  | sl k len v h=>exact .sl k len v h
  | rpt k len off v h=>exact .rpt k len off v h
  | bs k n v h=>exact .bs k n v h
  | mp k v h=>exact .mp k v h
  | agg cs vs u hl hv _ ih=>exact .agg cs vs u hl hv ih
  | tup cs vs u hl hv _ ih=>exact .tup cs vs u hl hv ih
  | fn f xs ys vs ws u t hl hv _ hl' hv' _ ih ih'=>exact .fn f xs ys vs ws u t hl hv ih hl' hv' ih'
theorem RepO.mapP {F:Nat->Prop} {ρ:Loc} {w w':World} {b cc:Nat} {o:HO} (hb:w'.heap[b]? = w.heap[b]?) (hk:∀ p v,RepP (owned F ρ) w p v->RepP (owned F ρ) w' p v) (h:RepO F ρ σ w b cc o):RepO F ρ σ w' b cc o:=by
  cases h with
  | box cs e a u h hl hv hr=>exact .box cs e a u (hb.trans h) hl hv fun j x hj=>(hr j x hj).mapP hk
  | row s els a u h hs hl hm hw hv hr=>exact .row s els a u (hb.trans h) hs hl hm hw hv fun i el hi j x hj=>hk _ _ (hr i el hi j x hj)
  | map es a t u h hl hv hr=>exact .map es a t u (hb.trans h) hl hv fun i k p hi=>hk _ _ (hr i k p hi)
theorem zi9 {w:World} {b0:Nat} {s:ByteArray} {k:Nat} (h:w.heap[b0]? = some (.stringIter s k)):∀ off sp,w.cell? ⟨b0,off,sp⟩=none:=by
  intro off sp
  simp [World.cell?,h]
theorem All.iterSet {ρ:Loc} {w:World} {a:Act} {b0 k k':Nat} {s:ByteArray} (h:All c ρ σ w fr a) (hit:w.heap[b0]? = some (.stringIter s k)) (hge:c.w.heap.size<=b0) (hun:∀ j cc,ρ j≠some (b0,cc)) :
    All c ρ σ { w with heap:=w.heap.setIfInBounds b0 (.stringIter s k') } fr a:=by
  have hlt:b0<w.heap.size:=(Array.getElem?_eq_some_iff.1 hit).1
  have hoth:∀ b,b≠b0->(w.heap.setIfInBounds b0 (Obj.stringIter s k'))[b]? = w.heap[b]?:=fun b hb=>by simp [Ne.symm hb]
  have hP:∀ p v,RepP (owned c.F ρ) w p v->RepP (owned c.F ρ) { w with heap:=w.heap.setIfInBounds b0 (.stringIter s k') } p v:=fun p v hp=>hp.keepIt sI0 (zi9 hit) hoth
  refine ⟨⟨h.rel.inj,h.rel.apart,fun b hb=>by simpa using h.rel.old b hb,fun j b cc hj=>?_,h.rel.real⟩,fun t x hx=>?_,?_,h.df,h.sz⟩
  ·obtain ⟨o,h1,h2⟩:=h.rel.obj j b cc hj
   exact ⟨o,h1,h2.mapP (hoth b fun e=>hun j cc (e ▸ hj)) hP⟩
  ·obtain ⟨v,hv,hr⟩:=h.fr t x hx
   exact ⟨v,hv,hr.mapP hP⟩
  have t:=h.tr
  exact { t with
    size:=by simpa using t.size
    blk:=fun b hb hall=>(hoth b oM0).trans (t.blk b hb hall) }
theorem All.rebase {ρ:Loc} {w:World} {a:Act} (h:All c ρ σ w fr a):All ⟨c.F,c.R,ρ,σ,w,c.n⟩ ρ σ w fr a:=⟨h.rel,h.fr,.refl _ _ _ _ _,h.df,h.sz⟩
theorem All.unbase {ρ ρ':Loc} {σ':Heap'} {w w':World} {fr':Fr} {a a':Act} (h:All c ρ σ w fr a) (h':All ⟨c.F,c.R,ρ,σ,w,c.n⟩ ρ' σ' w' fr' a') (hc:∀ k,σ k=none->c.σ k=none):All c ρ' σ' w' fr' a' :=
  ⟨h'.rel,h'.fr,h.tr.trans h'.tr (fun _ h=>h) (fun k h1 _=>hc k h1),h'.df,h'.sz⟩
abbrev itv (b0:Nat):IV:=.pv (.val (.pointer (some ⟨b0,0,none⟩)))
theorem y70 (s:ByteArray) (i:Nat):1<=(Utf8.decode s i).2:=by
  unfold Utf8.decode
  simp only
  repeat' split
  all_goals simp
def itPos (w:World) (b0:Nat):Nat:=match w.heap[b0]? with
  | some (.stringIter _ k)=>k
  | _=>0
theorem Sub.cons {fr':Fr} {d:Nat} {x:IV} (h:Sub σ fr fr'):Sub σ ((d,x)::fr) ((d,x)::fr'):=by
  intro t y hy
  simp only [Fr.get] at hy ⊢
  cases hb:Nat.beq d t with
  | true=>rw [hb] at hy;cases hy;exact ⟨_,rfl,fun _ _ _ _ h=>h⟩
  | false=>rw [hb] at hy;exact h t y hy
theorem Tr.strRange {id1 i2 bid:Nat} {ops1 ops2:Array Oper} {rest:Code} {m g nx ex:Oper} {d0 d1 e1 e2:Nat} {x0:Operand} {ty:TypeId} {s:ByteArray}
    (h1:ops1.toList=[m,g]) (hmo:m.op = .move x0) (hmd:m.dst=some d0) (hmg:m.guard=none) (hgo:g.op = .range ty (.tmp d0)) (hgd:g.dst=some d1) (hgg:g.guard=none)
    (hx0:fr.ev x0=some (iStr s)) (hty:P.underlying ty=some .string)
    (h2:ops2.toList=[nx,ex]) (hno:nx.op = .next (.tmp d1) true) (hnd:nx.dst=some e1) (hng:nx.guard=none) (heo:ex.op = .extract (.tmp e1) 0) (hed:ex.dst=some e2) (heg:ex.guard=none)
    (hb0:Nat.blt d0 c.n=true) (hb1:Nat.blt d1 c.n=true) (hb2:Nat.blt e1 c.n=true) (hb3:Nat.blt e2 c.n=true)
    (hcσ:∀ k,σ k=none->c.σ k=none)
    (I:Nat->Fr->Prop) (h0:∃ fr0,Sub σ ((d0,iStr s)::fr) fr0/\I 0 fr0)
    (hdone:∀ b0 k fr',s.size<=k->I k fr'->Q .normal ((e2,iBool false)::(e1,.tup [iBool false])::(d1,itv b0)::fr') σ)
    (round:∀ (ρ2:Loc) (w2:World) (b0 k:Nat) (fr':Fr),k<s.size->I k fr' ->
      Tr P ⟨c.F,c.R,ρ2,σ,w2,c.n⟩ rest ((e2,iBool true)::(e1,.tup [iBool true,iInt k,.pv (.val (.int .i32 (Utf8.decode s k).1))])::(d1,itv b0)::fr') σ (fun e fr1 σ1=>match e with
        | .normal=>σ1 = σ /\ ∃ fr'',Sub σ fr1 ((d1,itv b0)::fr'')/\I (k+(Utf8.decode s k).2) fr''
        | .exit _=>False
        | e=>Q e fr1 σ1)) :
    Tr P c (.seq (.region id1 ops1 false) (.block bid (.loop (.seq (.region i2 ops2 false) (.seq (.cond (.tmp e2) .skip (.exit bid)) rest))))) fr σ Q:=by
  obtain ⟨fr0,hs0,hI0⟩:=h0
  intro ρ w a ha
  refine wp_seq (wp_region_list ?_)
  rw [h1]
  refine wpList_plain hmg fun K hK=>?_
  obtain ⟨v1,hr1,hv1⟩:=(y0d (R1:=fun _=>True) hmo hx0) ρ w a ha
  unfold Oper.wp
  rw [hr1 w (.refl _ _ _ _),Oper.upon_value]
  refine hK _ _ ?_
  clear hK K
  have ha2:All c ρ σ w ((d0,iStr s)::fr) (a.put m.dst v1):=by
    have:=ha.put (d:=m.dst) hv1 (by rw [hmd];intro t ht;cases ht;simpa using hb0)
    rwa [hmd] at this ⊢
  generalize a.put m.dst v1=a2 at ha2 ⊢
  refine wpList_plain hgg fun K2 hK2=>?_
  have hevs:a2.eval (.tmp d0) = .string s:=z0v ha2 (show Fr.ev ((d0,iStr s)::fr) (.tmp d0)=_ by simp [Fr.ev,Fr.get])
  have hrun:(execOp a2.eval g).run P w = .ok (.value (.pointer (some ⟨w.heap.size,0,none⟩))) (w.iter s 0):=by
    simp [execOp,hgo,hevs,Sem.run_bind,run_range_string w ty s hty]
  unfold Oper.wp
  rw [hrun,Oper.upon_value]
  refine hK2 _ _ ?_
  obtain ⟨ha3,_⟩:=ha2.push (.stringIter s 0)
  have hfresh:=ha2.fresh
  have ha4:All c ρ σ (w.iter s 0) ((d1,itv w.heap.size)::(d0,iStr s)::fr) (a2.put g.dst (.pointer (some ⟨w.heap.size,0,none⟩))):=by
    have:=ha3.put (d:=g.dst) (z31 (.pointer (some ⟨w.heap.size,0,none⟩))) (by rw [hgd];intro t ht;cases ht;simpa using hb1)
    rwa [hgd] at this ⊢
  have hge:c.w.heap.size<=w.heap.size:=ha2.tr.size
  generalize hb:w.heap.size=b0 at *
  generalize a2.put g.dst (.pointer (some ⟨b0,0,none⟩))=a4 at ha4 ⊢
  show (Code.block _ _).wp P _ a4 (w.iter s 0)
  refine wp_block <| wp_loop (fun a' w'=>∃ k ρ' fr',All c ρ' σ w' ((d1,itv b0)::fr') a'/\I k fr'/\w'.heap[b0]? = some (.stringIter s k)/\∀ j cc,ρ' j≠some (b0,cc)) (fun _ w'=>s.size - itPos w' b0) ⟨0,ρ,fr0,ha4.sub (hs0.cons),hI0,by rw [<- hb];exact World.iter_heap w s 0,fun j cc hj=>hfresh (.inr ⟨j,cc,hj⟩)⟩ ?_
  rintro a5 w5 ⟨k,ρ5,fr',ha5,hI,hit,hun⟩
  refine wp_seq (wp_region_list ?_)
  rw [h2]
  have hevp:a5.eval (.tmp d1) = .pointer (some ⟨b0,0,none⟩):=z0v ha5 (show Fr.ev ((d1,itv b0)::fr') (.tmp d1)=_ by simp [Fr.ev,Fr.get])
  have hpos:itPos w5 b0=k:=by simp [itPos,hit]
  have hlt0:b0<w5.heap.size:=(Array.getElem?_eq_some_iff.1 hit).1
  by_cases hk:k<s.size
  ·have hrun5:(execOp a5.eval nx).run P w5 = .ok (.value (.tuple #[.bool true,.int .i64 k,.int .i32 (Utf8.decode s k).1])) { w5 with heap:=w5.heap.setIfInBounds b0 (.stringIter s (k+(Utf8.decode s k).2)) }:=by
     simp [execOp,hno,hevp,Instr.next,getObj,setObj,Sem.run_bind,Sem.run,hit,hk,goInt,Result.andThen]
   refine wpList_plain hng fun K3 hK3=>?_
   unfold Oper.wp
   rw [hrun5,Oper.upon_value]
   refine hK3 _ _ ?_
   have ha6:=ha5.iterSet (k':=k+(Utf8.decode s k).2) hit (by rw [<- hb] at hge ⊢;exact hge) hun
   have htup:RepI c.F ρ5 σ { w5 with heap:=w5.heap.setIfInBounds b0 (.stringIter s (k+(Utf8.decode s k).2)) } (.tup [iBool true,iInt k,.pv (.val (.int .i32 (Utf8.decode s k).1))]) (.tuple #[.bool true,.int .i64 k,.int .i32 (Utf8.decode s k).1]):=y36 (z31 _) (z31 _) (z31 _)
   have ha7:All c ρ5 σ { w5 with heap:=w5.heap.setIfInBounds b0 (.stringIter s (k+(Utf8.decode s k).2)) } ((e1,.tup [iBool true,iInt k,.pv (.val (.int .i32 (Utf8.decode s k).1))])::(d1,itv b0)::fr') (a5.put nx.dst (.tuple #[.bool true,.int .i64 k,.int .i32 (Utf8.decode s k).1])):=by
     have:=ha6.put (d:=nx.dst) htup (by rw [hnd];intro t ht;cases ht;simpa using hb2)
     rwa [hnd] at this ⊢
   generalize a5.put nx.dst (.tuple #[.bool true,.int .i64 k,.int .i32 (Utf8.decode s k).1])=a7 at ha7 ⊢
   generalize hw7:({ w5 with heap:=w5.heap.setIfInBounds b0 (.stringIter s (k+(Utf8.decode s k).2)) }:World)=w7 at ha7 ⊢
   have hit7:w7.heap[b0]? = some (.stringIter s (k+(Utf8.decode s k).2)):=by rw [<- hw7];simp [hlt0]
   refine wpList_plain heg fun K4 hK4=>?_
   obtain ⟨v8,hr8,hv8⟩:=(z51 (R1:=fun _=>True) (vs:=[iBool true,iInt k,.pv (.val (.int .i32 (Utf8.decode s k).1))]) (z:=iBool true) heo (show Fr.ev ((e1,_)::_) (.tmp e1)=_ by simp [Fr.ev,Fr.get]) rfl) ρ5 w7 a7 ha7
   unfold Oper.wp
   rw [hr8 w7 (.refl _ _ _ _),Oper.upon_value]
   refine hK4 _ _ ?_
   have ha8:All c ρ5 σ w7 ((e2,iBool true)::(e1,.tup [iBool true,iInt k,.pv (.val (.int .i32 (Utf8.decode s k).1))])::(d1,itv b0)::fr') (a7.put ex.dst v8):=by
     have:=ha7.put (d:=ex.dst) hv8 (by rw [hed];intro t ht;cases ht;simpa using hb3)
     rwa [hed] at this ⊢
   generalize a7.put ex.dst v8=a8 at ha8 ⊢
   show (Code.seq _ _).wp P _ a8 w7
   refine wp_seq <| wp_cond (t:=true) (z0v ha8 (show Fr.ev ((e2,iBool true)::_) (.tmp e2)=_ by simp [Fr.ev,Fr.get])) ?_
   rw [if_pos rfl]
   refine wp_skip ?_
   show rest.wp P _ a8 w7
   refine wp_mono (round ρ5 w7 b0 k fr' hk hI ρ5 w7 a8 ha8.rebase) ?_
   rintro e a9 w9 ⟨ρ9,σ9,fr9,ha9,hq⟩
   have hlt7:b0<w7.heap.size:=(Array.getElem?_eq_some_iff.1 hit7).1
   cases e with
   | normal =>
     obtain ⟨rfl,fr2,hsub,hI2⟩:=hq
     have hit9:w9.heap[b0]? = some (.stringIter s (k+(Utf8.decode s k).2)):=(ha9.tr.blk b0 hlt7 fun j cc hj=>absurd hj (hun j cc)).trans hit7
     refine ⟨⟨_,ρ9,fr2,(ha8.unbase ha9 hcσ).sub hsub,hI2,hit9,fun j cc hj=>hun j cc (ha9.tr.own j b0 cc hj hlt7)⟩,?_⟩
     have:=y70 s k
     rw [hpos]
     simp only [itPos,hit9]
     omega
   | exit id=>exact hq.elim
   | _=>exact ⟨ρ9,σ9,fr9,ha8.unbase ha9 hcσ,hq⟩
  have hrun5:(execOp a5.eval nx).run P w5 = .ok (.value (.tuple #[.bool false])) w5:=by
    simp [execOp,hno,hevp,Instr.next,getObj,Sem.run_bind,Sem.run,hit,hk,Result.andThen]
  refine wpList_plain hng fun K3 hK3=>?_
  unfold Oper.wp
  rw [hrun5,Oper.upon_value]
  refine hK3 _ _ ?_
  have htup:RepI c.F ρ5 σ w5 (.tup [iBool false]) (.tuple #[.bool false]):=.tup _ _ (fun _=>.bool false) rfl (fun j x hj=>by
    match j,hj with
    | 0,_=>rfl
    | j+1,hj=>simp at hj) fun j x hj=>by
    match j,hj with
    | 0,hj=>cases hj;exact z31 _
    | j+1,hj=>simp at hj
  have ha7:All c ρ5 σ w5 ((e1,.tup [iBool false])::(d1,itv b0)::fr') (a5.put nx.dst (.tuple #[.bool false])):=by
    have:=ha5.put (d:=nx.dst) htup (by rw [hnd];intro t ht;cases ht;simpa using hb2)
    rwa [hnd] at this ⊢
  generalize a5.put nx.dst (.tuple #[.bool false])=a7 at ha7 ⊢
  refine wpList_plain heg fun K4 hK4=>?_
  obtain ⟨v8,hr8,hv8⟩:=(z51 (R1:=fun _=>True) (vs:=[iBool false]) (z:=iBool false) heo (show Fr.ev ((e1,_)::_) (.tmp e1)=_ by simp [Fr.ev,Fr.get]) rfl) ρ5 w5 a7 ha7
  unfold Oper.wp
  rw [hr8 w5 (.refl _ _ _ _),Oper.upon_value]
  refine hK4 _ _ ?_
  have ha8:All c ρ5 σ w5 ((e2,iBool false)::(e1,.tup [iBool false])::(d1,itv b0)::fr') (a7.put ex.dst v8):=by
    have:=ha7.put (d:=ex.dst) hv8 (by rw [hed];intro t ht;cases ht;simpa using hb3)
    rwa [hed] at this ⊢
  generalize a7.put ex.dst v8=a8 at ha8 ⊢
  show (Code.seq _ _).wp P _ a8 w5
  refine wp_seq <| wp_cond (t:=false) (z0v ha8 (show Fr.ev ((e2,iBool false)::_) (.tmp e2)=_ by simp [Fr.ev,Fr.get])) ?_
  rw [if_neg sI0]
  refine wp_exit ?_
  show (if bid=bid then _ else _)
  rw [if_pos rfl]
  exact ⟨ρ5,σ,_,ha8,hdone b0 k fr' oM0 hI⟩
end
section
variable {P:Program} {c:Cx} {R1:Nat->Prop} {o:Oper} {fr:Fr} {hp:Hp} {σ:Heap'} {Q:Exit->Fr->Heap'->Prop}
open Classical in
theorem SC.step1 {k0:Nat} {f:FuncId} {args:List IV} {pre post:List (Nat × HO)} {R:Nat->Prop} {r:IV} {hp:Hp} {ρ:Loc} {w:World} {a:Act} {vs:List Value} (hsc:SC P f args pre R r post)
    (h:All c ρ (look hp) w fr a) (hargs:RepL c.F ρ (look hp) w args vs) (hpre:∀ k o,look (up pre) k=some o->look hp k=some o) (hdom:post.map (·.1)=k0::pre.map (·.1)) (hσ0:look hp k0=none) (hc0:c.σ k0=none) (hfr0:nmFr k0 fr=false) (hhp0:nmHp k0 hp=false)
    (hR:∀ k,c.R k->look (up pre) k=none∨R k) (hr:only (post.map (·.1)) r=true) (hpost:z2u (post.map (·.1)) post=true) :
    Calls P f vs.toArray w fun e w'=>∃ ρ' v,e = .returned v/\All c ρ' (look (up post++hp)) w' fr a/\RepI c.F ρ' (look (up post++hp)) w' r v:=by
  have hp0:look (up pre) k0=none:=by
    cases h0:look (up pre) k0 with
    | none=>rfl
    | some o=>rw [hpre k0 o h0] at hσ0;cases hσ0
  have hd:∀ k,look (up post) k=none↔look (up pre) k=none/\k≠k0:=fun k=>by
    rw [z1f,z1f,hdom,List.mem_cons,not_or]
    exact And.comm
  have hpp:∀ k,look (up post) k≠none->look hp k≠none->look (up pre) k≠none:=fun k e e1 e2=>by
    by_cases e3:k=k0
    ·subst e3;exact e1 hσ0
    exact e ((hd k).2 ⟨e2,e3⟩)
  let ρ1:Loc:=fun k=>if look (up pre) k=none then none else ρ k
  let F1:Nat->Prop:=fun b=>c.F b∨∃ k cc,ρ k=some (b,cc)/\look (up pre) k=none
  have h1in:∀ k,look (up pre) k≠none -> ρ1 k = ρ k:=fun k hk=>if_neg hk
  have h1out:∀ k,look (up pre) k=none -> ρ1 k=none:=fun k hk=>if_pos hk
  have h1:∀ k l,ρ1 k=some l->look (up pre) k≠none /\ ρ k=some l:=fun k l hk=>by
    by_cases e:look (up pre) k=none
    ·rw [h1out k e] at hk;cases hk
    exact ⟨e,(h1in k e) ▸ hk⟩
  have hown1:∀ b,owned F1 ρ1 b->owned c.F ρ b:=fun b hb=>by
    rcases hb with (hb | ⟨k,cc,hk,_⟩) | ⟨k,cc,hk⟩
    ·exact .inl hb
    ·exact .inr ⟨k,cc,hk⟩
    exact .inr ⟨k,cc,(h1 k _ hk).2⟩
  have hconv:∀ x:IV,¬ Names (fun k=>¬ ∀ o,look (up pre) k=some o->look hp k=some o /\ ρ1 k = ρ k) x:=fun x hx=>by
    obtain ⟨k,hk⟩:=hx.some
    exact hk fun o ho=>⟨hpre k o ho,h1in k (by simp [ho])⟩
  have hrel1:RelH F1 ρ1 (look (up pre)) w:=by
    refine ⟨fun k k' b cc cc' hk hk'=>h.rel.inj k k' b cc cc' (h1 _ _ hk).2 (h1 _ _ hk').2,fun k b cc hk hb=>?_,fun b hb=>?_,fun k b cc hk=>?_,fun k o hk hρ=>?_⟩
    ·rcases hb with hb | ⟨k',cc',hk',hn⟩
     ·exact h.rel.apart k b cc (h1 _ _ hk).2 hb
     obtain rfl:=h.rel.inj _ _ _ _ _ (h1 _ _ hk).2 hk'
     exact (h1 _ _ hk).1 hn
    ·rcases hb with hb | ⟨k',cc',hk',_⟩
     ·exact h.rel.old b hb
     exact h.rel.lt hk'
    ·obtain ⟨hne,hk2⟩:=h1 _ _ hk
     obtain ⟨o1,ho1,ho2⟩:=h.rel.obj k b cc hk2
     cases hl:look (up pre) k with
     | none=>exact absurd hl hne
     | some o2 =>
       rw [hpre k o2 hl] at ho1;cases ho1
       exact ⟨_,rfl,ho2.conv hown1 fun x _=>hconv x⟩
    rw [h1in k (by simp [hk])] at hρ
    exact h.rel.real k o (hpre k o hk) hρ
  refine (hsc F1 ρ1 w vs hrel1 ⟨hargs.1,fun j x hj=>?_⟩).mono ?_
  ·obtain ⟨v,hv,hx⟩:=hargs.2 j x hj
   exact ⟨v,hv,hx.conv hown1 (hconv x)⟩
  rintro e w' ⟨ρ2,v,rfl,hv,hrel2,t⟩
  let ρ':Loc:=fun k=>if look (up post) k=none then ρ k else ρ2 k
  have h2in:∀ k,look (up post) k≠none -> ρ' k = ρ2 k:=fun k hk=>if_neg hk
  have h2out:∀ k,look (up post) k=none -> ρ' k = ρ k:=fun k hk=>if_pos hk
  have h2none:∀ k,look (up post) k=none -> ρ2 k=none:=fun k hk=>by
    cases h3:ρ2 k with
    | none=>rfl
    | some l =>
      obtain ⟨o1,ho1,_⟩:=hrel2.obj k l.1 l.2 h3
      rw [hk] at ho1;cases ho1
  have hσin:∀ k,look (up post) k≠none->look (up post++hp) k=look (up post) k:=fun k hk=>by
    rw [z29]
    cases h3:look (up post) k with
    | none=>exact absurd h3 hk
    | some o=>rfl
  have hσout:∀ k,look (up post) k=none->look (up post++hp) k=look hp k:=fun k hk=>by
    rw [z29,hk];rfl
  have hown2:∀ b,owned c.F ρ' b->owned F1 ρ2 b:=fun b hb=>by
    rcases hb with hb | ⟨k,cc,hk⟩
    ·exact .inl (.inl hb)
    by_cases e:look (up post) k=none
    ·rw [h2out k e] at hk;exact .inl (.inr ⟨k,cc,hk,((hd k).1 e).1⟩)
    rw [h2in k e] at hk;exact .inr ⟨k,cc,hk⟩
  have hconv2:∀ x:IV,only (post.map (·.1)) x=true -> ¬ Names (fun k=>¬ ∀ o,look (up post++hp) k=some o->look (up post) k=some o /\ ρ' k = ρ2 k) x:=fun x hx hn=>by
    refine zh7 hx (hn.imp fun k hk hmem=>hk fun o ho=>?_)
    have hne:look (up post) k≠none:=fun e=>(z1f.1 e) hmem
    rw [hσin k hne] at ho
    exact ⟨ho,h2in k hne⟩
  have T:Trans c.F (fun k=>look (up pre) k=none∨R k) ρ (look hp) w ρ' (look (up post++hp)) w':=by
    refine ⟨t.os,t.tape,t.output,t.size,fun b hb hall=>t.blk b hb fun k cc hk=>?_,fun k b cc hk hb=>?_,fun k cs cs' e1 e2=>?_,fun k cs cs' e1 e2=>?_,fun k s s' els els' e1 e2 hl=>?_,fun k s s' els els' e1 e2=>?_,fun k cs' e2=>?_,fun k cs' e2=>?_,fun k s els' e2=>?_⟩
    ·obtain ⟨hne,hk2⟩:=h1 _ _ hk
     exact (hall k cc hk2).resolve_left hne
    ·by_cases e:look (up post) k=none
     ·rwa [h2out k e] at hk
     rw [h2in k e] at hk;exact (h1 _ _ (t.own k b cc hk hb)).2
    all_goals by_cases e:look (up post) k=none
    ·exact h2out k e
    ·cases h3:look (up pre) k with
     | none=>exact absurd h3 (hpp k e (by simp [e1]))
     | some o =>
       rw [hpre k o h3] at e1;cases e1
       rw [hσin k e] at e2
       rw [h2in k e,t.box k _ _ h3 e2,h1in k (by simp [h3])]
    ·exact h2out k e
    ·cases h3:look (up pre) k with
     | none=>exact absurd h3 (hpp k e (by simp [e1]))
     | some o =>
       rw [hpre k o h3] at e1;cases e1
       rw [hσin k e] at e2
       rw [h2in k e,t.map k _ _ h3 e2,h1in k (by simp [h3])]
    ·exact h2out k e
    ·cases h3:look (up pre) k with
     | none=>exact absurd h3 (hpp k e (by simp [e1]))
     | some o =>
       rw [hpre k o h3] at e1;cases e1
       rw [hσin k e] at e2
       rw [h2in k e,t.row k _ _ _ _ h3 e2 hl,h1in k (by simp [h3])]
    ·rw [hσout k e,e1] at e2;cases e2;exact Nat.le_refl _
    ·cases h3:look (up pre) k with
     | none=>exact absurd h3 (hpp k e (by simp [e1]))
     | some o =>
       rw [hpre k o h3] at e1;cases e1
       rw [hσin k e] at e2
       exact t.grow k _ _ _ _ h3 e2
    ·rw [hσout k e] at e2;exact .inr ⟨_,e2⟩
    ·rw [hσin k e] at e2
     rcases t.kindB k _ e2 with h3 | ⟨cs,h3⟩
     ·by_cases e3:k=k0
      ·subst e3;exact .inl hσ0
      exact absurd ((hd k).2 ⟨h3,e3⟩) e
     exact .inr ⟨cs,hpre k _ h3⟩
    ·rw [hσout k e] at e2;exact .inr ⟨_,e2⟩
    ·rw [hσin k e] at e2
     rcases t.kindM k _ e2 with h3 | ⟨cs,h3⟩
     ·by_cases e3:k=k0
      ·subst e3;exact .inl hσ0
      exact absurd ((hd k).2 ⟨h3,e3⟩) e
     exact .inr ⟨cs,hpre k _ h3⟩
    ·rw [hσout k e] at e2;exact .inr ⟨_,e2⟩
    rw [hσin k e] at e2
    rcases t.kindR k _ _ e2 with h3 | ⟨cs,h3⟩
    ·by_cases e3:k=k0
     ·subst e3;exact .inl hσ0
     exact absurd ((hd k).2 ⟨h3,e3⟩) e
    exact .inr ⟨cs,hpre k _ h3⟩
  have hnone:∀ k,(look hp k=none/\look (up post++hp) k≠none)->k=k0:=fun k hk=>by
    by_cases e:look (up post) k=none
    ·rw [hσout k e] at hk;exact absurd hk.1 hk.2
    refine Classical.byContradiction fun e3=>?_
    have e4:look (up pre) k≠none:=fun h3=>e ((hd k).2 ⟨h3,e3⟩)
    cases h3:look (up pre) k with
    | none=>exact e4 h3
    | some o=>rw [hpre k o h3] at hk;cases hk.1
  have hnn:∀ x:IV,nm k0 x=false -> ¬ Names (fun k=>look hp k=none/\look (up post++hp) k≠none) x:=fun x hx hn=>by
    rw [zl9 (hn.imp hnone)] at hx;cases hx
  refine ⟨ρ',v,rfl,h.step T hR ⟨fun k k' b cc cc' hk hk'=>?_,fun k b cc hk hb=>?_,fun b hb=>Nat.lt_of_lt_of_le (h.rel.old b hb) t.size,fun k b cc hk=>?_,fun k o hk hρ=>?_⟩ (fun k e1 e2=>hnone k ⟨e1,e2⟩ ▸ hc0) fun _ x hx=>hnn x (ze2 hfr0 hx),hv.conv hown2 (hconv2 r hr)⟩
  ·by_cases e:look (up post) k=none<;>by_cases e':look (up post) k'=none
   ·rw [h2out k e] at hk;rw [h2out k' e'] at hk';exact h.rel.inj _ _ _ _ _ hk hk'
   ·rw [h2out k e] at hk;rw [h2in k' e'] at hk'
    exact absurd (.inr ⟨k,cc,hk,((hd k).1 e).1⟩) (hrel2.apart _ _ _ hk')
   ·rw [h2in k e] at hk;rw [h2out k' e'] at hk'
    exact absurd (.inr ⟨k',cc',hk',((hd k').1 e').1⟩) (hrel2.apart _ _ _ hk)
   rw [h2in k e] at hk;rw [h2in k' e'] at hk';exact hrel2.inj _ _ _ _ _ hk hk'
  ·by_cases e:look (up post) k=none
   ·rw [h2out k e] at hk;exact h.rel.apart _ _ _ hk hb
   rw [h2in k e] at hk;exact hrel2.apart _ _ _ hk (.inl hb)
  ·by_cases e:look (up post) k=none
   ·rw [h2out k e] at hk
    obtain ⟨o1,ho1,ho2⟩:=h.rel.obj k b cc hk
    refine ⟨o1,(hσout k e).trans ho1,ho2.keep T (t.blk b (h.rel.lt hk) fun k' cc' hk'=>?_) fun x ⟨cs,h3,h4⟩=>hnn x (by subst h3;exact z5e (z8l hhp0 ho1) h4)⟩
    obtain ⟨hne,hk2⟩:=h1 _ _ hk'
    obtain rfl:=h.rel.inj _ _ _ _ _ hk hk2
    exact absurd ((hd _).1 e).1 hne
   rw [h2in k e] at hk
   obtain ⟨o1,ho1,ho2⟩:=hrel2.obj k b cc hk
   refine ⟨o1,(hσin k e).trans ho1,ho2.conv hown2 fun x ⟨cs,h3,h4⟩=>hconv2 x ?_⟩
   subst h3
   exact z5a (z5z hpost (z16 ho1)) h4
  by_cases e:look (up post) k=none
  ·rw [hσout k e] at hk;rw [h2out k e] at hρ;exact h.rel.real k o hk hρ
  rw [hσin k e] at hk;rw [h2in k e] at hρ;exact hrel2.real k o hk hρ
theorem ok_calln {k0:Nat} {f:FuncId} {os:Array Operand} {tys:Array TypeId} {xs args:List IV} {pre post:List (Nat × HO)} {R:Nat->Prop} {r:IV} {hp:Hp} (hsc:SC P f args pre R r post) (hf:z0f P f)
    (ho:o.op = .call { callee:=.value (.func f),args:=os,argTypes:=tys }) (hx:evs fr os.toList=some xs) (hs:Subs (look hp) xs args) (hpre:∀ k o,look (up pre) k=some o->look hp k=some o) (hdom:post.map (·.1)=k0::pre.map (·.1)) (hσ0:look hp k0=none) (hc0:c.σ k0=none) (hfr0:nmFr k0 fr=false) (hhp0:nmHp k0 hp=false)
    (hR:∀ k,c.R k->look (up pre) k=none∨R k) (hr:only (post.map (·.1)) r=true) (hpost:z2u (post.map (·.1)) post=true):Ok P c o fr (look hp) r (look (up post++hp)):=by
  intro ρ w a K Q h hK
  obtain ⟨fn,hfn,hname,hbody⟩:=hf
  have hargs:=hs _ _ _ _ (z8c h hx)
  have hrun:(execOp a.eval o).run P w = .ok (.enter f (os.toList.map a.eval).toArray) w:=by
    have hcall:(callFunc f (os.toList.map a.eval).toArray).run P w = .ok (.enter f (os.toList.map a.eval).toArray) w:=by
      unfold callFunc
      simp only [Sem.run_bind]
      show (Result.andThen (.ok P w) _)=_
      simp only [Result.andThen_ok,hfn,hname,hbody]
      rfl
    simp only [execOp,ho,resolve,Act.eval,Deferred.ofValue,Sem.run_bind,Sem.run_pure,Result.andThen_ok,invoke]
    rw [<- hcall]
    congr 2
    apply Array.ext'
    simp
  unfold Oper.wp
  rw [hrun,Oper.upon_enter]
  refine (hsc.step1 h hargs hpre hdom hσ0 hc0 hfr0 hhp0 hR hr hpost).mono ?_
  rintro e w' ⟨ρ',v,rfl,h1,h2⟩
  exact hK ρ' w' v h1 h2
theorem y7i {t e:TypeId} {x:Operand} (ho:o.op = .call { callee:=.builtin .cap,args:=#[x],argTypes:=#[t] }) (hx:fr.ev x=some (.pv (.val (.slice none 0 0)))) (hu:P.underlying t=some (.slice e)):OkV P c R1 o fr σ (iInt 0):=by
  intro ρ w a h
  refine ⟨.int .i64 0,fun w2 _=>?_,z31 _⟩
  simp [execOp,ho,z0v h hx,resolve,Sem.run_bind,invoke,builtin,Builtin.cap_,run_underlying hu,goInt]
theorem Sub.cons2 {fr':Fr} {d:Nat} {x y:IV} (hx:∀ F ρ w v,RepI F ρ σ w x v->RepI F ρ σ w y v) (h:Sub σ fr fr'):Sub σ ((d,x)::fr) ((d,y)::fr'):=by
  intro t z hz
  simp only [Fr.get] at hz ⊢
  cases hb:Nat.beq d t with
  | true=>rw [hb] at hz;cases hz;exact ⟨_,rfl,hx⟩
  | false=>rw [hb] at hz;exact h t z hz
theorem Sub.rfl':Sub σ fr fr:=fun _ y hy=>⟨y,hy,fun _ _ _ _ h=>h⟩
theorem All.freezeCell {ρ:Loc} {w:World} {a:Act} {k k2 j n:Nat} {s:RT} {els:List (List PV)} {cs:List IV} (h:All c ρ (look hp) w fr a) (hk:look hp k=some (.row s els)) (hn:els.length=n) (hk2:look hp k2=some (.box cs)) (hj:cs[j]? = some (.sl k n)) (hne:k≠k2) :
    All c (z1q ρ k none) (look ((k2,some (.box (cs.set j (.pv (.seq els)))))::(k,none)::hp)) w fr a:=by
  have h':=h.drop (k:=k)
  have hown:∀ b,owned c.F (z1q ρ k none) b->owned c.F ρ b:=fun b hb=>by
    rcases hb with hb | ⟨i,cc,hi⟩
    ·exact .inl hb
    by_cases e:i=k
    ·subst e;rw [z0d] at hi;cases hi
    rw [z3f (Ne.symm e)] at hi;exact .inr ⟨i,cc,hi⟩
  have hlk:∀ i,i≠k2->look ((k2,some (.box (cs.set j (.pv (.seq els)))))::(k,none)::hp) i=look ((k,none)::hp) i:=fun i hi=>z2n (Ne.symm hi)
  have hlk2:look ((k2,some (.box (cs.set j (.pv (.seq els)))))::(k,none)::hp) k2=some (.box (cs.set j (.pv (.seq els)))):=z35
  have hk2':look ((k,none)::hp) k2=some (.box cs):=y41 hne hk2
  have hnew:∀ v,RepI c.F ρ (look hp) w (.sl k n) v->RepP (owned c.F (z1q ρ k none)) w (.seq els) v:=by
    intro v hv
    cases hv with
    | sl _ _ _ hv =>
      obtain ⟨_,h2⟩:=hv s els hk
      rcases h2 hn with ⟨b,cc,hρ,rfl⟩ | ⟨_,hz,rfl⟩
      ·obtain ⟨o1,h3,h4⟩:=h.rel.obj k b cc hρ
       rw [hk] at h3;cases h3
       cases h4 with
       | row _ _ r u h3 hs hl hm hwe hcells hu =>
         rw [<- hn]
         refine .seq els _ cc b 0 u (fun _=>rfl) (fun _=>⟨fun ho=>?_,h.rel.lt hρ⟩) oM0 hm (fun i el hi q x hq=>?_) fun i el hi q x hq=>(hu i el hi q x hq).own hown
         ·rcases ho with ho | ⟨i,cc',hi⟩
          ·exact h.rel.apart _ _ _ hρ ho
          by_cases e:i=k
          ·subst e;rw [z0d] at hi;cases hi
          rw [z3f (Ne.symm e)] at hi;exact e (h.rel.inj _ _ _ _ _ hi hρ)
         rw [z4q h3,Nat.zero_add,hwe el (List.mem_of_getElem? hi)]
         exact hcells i el hi q x hq
      have hnil:els=[]:=List.eq_nil_of_length_eq_zero oM0
      subst hnil
      exact .seq [] none 0 0 0 (fun _ _=>undef) sI0 sI0 sI0 (by simp [maxLen]) sI0 sI0
  have hconv:∀ x v,RepI c.F (z1q ρ k none) (look ((k,none)::hp)) w x v->RepI c.F (z1q ρ k none) (look ((k2,some (.box (cs.set j (.pv (.seq els)))))::(k,none)::hp)) w x v:=by
    intro x v hx
    induction hx with
    | pv p v hp=>exact .pv p v hp
    | ptr i off v hi =>
      refine .ptr i off v fun cs' h2=>?_
      by_cases e:i=k2
      ·subst e;exact hi _ hk2'
      rw [hlk i e] at h2;exact hi _ h2
    | sl i len v hi =>
      refine .sl i len v fun s' els' h2=>?_
      by_cases e:i=k2
      ·subst e;rw [hlk2] at h2;cases h2
      rw [hlk i e] at h2;exact hi _ _ h2
    | rpt i len off v hi =>
      refine .rpt i len off v fun s' els' h2=>?_
      by_cases e:i=k2
      ·subst e;rw [hlk2] at h2;cases h2
      rw [hlk i e] at h2;exact hi _ _ h2
    | bs i n v hi =>
      refine .bs i n v fun cs' h2=>?_
      by_cases e:i=k2
      ·subst e;exact hi _ hk2'
      rw [hlk i e] at h2;exact hi _ h2
    | mp i v hi =>
      refine .mp i v fun es h2=>?_
      by_cases e:i=k2
      ·subst e;rw [hlk2] at h2;cases h2
      rw [hlk i e] at h2;exact hi _ h2
    | agg cs vs u hl hv _ ih=>exact .agg cs vs u hl hv ih
    | tup cs vs u hl hv _ ih=>exact .tup cs vs u hl hv ih
    | fn f xs ys vs ws u t hl hv _ hl' hv' _ ih ih'=>exact .fn f xs ys vs ws u t hl hv ih hl' hv' ih'
  refine ⟨⟨h'.rel.inj,h'.rel.apart,h'.rel.old,fun i b cc hi=>?_,fun i o h1 h2=>?_⟩,fun t x hx=>?_,?_,h'.df,h'.sz⟩
  ·obtain ⟨o1,h1,h2⟩:=h'.rel.obj i b cc hi
   by_cases e:i=k2
   ·subst e
    rw [hk2'] at h1;cases h1
    refine ⟨_,hlk2,?_⟩
    have hρi:ρ i=some (b,cc):=by rwa [z3f hne] at hi
    obtain ⟨o3,h3,h4⟩:=h.rel.obj i b cc hρi
    rw [hk2] at h3;cases h3
    cases h2 with
    | box _ e' r u h5 hl hv hr =>
      cases h4 with
      | box _ e2 r2 u2 h6 hl2 hv2 hr2 =>
        rw [h5] at h6;cases h6
        refine .box _ e' r u h5 (by simpa using hl) (fun q x hq=>?_) fun q x hq=>?_
        ·by_cases eq:q=j
         ·subst eq
          exact hv q _ hj
         rw [List.getElem?_set_ne (Ne.symm eq)] at hq;exact hv q x hq
        by_cases eq:q=j
        ·subst eq
         have hlt:q<cs.length:=(List.getElem?_eq_some_iff.1 hj).1
         rw [List.getElem?_set_self hlt] at hq;cases hq
         have e3:u q=u2 q:=by
           have a1:=hv q _ hj;have a2:=hv2 q _ hj
           rw [a1] at a2;exact Option.some.inj a2
         rw [e3]
         exact .pv _ _ (hnew _ (hr2 q _ hj))
        rw [List.getElem?_set_ne (Ne.symm eq)] at hq;exact hconv _ _ (hr q x hq)
   refine ⟨o1,(hlk i e).trans h1,?_⟩
   cases h2 with
   | box cs' e' r u h hl hv hr=>exact .box cs' e' r u h hl hv fun q x hq=>hconv _ _ (hr q x hq)
   | row s' els' r u h hs hl hm hw hv hr=>exact .row s' els' r u h hs hl hm hw hv hr
   | map es r t u h hl hv hr=>exact .map es r t u h hl hv hr
  ·by_cases e:i=k2
   ·subst e
    rw [z3f hne] at h2
    obtain ⟨s',h3⟩:=h.rel.real i _ hk2 h2
    cases h3
   rw [hlk i e] at h1;exact h'.rel.real i o h1 h2
  ·obtain ⟨v,hv,hr⟩:=h'.fr t x hx
   exact ⟨v,hv,hconv _ _ hr⟩
  have t:=h'.tr
  refine ⟨t.os,t.tape,t.output,t.size,t.blk,t.own,fun i a1 a2 e1 e2=>?_,fun i a1 a2 e1 e2=>?_,fun i s1 s2 a1 a2 e1 e2 hl=>?_,fun i s1 s2 a1 a2 e1 e2=>?_,fun i a2 e2=>?_,fun i a2 e2=>?_,fun i s1 a2 e2=>?_⟩
  all_goals by_cases e:i=k2
  ·subst e;exact t.box i _ _ e1 hk2'
  ·rw [hlk i e] at e2;exact t.box i _ _ e1 e2
  ·subst e;rw [hlk2] at e2;cases e2
  ·rw [hlk i e] at e2;exact t.map i _ _ e1 e2
  ·subst e;rw [hlk2] at e2;cases e2
  ·rw [hlk i e] at e2;exact t.row i _ _ _ _ e1 e2 hl
  ·subst e;rw [hlk2] at e2;cases e2
  ·rw [hlk i e] at e2;exact t.grow i _ _ _ _ e1 e2
  ·subst e;exact t.kindB i _ hk2'
  ·rw [hlk i e] at e2;exact t.kindB i _ e2
  ·subst e;rw [hlk2] at e2;cases e2
  ·rw [hlk i e] at e2;exact t.kindM i _ e2
  ·subst e;rw [hlk2] at e2;cases e2
  rw [hlk i e] at e2;exact t.kindR i _ _ e2
theorem Tr.freezeCell {x:Code} {k k2 j n:Nat} {s:RT} {els:List (List PV)} {cs:List IV} (hk:look hp k=some (.row s els)) (hn:els.length=n) (hk2:look hp k2=some (.box cs)) (hj:cs[j]? = some (.sl k n)) (hne:k≠k2)
    (h:Tr P c x fr (look ((k2,some (.box (cs.set j (.pv (.seq els)))))::(k,none)::hp)) Q):Tr P c x fr (look hp) Q:=fun _ w a ha=>h _ w a (ha.freezeCell hk hn hk2 hj hne)
theorem SC.sameR {f:FuncId} {args:List IV} {pre post:List (Nat × HO)} {R R':Nat->Prop} {r:IV} (h:SC P f args pre R r post) (hR:∀ k,look (up pre) k≠none->R' k->R k):SC P f args pre R' r post:=by
  intro F ρ w vs hrel hargs
  refine (h F ρ w vs hrel hargs).mono ?_
  rintro e w' ⟨ρ',v,he,hv,hrel',t⟩
  refine ⟨ρ',v,he,hv,hrel',{ t with blk:=fun b hb hall=>t.blk b hb fun k cc hk=>hR k ?_ (hall k cc hk) }⟩
  obtain ⟨o,ho,_⟩:=hrel.obj k b cc hk
  rw [ho];simp
theorem Tr.growCell {x:Code} {k k2 j:Nat} {cs:List IV} (s:RT) (hk2:look hp k2=some (.box cs)) (hj:cs[j]? = some (.pv (.val (.slice none 0 0)))) (hσ:look hp k=none) (hc:c.σ k=none) (hfr:nmFr k fr=false) (hhp:nmHp k hp=false)
    (h:Tr P c x fr (look ((k2,some (.box (cs.set j (.sl k 0))))::(k,some (.row s []))::hp)) Q):Tr P c x fr (look hp) Q:=by
  intro ρ w a ha
  obtain ⟨hk,h'⟩:=ha.ghost hσ hc hfr hhp s
  refine h ρ w a ?_
  have hne:k≠k2:=fun e=>by subst e;rw [hσ] at hk2;cases hk2
  have hk2':look ((k,some (.row s []))::hp) k2=some (.box cs):=y41 hne hk2
  have hlk:∀ i,i≠k2->look ((k2,some (.box (cs.set j (.sl k 0))))::(k,some (.row s []))::hp) i=look ((k,some (.row s []))::hp) i:=fun i hi=>z2n (Ne.symm hi)
  have hlk2:look ((k2,some (.box (cs.set j (.sl k 0))))::(k,some (.row s []))::hp) k2=some (.box (cs.set j (.sl k 0))):=z35
  have hconv:∀ x v,RepI c.F ρ (look ((k,some (.row s []))::hp)) w x v->RepI c.F ρ (look ((k2,some (.box (cs.set j (.sl k 0))))::(k,some (.row s []))::hp)) w x v:=by
    intro x v hx
    induction hx with
    | pv p v hp=>exact .pv p v hp
    | ptr i off v hi =>
      refine .ptr i off v fun cs' h2=>?_
      by_cases e:i=k2
      ·subst e;exact hi _ hk2'
      rw [hlk i e] at h2;exact hi _ h2
    | sl i len v hi =>
      refine .sl i len v fun s' els' h2=>?_
      by_cases e:i=k2
      ·subst e;rw [hlk2] at h2;cases h2
      rw [hlk i e] at h2;exact hi _ _ h2
    | rpt i len off v hi =>
      refine .rpt i len off v fun s' els' h2=>?_
      by_cases e:i=k2
      ·subst e;rw [hlk2] at h2;cases h2
      rw [hlk i e] at h2;exact hi _ _ h2
    | bs i n v hi =>
      refine .bs i n v fun cs' h2=>?_
      by_cases e:i=k2
      ·subst e;exact hi _ hk2'
      rw [hlk i e] at h2;exact hi _ h2
    | mp i v hi =>
      refine .mp i v fun es h2=>?_
      by_cases e:i=k2
      ·subst e;rw [hlk2] at h2;cases h2
      rw [hlk i e] at h2;exact hi _ h2
    | agg cs vs u hl hv _ ih=>exact .agg cs vs u hl hv ih
    | tup cs vs u hl hv _ ih=>exact .tup cs vs u hl hv ih
    | fn f xs ys vs ws u t hl hv _ hl' hv' _ ih ih'=>exact .fn f xs ys vs ws u t hl hv ih hl' hv' ih'
  refine ⟨⟨h'.rel.inj,h'.rel.apart,h'.rel.old,fun i b cc hi=>?_,fun i o h1 h2=>?_⟩,fun t x hx=>?_,?_,h'.df,h'.sz⟩
  ·obtain ⟨o1,h1,h2⟩:=h'.rel.obj i b cc hi
   by_cases e:i=k2
   ·subst e
    rw [hk2'] at h1;cases h1
    refine ⟨_,hlk2,?_⟩
    cases h2 with
    | box _ e' r u h5 hl hv hr =>
      refine .box _ e' r u h5 (by simpa using hl) (fun q x hq=>?_) fun q x hq=>?_
      ·by_cases eq:q=j
       ·subst eq;exact hv q _ hj
       rw [List.getElem?_set_ne (Ne.symm eq)] at hq;exact hv q x hq
      by_cases eq:q=j
      ·subst eq
       have hlt:q<cs.length:=(List.getElem?_eq_some_iff.1 hj).1
       rw [List.getElem?_set_self hlt] at hq;cases hq
       have hnil:=(hr q _ hj).val
       rw [hnil]
       refine .sl _ _ _ fun s1 els1 h1=>?_
       rw [hlk _ hne,z35] at h1
       cases h1
       exact ⟨Nat.zero_le _,fun _=>.inr ⟨hk,rfl,rfl⟩⟩
      rw [List.getElem?_set_ne (Ne.symm eq)] at hq;exact hconv _ _ (hr q x hq)
   refine ⟨o1,(hlk i e).trans h1,?_⟩
   cases h2 with
   | box cs' e' r u h hl hv hr=>exact .box cs' e' r u h hl hv fun q x hq=>hconv _ _ (hr q x hq)
   | row s' els' r u h hs hl hm hw hv hr=>exact .row s' els' r u h hs hl hm hw hv hr
   | map es r t u h hl hv hr=>exact .map es r t u h hl hv hr
  ·by_cases e:i=k2
   ·subst e
    obtain ⟨s',h3⟩:=h'.rel.real i _ hk2' h2
    cases h3
   rw [hlk i e] at h1;exact h'.rel.real i o h1 h2
  ·obtain ⟨v,hv,hr⟩:=h'.fr t x hx
   exact ⟨v,hv,hconv _ _ hr⟩
  have t:=h'.tr
  refine ⟨t.os,t.tape,t.output,t.size,t.blk,t.own,fun i a1 a2 e1 e2=>?_,fun i a1 a2 e1 e2=>?_,fun i s1 s2 a1 a2 e1 e2 hl=>?_,fun i s1 s2 a1 a2 e1 e2=>?_,fun i a2 e2=>?_,fun i a2 e2=>?_,fun i s1 a2 e2=>?_⟩
  all_goals by_cases e:i=k2
  ·subst e;exact t.box i _ _ e1 hk2'
  ·rw [hlk i e] at e2;exact t.box i _ _ e1 e2
  ·subst e;rw [hlk2] at e2;cases e2
  ·rw [hlk i e] at e2;exact t.map i _ _ e1 e2
  ·subst e;rw [hlk2] at e2;cases e2
  ·rw [hlk i e] at e2;exact t.row i _ _ _ _ e1 e2 hl
  ·subst e;rw [hlk2] at e2;cases e2
  ·rw [hlk i e] at e2;exact t.grow i _ _ _ _ e1 e2
  ·subst e;exact t.kindB i _ hk2'
  ·rw [hlk i e] at e2;exact t.kindB i _ e2
  ·subst e;rw [hlk2] at e2;cases e2
  ·rw [hlk i e] at e2;exact t.kindM i _ e2
  ·subst e;rw [hlk2] at e2;cases e2
  rw [hlk i e] at e2;exact t.kindR i _ _ e2
theorem tup2_sub {F:Nat->Prop} {ρ:Loc} {w:World} {x x' y:IV} {v:Value} (hx:∀ v,RepI F ρ σ w x v->RepI F ρ σ w x' v) (h:RepI F ρ σ w (.tup [x,y]) v):RepI F ρ σ w (.tup [x',y]) v:=by
  cases h with
  | tup _ vs u hl hv hr =>
    refine .tup _ vs u hl (fun j z hj=>?_) fun j z hj=>?_
    ·match j,hj with
     | 0,_=>exact hv 0 x rfl
     | 1,hj=>exact hv 1 y rfl
     | j+2,hj=>simp at hj
    match j,hj with
    | 0,hj=>cases hj;exact hx _ (hr 0 x rfl)
    | 1,hj=>cases hj;exact hr 1 y rfl
    | j+2,hj=>simp at hj
end
abbrev uT35:=@Tryz.underlying35
abbrev uT43:=@Tryz.underlying43
abbrev uT3:=@Tryz.underlying3
abbrev uT42:=@Tryz.underlying42
abbrev uT23:=@Tryz.underlying23
theorem zd9:Tryz.prog.follows .mixedOrders=true:=by kernel_rfl
theorem tS3:(Tryz.prog.info? 3).map (·.size)=some 1:=by kernel_rfl
theorem tS4:(Tryz.prog.info? 4).map (·.size)=some 1:=by kernel_rfl
theorem tS5:(Tryz.prog.info? 5).map (·.size)=some 1:=by kernel_rfl
theorem tS25:(Tryz.prog.info? 25).map (·.size)=some 2:=by kernel_rfl
theorem tS35:(Tryz.prog.info? 35).map (·.size)=some 1:=by kernel_rfl
theorem tS40:(Tryz.prog.info? 40).map (·.size)=some 1:=by kernel_rfl
theorem tS42:(Tryz.prog.info? 42).map (·.size)=some 8:=by kernel_rfl
theorem tS43:(Tryz.prog.info? 43).map (·.size)=some 1:=by kernel_rfl
theorem tS49:(Tryz.prog.info? 49).map (·.size)=some 2:=by kernel_rfl
theorem tS51:(Tryz.prog.info? 51).map (·.size)=some 5:=by kernel_rfl
theorem tS77:(Tryz.prog.info? 77).map (·.size)=some 5:=by kernel_rfl
theorem tS90:(Tryz.prog.info? 90).map (·.size)=some 5:=by kernel_rfl
theorem tS103:(Tryz.prog.info? 103).map (·.size)=some 5:=by kernel_rfl
theorem y0v:(Tryz.prog.info? 142).map (·.size)=some 2:=by kernel_rfl
theorem tB3:(Tryz.prog.info? 3).map (fun i=>(i.size,i.bytes,(i.zero.map fun z=>z.cells.size)))=some (1,8,some 1):=by kernel_rfl
theorem tC3:(Tryz.prog.info? 3).map (fun i=>(i.size,i.bytes))=some (1,8):=by kernel_rfl
theorem tZ3:((Tryz.prog.info? 3).bind (·.zero))=some (.int .i64 (0)):=by kernel_rfl
theorem tC4:(Tryz.prog.info? 4).map (fun i=>(i.size,i.bytes))=some (1,1):=by kernel_rfl
theorem tZ4:((Tryz.prog.info? 4).bind (·.zero))=some (.bool false):=by kernel_rfl
theorem tF25_0:z0x Tryz.prog 25 0 0:=⟨_,_,0,Tryz.underlying25,rfl,rfl,by kernel_rfl⟩
theorem tF25_1:z0x Tryz.prog 25 1 1:=⟨_,_,0,Tryz.underlying25,rfl,rfl,by kernel_rfl⟩
theorem tB42:(Tryz.prog.info? 42).map (fun i=>(i.size,i.bytes,(i.zero.map fun z=>z.cells.size)))=some (8,136,some 8):=by kernel_rfl
theorem tZ42:((Tryz.prog.info? 42).bind (·.zero))=some (.agg #[.int .i64 (0),.int .i64 (0),.int .i64 (0),.string ⟨#[]⟩,.slice none 0 0,.slice none 0 0,.slice none 0 0,.slice none 0 0]):=by kernel_rfl
theorem tF42_0:z0x Tryz.prog 42 0 0:=⟨_,_,0,uT42,rfl,rfl,by kernel_rfl⟩
theorem tF42_1:z0x Tryz.prog 42 1 1:=⟨_,_,0,uT42,rfl,rfl,by kernel_rfl⟩
theorem tF42_4:z0x Tryz.prog 42 4 4:=⟨_,_,0,uT42,rfl,rfl,by kernel_rfl⟩
theorem tF42_5:z0x Tryz.prog 42 5 5:=⟨_,_,0,uT42,rfl,rfl,by kernel_rfl⟩
theorem tF42_6:z0x Tryz.prog 42 6 6:=⟨_,_,0,uT42,rfl,rfl,by kernel_rfl⟩
theorem tF42_7:z0x Tryz.prog 42 7 7:=⟨_,_,0,uT42,rfl,rfl,by kernel_rfl⟩
theorem tP42:∃ fs,Tryz.prog.underlying 42=some (.struct fs)/\z4o Tryz.prog fs #[(0,1),(1,1),(2,1),(3,1),(4,1),(5,1),(6,1),(7,1)]:=⟨_,uT42,fun _=>by kernel_rfl⟩
theorem tZ43:((Tryz.prog.info? 43).bind (·.zero))=some (.slice none 0 0):=by kernel_rfl
theorem tF49_0:z0x Tryz.prog 49 0 0:=⟨_,_,0,Tryz.underlying49,rfl,rfl,by kernel_rfl⟩
theorem tZ51:((Tryz.prog.info? 51).bind (·.zero))=some (.agg #[.string ⟨#[]⟩,.int .i64 (0),.int .i64 (0),.slice none 0 0,.slice none 0 0]):=by kernel_rfl
theorem tF51_0:z0x Tryz.prog 51 0 0:=⟨_,_,0,Tryz.underlying51,rfl,rfl,by kernel_rfl⟩
theorem tF51_1:z0x Tryz.prog 51 1 1:=⟨_,_,0,Tryz.underlying51,rfl,rfl,by kernel_rfl⟩
theorem tF51_2:z0x Tryz.prog 51 2 2:=⟨_,_,0,Tryz.underlying51,rfl,rfl,by kernel_rfl⟩
theorem tF51_3:z0x Tryz.prog 51 3 3:=⟨_,_,0,Tryz.underlying51,rfl,rfl,by kernel_rfl⟩
theorem tF51_4:z0x Tryz.prog 51 4 4:=⟨_,_,0,Tryz.underlying51,rfl,rfl,by kernel_rfl⟩
theorem tP51:∃ fs,Tryz.prog.underlying 51=some (.struct fs)/\z4o Tryz.prog fs #[(0,1),(1,1),(2,1),(3,1),(4,1)]:=⟨_,Tryz.underlying51,fun _=>by kernel_rfl⟩
theorem tF57_0:z0x Tryz.prog 57 0 0:=⟨_,_,0,Tryz.underlying57,rfl,rfl,by kernel_rfl⟩
theorem tF57_1:z0x Tryz.prog 57 1 1:=⟨_,_,0,Tryz.underlying57,rfl,rfl,by kernel_rfl⟩
theorem tF57_2:z0x Tryz.prog 57 2 2:=⟨_,_,0,Tryz.underlying57,rfl,rfl,by kernel_rfl⟩
theorem tF57_3:z0x Tryz.prog 57 3 3:=⟨_,_,0,Tryz.underlying57,rfl,rfl,by kernel_rfl⟩
theorem tZ77:((Tryz.prog.info? 77).bind (·.zero))=some (.agg #[.bool false,.bool false,.slice none 0 0,.slice none 0 0,.slice none 0 0]):=by kernel_rfl
theorem tF77_1:z0x Tryz.prog 77 1 1:=⟨_,_,0,Tryz.underlying77,rfl,rfl,by kernel_rfl⟩
theorem tF77_3:z0x Tryz.prog 77 3 3:=⟨_,_,0,Tryz.underlying77,rfl,rfl,by kernel_rfl⟩
theorem tF77_4:z0x Tryz.prog 77 4 4:=⟨_,_,0,Tryz.underlying77,rfl,rfl,by kernel_rfl⟩
theorem tP77:∃ fs,Tryz.prog.underlying 77=some (.struct fs)/\z4o Tryz.prog fs #[(0,1),(1,1),(2,1),(3,1),(4,1)]:=⟨_,Tryz.underlying77,fun _=>by kernel_rfl⟩
theorem tZ88:((Tryz.prog.info? 88).bind (·.zero))=some (.agg #[.slice none 0 0,.slice none 0 0,.string ⟨#[]⟩,.int .i64 (0),.int .i64 (0),.slice none 0 0,.slice none 0 0,.slice none 0 0]):=by kernel_rfl
theorem tF88_1:z0x Tryz.prog 88 1 2:=⟨_,_,4,Tryz.underlying88,rfl,rfl,by kernel_rfl⟩
theorem tF88_2:z0x Tryz.prog 88 2 7:=⟨_,_,0,Tryz.underlying88,rfl,rfl,by kernel_rfl⟩
theorem tP88:∃ fs,Tryz.prog.underlying 88=some (.struct fs)/\z4o Tryz.prog fs #[(0,2),(2,5),(7,1)]:=⟨_,Tryz.underlying88,fun _=>by kernel_rfl⟩
theorem tZ90:((Tryz.prog.info? 90).bind (·.zero))=some (.agg #[.bool false,.bool false,.slice none 0 0,.slice none 0 0,.slice none 0 0]):=by kernel_rfl
theorem tP90:∃ fs,Tryz.prog.underlying 90=some (.struct fs)/\z4o Tryz.prog fs #[(0,1),(1,1),(2,1),(3,1),(4,1)]:=⟨_,Tryz.underlying90,fun _=>by kernel_rfl⟩
theorem tZ100:((Tryz.prog.info? 100).bind (·.zero))=some (.agg #[.slice none 0 0,.slice none 0 0,.string ⟨#[]⟩,.int .i64 (0),.int .i64 (0),.slice none 0 0,.slice none 0 0,.slice none 0 0]):=by kernel_rfl
theorem tF100_1:z0x Tryz.prog 100 1 2:=⟨_,_,4,Tryz.underlying100,rfl,rfl,by kernel_rfl⟩
theorem tF100_2:z0x Tryz.prog 100 2 7:=⟨_,_,0,Tryz.underlying100,rfl,rfl,by kernel_rfl⟩
theorem tP100:∃ fs,Tryz.prog.underlying 100=some (.struct fs)/\z4o Tryz.prog fs #[(0,2),(2,5),(7,1)]:=⟨_,Tryz.underlying100,fun _=>by kernel_rfl⟩
theorem tZ103:((Tryz.prog.info? 103).bind (·.zero))=some (.agg #[.bool false,.bool false,.slice none 0 0,.slice none 0 0,.slice none 0 0]):=by kernel_rfl
theorem tF103_0:z0x Tryz.prog 103 0 0:=⟨_,_,0,Tryz.underlying103,rfl,rfl,by kernel_rfl⟩
theorem tF103_1:z0x Tryz.prog 103 1 1:=⟨_,_,0,Tryz.underlying103,rfl,rfl,by kernel_rfl⟩
theorem tF103_2:z0x Tryz.prog 103 2 2:=⟨_,_,0,Tryz.underlying103,rfl,rfl,by kernel_rfl⟩
theorem tF103_3:z0x Tryz.prog 103 3 3:=⟨_,_,0,Tryz.underlying103,rfl,rfl,by kernel_rfl⟩
theorem tF103_4:z0x Tryz.prog 103 4 4:=⟨_,_,0,Tryz.underlying103,rfl,rfl,by kernel_rfl⟩
theorem tP103:∃ fs,Tryz.prog.underlying 103=some (.struct fs)/\z4o Tryz.prog fs #[(0,1),(1,1),(2,1),(3,1),(4,1)]:=⟨_,Tryz.underlying103,fun _=>by kernel_rfl⟩
theorem z4i:((Tryz.prog.info? 142).bind (·.zero))=some (.agg #[.string ⟨#[]⟩,.int .i64 (0)]):=by kernel_rfl
theorem z4n:∃ fs,Tryz.prog.underlying 142=some (.struct fs)/\z4o Tryz.prog fs #[(0,1),(1,1)]:=⟨_,Tryz.underlying142,fun _=>by kernel_rfl⟩
theorem ent32:z0f Tryz.prog 32:=⟨Tryz.f32,Tryz.func32,by kernel_rfl,by kernel_rfl⟩
theorem ent33:z0f Tryz.prog 33:=⟨Tryz.f33,Tryz.func33,by kernel_rfl,by kernel_rfl⟩
theorem y74:z0f Tryz.prog 34:=⟨Tryz.f34,Tryz.func34,by kernel_rfl,by kernel_rfl⟩
theorem ent35:z0f Tryz.prog 35:=⟨Tryz.f35,Tryz.func35,by kernel_rfl,by kernel_rfl⟩
theorem y9p:z0f Tryz.prog 36:=⟨Tryz.f36,Tryz.func36,by kernel_rfl,by kernel_rfl⟩
theorem ent37:z0f Tryz.prog 37:=⟨Tryz.f37,Tryz.func37,by kernel_rfl,by kernel_rfl⟩
theorem ent38:z0f Tryz.prog 38:=⟨Tryz.f38,Tryz.func38,by kernel_rfl,by kernel_rfl⟩
theorem ent42:z0f Tryz.prog 42:=⟨Tryz.f42,Tryz.func42,by kernel_rfl,by kernel_rfl⟩
theorem ent52:z0f Tryz.prog 52:=⟨Tryz.f52,Tryz.func52,by kernel_rfl,by kernel_rfl⟩
theorem y9q:z0f Tryz.prog 53:=⟨Tryz.f53,Tryz.func53,by kernel_rfl,by kernel_rfl⟩
theorem ent54:z0f Tryz.prog 54:=⟨Tryz.f54,Tryz.func54,by kernel_rfl,by kernel_rfl⟩
theorem y9r:z0f Tryz.prog 55:=⟨Tryz.f55,Tryz.func55,by kernel_rfl,by kernel_rfl⟩
theorem ent56:z0f Tryz.prog 56:=⟨Tryz.f56,Tryz.func56,by kernel_rfl,by kernel_rfl⟩
theorem y9s:z0f Tryz.prog 57:=⟨Tryz.f57,Tryz.func57,by kernel_rfl,by kernel_rfl⟩
theorem ent58:z0f Tryz.prog 58:=⟨Tryz.f58,Tryz.func58,by kernel_rfl,by kernel_rfl⟩
theorem ent60:z0f Tryz.prog 60:=⟨Tryz.f60,Tryz.func60,by kernel_rfl,by kernel_rfl⟩
theorem ent62:z0f Tryz.prog 62:=⟨Tryz.f62,Tryz.func62,by kernel_rfl,by kernel_rfl⟩
theorem ent63:z0f Tryz.prog 63:=⟨Tryz.f63,Tryz.func63,by kernel_rfl,by kernel_rfl⟩
theorem ent64:z0f Tryz.prog 64:=⟨Tryz.f64,Tryz.func64,by kernel_rfl,by kernel_rfl⟩
theorem ent68:z0f Tryz.prog 68:=⟨Tryz.f68,Tryz.func68,by kernel_rfl,by kernel_rfl⟩
theorem ent69:z0f Tryz.prog 69:=⟨Tryz.f69,Tryz.func69,by kernel_rfl,by kernel_rfl⟩
theorem y9t:z0f Tryz.prog 70:=⟨Tryz.f70,Tryz.func70,by kernel_rfl,by kernel_rfl⟩
theorem ent76:z0f Tryz.prog 76:=⟨Tryz.f76,Tryz.func76,by kernel_rfl,by kernel_rfl⟩
theorem ent77:z0f Tryz.prog 77:=⟨Tryz.f77,Tryz.func77,by kernel_rfl,by kernel_rfl⟩
theorem ent78:z0f Tryz.prog 78:=⟨Tryz.f78,Tryz.func78,by kernel_rfl,by kernel_rfl⟩
theorem ent79:z0f Tryz.prog 79:=⟨Tryz.f79,Tryz.func79,by kernel_rfl,by kernel_rfl⟩
theorem ent80:z0f Tryz.prog 80:=⟨Tryz.f80,Tryz.func80,by kernel_rfl,by kernel_rfl⟩
theorem ent84:z0f Tryz.prog 84:=⟨Tryz.f84,Tryz.func84,by kernel_rfl,by kernel_rfl⟩
theorem ent85:z0f Tryz.prog 85:=⟨Tryz.f85,Tryz.func85,by kernel_rfl,by kernel_rfl⟩
theorem ent86:z0f Tryz.prog 86:=⟨Tryz.f86,Tryz.func86,by kernel_rfl,by kernel_rfl⟩
theorem ent87:z0f Tryz.prog 87:=⟨Tryz.f87,Tryz.func87,by kernel_rfl,by kernel_rfl⟩
theorem ent88:z0f Tryz.prog 88:=⟨Tryz.f88,Tryz.func88,by kernel_rfl,by kernel_rfl⟩
theorem ent89:z0f Tryz.prog 89:=⟨Tryz.f89,Tryz.func89,by kernel_rfl,by kernel_rfl⟩
theorem ent90:z0f Tryz.prog 90:=⟨Tryz.f90,Tryz.func90,by kernel_rfl,by kernel_rfl⟩
theorem ent91:z0f Tryz.prog 91:=⟨Tryz.f91,Tryz.func91,by kernel_rfl,by kernel_rfl⟩
theorem ent94:z0f Tryz.prog 94:=⟨Tryz.f94,Tryz.func94,by kernel_rfl,by kernel_rfl⟩
theorem ent95:z0f Tryz.prog 95:=⟨Tryz.f95,Tryz.func95,by kernel_rfl,by kernel_rfl⟩
theorem ent96:z0f Tryz.prog 96:=⟨Tryz.f96,Tryz.func96,by kernel_rfl,by kernel_rfl⟩
theorem ent105:z0f Tryz.prog 105:=⟨Tryz.f105,Tryz.func105,by kernel_rfl,by kernel_rfl⟩
theorem ent106:z0f Tryz.prog 106:=⟨Tryz.f106,Tryz.func106,by kernel_rfl,by kernel_rfl⟩
theorem ent107:z0f Tryz.prog 107:=⟨Tryz.f107,Tryz.func107,by kernel_rfl,by kernel_rfl⟩
theorem ent108:z0f Tryz.prog 108:=⟨Tryz.f108,Tryz.func108,by kernel_rfl,by kernel_rfl⟩
theorem ent109:z0f Tryz.prog 109:=⟨Tryz.f109,Tryz.func109,by kernel_rfl,by kernel_rfl⟩
theorem ent110:z0f Tryz.prog 110:=⟨Tryz.f110,Tryz.func110,by kernel_rfl,by kernel_rfl⟩
theorem ent111:z0f Tryz.prog 111:=⟨Tryz.f111,Tryz.func111,by kernel_rfl,by kernel_rfl⟩
theorem ent112:z0f Tryz.prog 112:=⟨Tryz.f112,Tryz.func112,by kernel_rfl,by kernel_rfl⟩
theorem zv1:z0f Tryz.prog 119:=⟨Tryz.f119,Tryz.func119,by kernel_rfl,by kernel_rfl⟩
theorem y9n:z0f Tryz.prog 121:=⟨Tryz.f121,Tryz.func121,by kernel_rfl,by kernel_rfl⟩
theorem y9o:z0f Tryz.prog 124:=⟨Tryz.f124,Tryz.func124,by kernel_rfl,by kernel_rfl⟩
theorem ent125:z0f Tryz.prog 125:=⟨Tryz.f125,Tryz.func125,by kernel_rfl,by kernel_rfl⟩
theorem ent126:z0f Tryz.prog 126:=⟨Tryz.f126,Tryz.func126,by kernel_rfl,by kernel_rfl⟩
theorem ent127:z0f Tryz.prog 127:=⟨Tryz.f127,Tryz.func127,by kernel_rfl,by kernel_rfl⟩
theorem ent128:z0f Tryz.prog 128:=⟨Tryz.f128,Tryz.func128,by kernel_rfl,by kernel_rfl⟩
theorem ent129:z0f Tryz.prog 129:=⟨Tryz.f129,Tryz.func129,by kernel_rfl,by kernel_rfl⟩
theorem ent130:z0f Tryz.prog 130:=⟨Tryz.f130,Tryz.func130,by kernel_rfl,by kernel_rfl⟩
theorem ent131:z0f Tryz.prog 131:=⟨Tryz.f131,Tryz.func131,by kernel_rfl,by kernel_rfl⟩
theorem ent132:z0f Tryz.prog 132:=⟨Tryz.f132,Tryz.func132,by kernel_rfl,by kernel_rfl⟩
theorem ent133:z0f Tryz.prog 133:=⟨Tryz.f133,Tryz.func133,by kernel_rfl,by kernel_rfl⟩
def tabL:List (Nat × List (Option Nat)):=[(7,[some 0,some 1,some 2,some 3]),(8,[some 0,some 1,some 2,some 3]),(13,[some 0,some 1]),(14,[some 0,some 1]),(18,[some 0]),(19,[some 0]),(24,[some 0,some 1]),(25,[some 0,some 1]),(41,[some 0,some 1,some 2,some 3,some 4,some 5,some 6,some 7]),(42,[some 0,some 1,some 2,some 3,some 4,some 5,some 6,some 7]),(45,[some 0,some 1,some 2,some 3,some 4]),(46,[some 0,some 1,some 2,some 3,some 4]),(48,[some 0,some 1]),(49,[some 0,some 1]),(50,[some 0,some 1,some 2,some 3,some 4]),(51,[some 0,some 1,some 2,some 3,some 4]),(56,[some 0,some 1,some 2,some 3]),(57,[some 0,some 1,some 2,some 3]),(60,[some 0]),(61,[some 0]),(69,[some 0,some 2,some 3,some 4,some 9]),(70,[some 0,some 2,some 3,some 4,some 9]),(76,[some 0,some 1,some 2,some 3,some 4]),(77,[some 0,some 1,some 2,some 3,some 4]),(81,[some 0,some 1]),(82,[some 0,some 1]),(87,[some 0,some 2,some 7]),(88,[some 0,some 2,some 7]),(90,[some 0,some 1,some 2,some 3,some 4]),(99,[some 0,some 2,some 7]),(100,[some 0,some 2,some 7]),(102,[some 0,some 1,some 2,some 3,some 4]),(103,[some 0,some 1,some 2,some 3,some 4]),(141,[some 0,some 1]),(142,[some 0,some 1]),(147,[some 0,some 1,some 2,some 3]),(148,[some 0,some 1,some 2,some 3]),(150,[none]),(151,[none]),(160,[some 0,some 1,some 2,some 3,some 4,some 5,some 6,some 7,some 8,some 9,some 10]),(161,[some 0,some 1,some 2,some 3,some 4,some 5,some 6,some 7,some 8,some 9,some 10])]
def tabQ:List Nat:=[2,3,4,5,6,9,10,11,12,15,16,17,21,22,23,29,31,35,40,43,55,59,67,68,85,86,95,98,131,153,154,155,157,158,159]
theorem tabL_ok:yc9 Tryz.prog tabL=true:=by kernel_rfl
theorem tabQ_ok:okLd Tryz.prog tabQ=true:=by kernel_rfl
def tab:Tab Tryz.prog:=mkTab Tryz.prog tabL tabQ tabL_ok tabQ_ok
theorem sm {c:Cx} {ops:Array Oper} {hp:Hp} {l l':List Oper} {fr fr':Fr} {Q:Exit->Fr->Heap'->Prop} (n:Nat) (h:simL tab ops hp c.n n l fr=some (l',fr')) (h2:WL Tryz.prog c ops Q l' fr' (look hp)):WL Tryz.prog c ops Q l fr (look hp):=sim tab n h h2
theorem smS {c:Cx} {ops:Array Oper} {hp:Hp} {l l':List Oper} {fr fr':Fr} {Q:Exit->Fr->Heap'->Prop} (n:Nat) (h:simL tab ops hp c.n n l fr=some (l',fr')) (h2:WS Tryz.prog c ops Q l' fr' (look hp)):WS Tryz.prog c ops Q l fr (look hp):=simS tab n h h2
theorem smR {c:Cx} {R1:Nat->Prop} {ops:Array Oper} {hp:Hp} {is is':List Nat} {li li':Array Bool} {fr fr':Fr} {Q:Exit->Fr->Heap'->Prop} {fuel:Nat} (n:Nat) (h:simR tab ops hp c.n n is li fr=some (is',li',fr')) (h2:WR Tryz.prog c R1 ops Q is' fuel li' fr' (look hp)):WR Tryz.prog c R1 ops Q is fuel li fr (look hp):=simR' tab n h h2
def rowI (l:List Int):HO:=.row ⟨3,1⟩ (l.map eInt)
def endv (e:Rend):PV:=.agg [vInt e.1,ints e.2]
theorem yh8 {v v':List Int} {x y:Int} (h:setV v x y=some v'):0<=x/\x.toNat<(v.map eInt).length/\v'=v.set x.toNat y:=by
  unfold setV at h
  split at h
  · rename_i hx
    exact ⟨hx.1,by simpa using hx.2,by cases h;rfl⟩
  · cases h
theorem z8g {v v':List Int} {x:Int} {r n:List Int} (h:mSet v (x::r) n=some v'):∃ y n' v1,n=y::n'/\setV v x y=some v1/\mSet v1 r n'=some v':=by
  cases n with
  | nil=>cases h
  | cons y n' =>
    simp only [mSet,Option.bind_eq_some_iff] at h
    obtain ⟨v1,h1,h2⟩:=h
    exact ⟨y,n',v1,rfl,h1,h2⟩
def r8op (x:Nd):Bool:=x.kind==3||x.kind==4
def y7q (x:Nd):Bool:=x.kind==1||x.kind==2
def zw9 (x:Nd):Bool:=x.kind==5||x.kind==6||x.kind==7
def r8kn (x:Nd):Int:=if x.kind==11 then 1 else if x.kind==10 then 2 else 0
def z12 (x:Nd):Bool:=(r8op x||x.op==0)&&(y7q x||x.n==0)&&(zw9 x||x.name.toList==[])&&(x.kids.length:Int)==r8kn x&&(x.kind==11||(x.params.length:Int)==0)
def z9m (b:Bool):List PV:=[vBool b]
def z5t (tys seen:List Int) (v w:Int):Bool:=!(decide (v<0)||decide (v ≥ tys.length) || !seen.contains v||(w != 0&&(tys.getD v.toNat 0 != w)))
def z0u (tys seen:List Int):List Int->List Int->Bool
  | v::r,w::ws=>z5t tys seen v w&&z0u tys seen r ws
  | _,_=>true
def z02 (tys seen l want:List Int):Bool:=(l.length:Int)==want.length&&z0u tys seen l want
def z7m (tys:List Int) (set:List Bool) (v w:Int):Bool:=decide (v<0)||decide (v ≥ tys.length)||set.getD v.toNat false||(w != 0&&(tys.getD v.toNat 0 != w))
def z1v (tys:List Int):List Bool->List Int->List Int->Bool × List Bool
  | set,v::r,w::ws=>if z7m tys set v w then (false,set) else z1v tys (set.set v.toNat true) r ws
  | set,_,_=>(true,set)
def z1o (tys:List Int) (set:List Bool) (l want:List Int):Bool × List Bool :=
  if (l.length:Int)==want.length then z1v tys set l want else (false,set)
theorem z8u (tys:List Int):∀ (l want:List Int) (set:List Bool),(z1v tys set l want).2.length=set.length
  | [],_,_=>by simp [z1v]
  | _::_,[],_=>by simp [z1v]
  | v::r,w::ws,set=>by
    simp only [z1v]
    split
    · rfl
    · rw [z8u tys r ws];simp
theorem z5s (tys:List Int) (set:List Bool) (l want:List Int):(z1o tys set l want).2.length=set.length:=by
  unfold z1o
  split
  · exact z8u ..
  · rfl
def z6k (tys:List Int) (v:Int):Bool:=decide (0<=v)&&decide (v<tys.length)
def r8of (tys l:List Int):List Int:=if l.all (z6k tys) then l.map fun v=>tys.getD v.toNat 0 else []
structure Wh where
  If:Bool
  Loop:Bool
  Yield:List Int
  Next:List Int
  Left:List Int
abbrev whv (w:Wh):PV:=.agg [vBool w.If,vBool w.Loop,ints w.Yield,ints w.Next,ints w.Left]
def y6y (u:Un) (f:Fl) (n:Nat):List IV:=[.pv (arrs u.arrays),.pv (flws u.flows),iStr f.name,iInt f.ty,iInt f.params,.pv (ints f.types),.pv (z0m f.body),.sl 4 n]
def ckHp (u:Un) (f:Fl) (bt:TypeId) (set:List Bool):List (Nat × HO):=[(3,.box (y6y u f (set.map z9m).length)),(4,.row ⟨bt,1⟩ (set.map z9m))]
def z2a (op:Int):Bool:=decide (op ≥ 20)&&decide (op<=28)
def z1t (op:Int):Bool:=decide (op ≥ 1)&&decide (op<=17)
def z0a (op:Int):Int × Int :=
  if op==18||op==19||op==22 then (2,2) else if op==16||op==17 then (0,2)
  else if decide (op ≥ 12)&&decide (op<=15) then (1,2) else (1,1)
def z6s (tys acc:List Int):List Int->List Int
  | []=>acc
  | v::r=>if z6k tys v then z6s tys (acc++[tys.getD v.toNat 0]) r else []
theorem y2g (tys:List Int):∀ (l acc:List Int),z6s tys acc l=if l.all (z6k tys) then acc++l.map (fun v=>tys.getD v.toNat 0) else []
  | [],acc=>by simp [z6s]
  | v::r,acc=>by
    simp only [z6s,List.all_cons,List.map_cons]
    cases h:z6k tys v<;>simp [y2g tys r]
theorem ye1 (tys l:List Int):r8of tys l=z6s tys [] l:=by rw [y2g];simp [r8of]
def andS (b:Bool) (set:List Bool) (r:Bool × List Bool):Bool × List Bool:=if b then r else (false,set)
def z8t (u:Un) (f:Fl) (set:List Bool) (x:Nd) (seen:List Int):Bool × List Bool :=
  if decide (z04 x.name u.flows 0 ≥ 0)=true then
    match u.flows[(z04 x.name u.flows 0).toNat]? with
    | some g=>andS (z02 f.types seen x.args (g.types.take g.params.toNat)) set (z1o f.types set x.outs [g.ty])
    | none=>(false,set)
  else (false,set)
def z1c (u:Un) (f:Fl) (set:List Bool) (x:Nd) (seen:List Int) (w:Wh):Bool × List Bool :=
  if x.kind==1 then andS (z02 f.types seen x.args []) set (z1o f.types set x.outs [1])
  else if x.kind==2 then andS ((x.n==0||x.n==1)&&z02 f.types seen x.args []) set (z1o f.types set x.outs [2])
  else if x.kind==3 then andS (z2a x.op&&z02 f.types seen x.args [(z0a x.op).1]) set (z1o f.types set x.outs [(z0a x.op).2])
  else if x.kind==4 then andS (z1t x.op&&z02 f.types seen x.args [(z0a x.op).1,(z0a x.op).1]&&f.types.getD (x.args.getD 0 0).toNat 0==f.types.getD (x.args.getD 1 0).toNat 0) set (z1o f.types set x.outs [(z0a x.op).2])
  else if x.kind==5 then andS (decide (z0e x.name u.arrays 0 ≥ 0)&&z02 f.types seen x.args [1]) set (z1o f.types set x.outs [1])
  else if x.kind==6 then (decide (z0e x.name u.arrays 0 ≥ 0)&&z02 f.types seen x.args [1,1]&&(x.outs.length:Int)==0,set)
  else if x.kind==7 then z8t u f set x seen
  else if x.kind==8 then andS ((x.args.length:Int)==0) set (z1o f.types set x.outs [1])
  else if x.kind==9 then (z02 f.types seen x.args [1]&&(x.outs.length:Int)==0,set)
  else if x.kind==12 then (w.If&&z02 f.types seen x.args w.Yield&&(x.outs.length:Int)==0,set)
  else if x.kind==13 then (w.Loop&&z02 f.types seen x.args w.Next&&(x.outs.length:Int)==0,set)
  else if x.kind==14 then (w.Loop&&z02 f.types seen x.args w.Left&&(x.outs.length:Int)==0,set)
  else if x.kind==15 then (z02 f.types seen x.args [f.ty]&&(x.outs.length:Int)==0,set)
  else (false,set)
theorem zk1 (name:ByteArray):∀ (l:List Fl) (i:Int),z04 name l i ≠ -1->i ≥ 0->i<=z04 name l i/\∃ g,l[(z04 name l i - i).toNat]? = some g/\eqS g.name name=true
  | [],i,h,_=>absurd rfl h
  | g::r,i,h,h0=>by
    simp only [z04] at h ⊢
    split
    ·rename_i hq
     exact ⟨Int.le_refl _,g,by simp,hq⟩
    rename_i hq
    rw [if_neg hq] at h
    obtain ⟨h1,g',h2,h3⟩:=zk1 name r (i+1) h oM0
    refine ⟨by omega,g',?_,h3⟩
    rw [show (z04 name r (i+1) - i).toNat=(z04 name r (i+1) - (i+1)).toNat+1 by omega]
    simpa using h2
theorem z9e {name:ByteArray} {l:List Fl} (h:z04 name l 0 ≥ 0):∃ g,l[(z04 name l 0).toNat]? = some g/\eqS g.name name=true:=by
  obtain ⟨_,g,h2,h3⟩:=zk1 name l 0 oM0 oM0
  exact ⟨g,by simpa using h2,h3⟩
theorem zb7 {tys seen:List Int} {v w:Int} (h:z5t tys seen v w=true):0<=v/\v.toNat<tys.length:=by
  simp [z5t] at h
  omega
theorem y4g {tys seen l:List Int} {t1 t2:Int} (h:z02 tys seen l [t1,t2]=true):∃ a b,l=[a,b]/\0<=a/\a.toNat<tys.length/\0<=b/\b.toNat<tys.length:=by
  match l with
  | []=>simp [z02] at h
  | [a]=>simp [z02] at h
  | [a,b] =>
    simp [z02,z0u] at h
    have h1:=zb7 h.1
    have h2:=zb7 h.2
    exact ⟨a,b,rfl,h1.1,h1.2,h2.1,h2.2⟩
  | a::b::c::r=>simp [z02] at h;omega
def andT (r:Bool × List Bool) (k:List Bool->Bool × List Bool):Bool × List Bool:=if r.1 then k r.2 else (false,r.2)
def ne (l:List Nd) (r:Bool × List Bool):Bool × List Bool:=if l.isEmpty then (false,r.2) else r
mutual
def ndW:Nd->Nat
  | .mk _ _ _ _ args outs params kids=>1+args.length+outs.length+params.length+kdW kids
def lsW:List Nd->Nat
  | []=>0
  | x::r=>ndW x+lsW r
def kdW:List (List Nd)->Nat
  | []=>0
  | l::r=>1+lsW l+kdW r
end
def z9o (f:Fl) (x:Nd) (set:List Bool):Bool × List Bool :=
  andS ((x.outs.length:Int)==0 || !z01 x) set (z1o f.types set x.outs (List.replicate x.outs.length 0))
mutual
def z2v (u:Un) (f:Fl) (deep:Int) (w:Wh) (seen:List Int) (set:List Bool):Nd->Bool × List Bool
  | .mk kind op n name args outs params kids =>
    if !z12 (.mk kind op n name args outs params kids) then (false,set)
    else if kind==10 then
      if z02 f.types seen args [2] then
        match kids with
        | a::b::_ =>
          andT (ne a (r8go u f (deep+1) ⟨true,w.Loop,r8of f.types outs,w.Next,w.Left⟩ seen set a)) fun s1 =>
          andT (ne b (r8go u f (deep+1) ⟨true,w.Loop,r8of f.types outs,w.Next,w.Left⟩ seen s1 b)) fun s2 =>
          z9o f (.mk kind op n name args outs params kids) s2
        | _=>(false,set)
      else (false,set)
    else if kind==11 then
      if z02 f.types seen args (r8of f.types params) then
        andT (z1o f.types set params (List.replicate params.length 0)) fun s1 =>
        match kids with
        | a::_ =>
          andT (ne a (r8go u f (deep+1) ⟨false,true,[],r8of f.types params,r8of f.types outs⟩ (seen++params) s1 a)) fun s2 =>
          z9o f (.mk kind op n name args outs params kids) s2
        | _=>(false,s1)
      else (false,set)
    else z1c u f set (.mk kind op n name args outs params kids) seen w
def r8go (u:Un) (f:Fl) (deep:Int) (w:Wh) (all:List Int) (set:List Bool):List Nd->Bool × List Bool
  | []=>(true,set)
  | x::r =>
    if deep > 100 then (false,set)
    else andT (z2v u f deep w all set x) fun s1 =>
      if z01 x != r.isEmpty then (false,s1)
      else r8go u f deep w (all++x.outs) s1 r
end
def z1n (u:Un) (f:Fl) (deep:Int) (w:Wh) (all:List Int) (set:List Bool) (l:List Nd):Bool × List Bool:=ne l (r8go u f deep w all set l)
theorem zn0 {b:Bool} {set:List Bool} {r:Bool × List Bool} {n:Nat} (h1:set.length=n) (h2:r.2.length=n):(andS b set r).2.length=n:=by unfold andS;split<;>assumption
theorem z61 {r:Bool × List Bool} {k:List Bool->Bool × List Bool} {n:Nat} (h1:r.2.length=n) (h2:∀ s,s.length=n->(k s).2.length=n):(andT r k).2.length=n:=by
  unfold andT;split
  ·exact h2 _ h1
  exact h1
theorem ze1 {l:List Nd} {r:Bool × List Bool} {n:Nat} (h:r.2.length=n):(ne l r).2.length=n:=by unfold ne;split<;>exact h
theorem y7b {p:Prop} [Decidable p] {a b:Bool × List Bool} {n:Nat} (h1:a.2.length=n) (h2:b.2.length=n):(if p then a else b).2.length=n:=by split<;>assumption
theorem zr2 (u:Un) (f:Fl) (set:List Bool) (x:Nd) (seen:List Int) (w:Wh):(z1c u f set x seen w).2.length=set.length:=by
  have hS:∀ b l t,(andS b set (z1o f.types set l t)).2.length=set.length:=fun b l t=>zn0 rfl (z5s ..)
  unfold z1c z8t
  repeat' (first | exact hS _ _ _ | exact rfl | refine y7b ?_ ?_ | split)
theorem zk2 {f:Fl} {x:Nd} {set:List Bool} {n:Nat} (h:set.length=n):(z9o f x set).2.length=n:=zn0 h ((z5s ..).trans h)
mutual
theorem z7o (u:Un) (f:Fl):∀ (x:Nd) (deep:Int) (w:Wh) (seen:List Int) (set:List Bool),(z2v u f deep w seen set x).2.length=set.length
  | .mk kind op n name args outs params kids,deep,w,seen,set=>by
    unfold z2v
    split
    ·rfl
    split
    ·split
     ·match kids with
      | []=>rfl
      | [_]=>rfl
      | a::b::_ =>
        refine z61 (ze1 (z6c u f a ..)) fun s hs=>z61 (ze1 ((z6c u f b ..).trans hs)) fun s hs=>zk2 hs
     rfl
    split
    ·split
     ·refine z61 (z5s ..) fun s hs=>?_
      match kids with
      | []=>exact hs
      | a::_=>exact z61 (ze1 ((z6c u f a ..).trans hs)) fun s hs=>zk2 hs
     rfl
    exact zr2 ..
theorem z6c (u:Un) (f:Fl):∀ (l:List Nd) (deep:Int) (w:Wh) (all:List Int) (set:List Bool),(r8go u f deep w all set l).2.length=set.length
  | [],_,_,_,_=>by simp [r8go]
  | x::r,deep,w,all,set=>by
    unfold r8go
    split
    ·rfl
    refine z61 (z7o u f x ..) fun s hs=>?_
    split
    ·exact hs
    exact (z6c u f r ..).trans hs
end
theorem z5r (u:Un) (f:Fl) (deep:Int) (w:Wh) (all:List Int) (set:List Bool) (l:List Nd):(z1n u f deep w all set l).2.length=set.length:=ze1 (z6c ..)
theorem y9d {u:Un} {f:Fl} {bt:TypeId} {set set':List Bool} (h:set'.length=set.length):∀ k ob,look (up (ckHp u f bt set')) k=some ob->zq5 ob=true∨(k=3/\look (up (ckHp u f bt set)) k=some ob):=by
  intro k ob hk
  have hm:=z16 hk
  simp only [ckHp,List.mem_cons,List.not_mem_nil,or_false,Prod.mk.injEq] at hm
  rcases hm with ⟨rfl,rfl⟩ | ⟨rfl,rfl⟩
  ·exact .inr ⟨rfl,by simp [ckHp,up,look,h]⟩
  refine .inl ?_
  simp [zq5,z9m,y6b]
theorem zb4 {x:Nd} (h:z12 x=true):(x.kids.length:Int)=r8kn x:=by
  simp only [z12,Bool.and_eq_true,beq_iff_eq] at h
  exact h.1.2
theorem z2k {x:Nd} (h:z12 x=true) (hk:x.kind=10):∃ a b,x.kids=[a,b]:=by
  have:=zb4 h
  simp [r8kn,hk] at this
  match hx:x.kids with
  | []=>simp [hx] at this
  | [a]=>simp [hx] at this
  | [a,b]=>exact ⟨a,b,rfl⟩
  | a::b::c::r=>simp [hx] at this;omega
theorem z1m {x:Nd} (h:z12 x=true) (hk:x.kind=11):∃ a,x.kids=[a]:=by
  have:=zb4 h
  simp [r8kn,hk] at this
  match hx:x.kids with
  | []=>simp [hx] at this
  | [a]=>exact ⟨a,rfl⟩
  | a::b::r=>simp [hx] at this;omega
theorem zb5 (u:Un) (f:Fl) (deep:Int) (w:Wh) (seen:List Int) (set:List Bool) {x:Nd} (h:z12 x=false):z2v u f deep w seen set x=(false,set):=by
  cases x;unfold z2v;simp [h]
theorem zr1 (u:Un) (f:Fl) (deep:Int) (w:Wh) (seen:List Int) (set:List Bool) {x:Nd} {a b:List Nd} (h:z12 x=true) (hk:x.kind=10) (hx:x.kids=[a,b]) :
    z2v u f deep w seen set x=if z02 f.types seen x.args [2] then
        andT (z1n u f (deep+1) ⟨true,w.Loop,r8of f.types x.outs,w.Next,w.Left⟩ seen set a) fun s1 =>
        andT (z1n u f (deep+1) ⟨true,w.Loop,r8of f.types x.outs,w.Next,w.Left⟩ seen s1 b) fun s2=>z9o f x s2
      else (false,set):=by
  cases x;simp only [Nd.kind,Nd.kids,Nd.args,Nd.outs] at *;subst hk hx;unfold z2v;simp [h,z1n];rfl
theorem zb6 (u:Un) (f:Fl) (deep:Int) (w:Wh) (seen:List Int) (set:List Bool) {x:Nd} {a:List Nd} (h:z12 x=true) (hk:x.kind=11) (hx:x.kids=[a]) :
    z2v u f deep w seen set x=if z02 f.types seen x.args (r8of f.types x.params) then
        andT (z1o f.types set x.params (List.replicate x.params.length 0)) fun s1 =>
        andT (z1n u f (deep+1) ⟨false,true,[],r8of f.types x.params,r8of f.types x.outs⟩ (seen++x.params) s1 a) fun s2=>z9o f x s2
      else (false,set):=by
  cases x;simp only [Nd.kind,Nd.kids,Nd.args,Nd.outs,Nd.params] at *;subst hk hx;unfold z2v;simp [h,z1n];rfl
theorem z7p (u:Un) (f:Fl) (deep:Int) (w:Wh) (seen:List Int) (set:List Bool) {x:Nd} (h:z12 x=true) (h1:(x.kind==10)=false) (h2:(x.kind==11)=false) :
    z2v u f deep w seen set x=z1c u f set x seen w:=by
  cases x;simp only [Nd.kind] at *;unfold z2v;simp [h,h1,h2]
theorem z9t (x:Nd):ndW x=1+x.args.length+x.outs.length+x.params.length+kdW x.kids:=by cases x;simp [ndW,Nd.args,Nd.outs,Nd.params,Nd.kids]
theorem ck_row {u:Un} {f:Fl} {bt:TypeId} {s s':List Bool} {k:Nat} {o o2:Option HO}:look ((k,o)::(up (ckHp u f bt s')++((k,o2)::up (ckHp u f bt s))))=look ((k,o)::up (ckHp u f bt s')):=by
  funext j
  simp only [look]
  cases hkj:Nat.beq k j with
  | true=>rfl
  | false =>
    simp only [cond_false]
    rw [z29]
    simp only [look,hkj,cond_false,ckHp,up,List.map_cons,List.map_nil]
    cases Nat.beq 3 j<;>cases Nat.beq 4 j<;>rfl
theorem ck_row' {u:Un} {f:Fl} {bt:TypeId} {s s':List Bool} {k:Nat} {t:RT} {al l:List Int} {o2:Option HO}:look ((k,some (.row t (al.map eInt++l.map eInt)))::(up (ckHp u f bt s')++((k,o2)::up (ckHp u f bt s))))=look ((k,some (.row t ((al++l).map eInt)))::up (ckHp u f bt s')):=by
  rw [ck_row,List.map_append]
theorem zr0 {u:Un} {f:Fl} {deep:Int} {w:Wh} {all:List Int} {set:List Bool} {l:List Nd} {k:Nat} (h:k<l.length):z1n u f deep w all set l=r8go u f deep w all set l:=by
  unfold z1n ne
  rw [if_neg]
  simp
  intro e;subst e;simp at h
theorem z6l {l:List Nd} {k:Nat} (h:k<l.length):(l.drop (k+1)).isEmpty=((k:Int)==(l.length:Int) - 1):=by
  by_cases e:k+1=l.length
  ·rw [List.drop_eq_nil_of_le oM0]
   have:(k:Int)=(l.length:Int) - 1:=by omega
   simp [this]
  have h1:l.drop (k+1)≠[]:=fun h0=>by have:=congrArg List.length h0;simp at this;omega
  have h2:¬ (k:Int)=(l.length:Int) - 1:=by omega
  rw [beq_eq_false_iff_ne.2 h2]
  cases hq:l.drop (k+1) with
  | nil=>exact absurd hq h1
  | cons=>rfl
section
def z57 (s:Rs):Rs:={ s with cost:=w64 (s.cost+1) }
theorem zm4 {v v':List Int} {x y:Int} (h:setV v x y=some v'):v'.length=v.length:=by
  rw [(yh8 h).2.2,List.length_set]
theorem z4e:∀ {l n v v':List Int},mSet v l n=some v'->v'.length=v.length
  | [],_,_,_,h=>by cases h;rfl
  | _::_,_,_,_,h=>by
    obtain ⟨y,n',v1,rfl,h1,h2⟩:=z8g h
    rw [z4e h2,zm4 h1]
theorem y25 {rec:List Nd->List Int->Rs->Option Rres} {recLoop:Nd->List Int->List Int->Rs->Option Rres} {recSum:Nd->List Int->Rs->Option (Int × Rs)} {x:Nd} {a v:List Int} {s:Rs} {r:Rres}
    (hr:∀ q v s r,rec q v s=some r->r.2.1.length=v.length) (hl:∀ x v a s r,recLoop x v a s=some r->r.2.1.length=v.length) (h:z4t rec recLoop recSum x a v s=some r):r.2.1.length=v.length:=by
  unfold z4t at h
  split at h
  ·simp only [Option.bind_eq_some_iff,Option.map_eq_some_iff] at h
   obtain ⟨o,_,v',h1,rfl⟩:=h
   exact zm4 h1
  split at h
  ·cases h;rfl
  split at h
  ·simp only [Option.bind_eq_some_iff] at h
   obtain ⟨a0,_,q,_,r1,h1,h2⟩:=h
   have h3:=hr _ _ _ _ h1
   split at h2
   ·simp only [Option.map_eq_some_iff] at h2
    obtain ⟨v',h4,rfl⟩:=h2
    exact (z4e h4).trans h3
   cases h2;exact h3
  split at h
  ·exact hl _ _ _ _ _ h
  simp only [Option.bind_eq_some_iff] at h
  obtain ⟨r1,h1,h2⟩:=h
  split at h2
  ·simp only [Option.bind_eq_some_iff,Option.map_eq_some_iff] at h2
   obtain ⟨o,_,v',h4,rfl⟩:=h2
   exact zm4 h4
  cases h2;rfl
theorem zh4 (u:Un):∀ d,(∀ l v s r,z1s u d l v s=some r->r.2.1.length=v.length)/\∀ x v a s r,z36 u d x v a s=some r->r.2.1.length=v.length
  | 0=>⟨fun _ _ _ _ h=>by simp [z1s] at h,fun _ _ _ _ _ h=>by simp [z36] at h⟩
  | d+1=>by
    obtain ⟨i1,i2⟩:=zh4 u d
    refine ⟨fun l v s r h=>?_,fun x v a s r h=>?_⟩
    ·cases l with
     | nil=>simp only [z1s] at h;cases h;rfl
     | cons x l =>
       rw [z1s] at h
       split at h
       ·cases h;rfl
       simp only [Option.bind_eq_some_iff] at h
       obtain ⟨a,_,r1,h1,h2⟩:=h
       have h3:=y25 i1 i2 h1
       split at h2
       ·cases h2;exact h3
       exact (i1 _ _ _ _ h2).trans h3
    rw [z36] at h
    simp only [Option.bind_eq_some_iff] at h
    obtain ⟨v1,hv1,q,_,r1,h1,h2⟩:=h
    have h3:=(i1 _ _ _ _ h1).trans (z4e hv1)
    split at h2
    ·cases h2;exact h3
    split at h2
    ·simp only [Option.map_eq_some_iff] at h2
     obtain ⟨v',h4,rfl⟩:=h2
     exact (z4e h4).trans h3
    exact (i2 _ _ _ _ _ h2).trans h3
theorem z70 {u:Un} {d:Nat} {l:List Nd} {v:List Int} {s:Rs} {r:Rres} (h:z1s u d l v s=some r):r.2.1.length=v.length:=(zh4 u d).1 _ _ _ _ h
theorem z4k {u:Un} {d:Nat} {x:Nd} {v a:List Int} {s:Rs} {r:Rres} (h:z36 u d x v a s=some r):∃ d1 v2 q r1,d=d1+1/\mSet v x.params a=some v2/\x.kids[0]? = some q/\z1s u d1 q v2 s=some r1 /\
    (if z0z r1.2.2||r1.1.1==15 then some r1 else if r1.1.1==14 then (mSet r1.2.1 x.outs r1.1.2).map fun v=>((0,[]),v,r1.2.2) else z36 u d1 x r1.2.1 r1.1.2 r1.2.2)=some r:=by
  cases d with
  | zero=>simp [z36] at h
  | succ d =>
    rw [z36] at h
    simp only [Option.bind_eq_some_iff] at h
    obtain ⟨v2,h1,q,h2,r1,h3,h4⟩:=h
    exact ⟨d,v2,q,r1,rfl,h1,h2,h3,h4⟩
theorem z71 {u:Un} {d:Nat} {x:Nd} {l:List Nd} {v:List Int} {s s2:Rs} {r:Rres} (hs2:(z85 s).2=s2) (h:z1s u d (x::l) v s=some r):∃ d1,d=d1+1/\(((z85 s).1=false/\r=((0,[]),v,s2)) ∨
    ((z85 s).1=true/\∃ a r1,mOf v x.args=some a/\z4t (z1s u d1) (z36 u d1) (mSum u d1) x a v s2=some r1/\(if z0z r1.2.2||r1.1.1 != 0 then some r1 else z1s u d1 l r1.2.1 r1.2.2)=some r)):=by
  cases d with
  | zero=>simp [z1s] at h
  | succ d =>
    refine ⟨d,rfl,?_⟩
    subst hs2
    rw [z1s] at h
    split at h
    ·rename_i s' e;cases h;exact .inl ⟨by rw [e],by rw [e]⟩
    rename_i s' e
    simp only [Option.bind_eq_some_iff] at h
    obtain ⟨a,h1,r1,h2,h3⟩:=h
    exact .inr ⟨by rw [e],a,r1,h1,by rw [e];exact h2,h3⟩
section
variable {rec:List Nd->List Int->Rs->Option Rres} {recLoop:Nd->List Int->List Int->Rs->Option Rres} {recSum:Nd->List Int->Rs->Option (Int × Rs)} {x:Nd} {a v:List Int} {s:Rs} {r:Rres}
theorem z72 (h:z4t rec recLoop recSum x a v s=some r) (hk:(x.kind==1||x.kind==2)=true):∃ o v2,x.outs[0]? = some o/\setV v o x.n=some v2/\r=((0,[]),v2,s):=by
  unfold z4t at h
  rw [if_pos hk] at h
  simp only [Option.bind_eq_some_iff,Option.map_eq_some_iff] at h
  obtain ⟨o,h1,v2,h2,rfl⟩:=h
  exact ⟨o,v2,h1,h2,rfl⟩
theorem z4u (h:z4t rec recLoop recSum x a v s=some r) (hk:(x.kind==12||x.kind==13||x.kind==14||x.kind==15)=true):r=((x.kind,a),v,s):=by
  unfold z4t at h
  rw [if_neg (by simp only [Bool.or_eq_true,beq_iff_eq] at hk ⊢;omega),if_pos hk] at h
  cases h;rfl
theorem zd8 (h:z4t rec recLoop recSum x a v s=some r) (hk:(x.kind==10)=true):∃ a0 q r1,a[0]? = some a0/\x.kids[if a0 != 0 then 0 else 1]? = some q/\rec q v s=some r1 /\
    (if !z0z r1.2.2&&r1.1.1==12 then (mSet r1.2.1 x.outs r1.1.2).map fun v'=>((0,[]),v',r1.2.2) else some r1)=some r:=by
  unfold z4t at h
  rw [if_neg (by simp only [Bool.or_eq_true,beq_iff_eq] at hk ⊢;omega),if_neg (by simp only [Bool.or_eq_true,beq_iff_eq] at hk ⊢;omega),if_pos hk] at h
  simp only [Option.bind_eq_some_iff] at h
  obtain ⟨a0,h1,q,h2,r1,h3,h4⟩:=h
  exact ⟨a0,q,r1,h1,h2,h3,h4⟩
theorem z5y (h:z4t rec recLoop recSum x a v s=some r) (hk:(x.kind==11)=true):recLoop x v a s=some r:=by
  unfold z4t at h
  rw [if_neg (by simp only [Bool.or_eq_true,beq_iff_eq] at hk ⊢;omega),if_neg (by simp only [Bool.or_eq_true,beq_iff_eq] at hk ⊢;omega),if_neg (by simp only [beq_iff_eq] at hk ⊢;omega),if_pos hk] at h
  exact h
theorem z73 (h:z4t rec recLoop recSum x a v s=some r) (h1:(x.kind==1||x.kind==2)=false) (h2:(x.kind==12||x.kind==13||x.kind==14||x.kind==15)=false) (h3:(x.kind==10)=false) (h4:(x.kind==11)=false):∃ r1,recSum x a s=some r1 /\
    (if !z0z r1.2&&decide (0<x.outs.length) then (x.outs[0]?).bind fun o=>(setV v o r1.1).map fun v'=>((0,[]),v',r1.2) else some ((0,[]),v,r1.2))=some r:=by
  unfold z4t at h
  rw [h1,h2,h3,h4] at h
  simp only [Bool.false_eq_true,if_false,Option.bind_eq_some_iff] at h
  exact h
end
theorem z5x {u:Un} {d:Nat} {k:Int} {a:List Int} {s:Rs} {r:Int × Rs} (h:z3r u d k a s=some r):∃ d1 f r1,d=d1+1/\0<=k/\u.flows[k.toNat]? = some f/\a.length<=f.types.length/\f.types.length<=1073741824 /\
    z1s u d1 f.body (a++List.replicate (f.types.length - a.length) 0) s=some r1/\r=(if z0z r1.2.2 then 0 else r1.1.2.headD 0,r1.2.2):=by
  cases d with
  | zero=>simp [z3r] at h
  | succ d =>
    rw [z3r] at h
    split at h
    ·rename_i hk
     simp only [Option.bind_eq_some_iff] at h
     obtain ⟨f,hf,h⟩:=h
     split at h
     ·rename_i hl
      simp only [Option.bind_eq_some_iff] at h
      obtain ⟨r1,h1,h2⟩:=h
      refine ⟨d,f,r1,rfl,hk,hf,hl.1,hl.2,h1,?_⟩
      split at h2<;>cases h2<;>simp_all
     cases h
    cases h
variable {u:Un} {d:Nat} {x:Nd} {a:List Int} {s:Rs} {r:Int × Rs}
theorem z6o (h:mSum u d x a s=some r):∃ d',d=d'+1:=by
  cases d with
  | zero=>simp [mSum] at h
  | succ d=>exact ⟨d,rfl⟩
theorem z98 (h:mSum u (d+1) x a s=some r) (hk:(x.kind==3)=true):∃ a0,a[0]? = some a0/\r=(mOne x.op a0,z57 s):=by
  simp only [mSum,hk,if_true,Option.map_eq_some_iff] at h
  obtain ⟨a0,h1,rfl⟩:=h
  exact ⟨a0,h1,rfl⟩
theorem z99 (h:mSum u (d+1) x a s=some r) (hk:(x.kind==4)=true):∃ a0 a1,a[0]? = some a0/\a[1]? = some a1/\r=((mTwo x.op a0 a1).1,if (mTwo x.op a0 a1).2 then z57 s else { z57 s with st:=2 }):=by
  have h3:(x.kind==3)=false:=by have:=eq_of_beq hk;rw [this];rfl
  simp only [mSum,h3,hk,if_true,Bool.false_eq_true,if_false,Option.map_eq_some_iff,Option.bind_eq_some_iff] at h
  obtain ⟨a0,h1,a1,h2,rfl⟩:=h
  exact ⟨a0,a1,h1,h2,rfl⟩
theorem z8h (h:mSum u (d+1) x a s=some r) (hk:(x.kind==7)=true):z3r u d (z04 x.name u.flows 0) a (z57 s)=some r:=by
  have e:=eq_of_beq hk
  simp only [mSum,e] at h
  exact h
theorem z75 (h:mSum u (d+1) x a s=some r) (hk:(x.kind==9)=true):∃ a0,a[0]? = some a0/\s.out.length<1073741824/\r=(0,{ z57 s with out:=s.out++[a0] }):=by
  have e:=eq_of_beq hk
  simp only [mSum,e] at h
  simp only [show ((9:Int)==3)=false from rfl,show ((9:Int)==4)=false from rfl,show ((9:Int)==5)=false from rfl,show ((9:Int)==6)=false from rfl,show ((9:Int)==7)=false from rfl,show ((9:Int)==9)=true from rfl,if_true,Bool.false_eq_true,if_false,Option.bind_eq_some_iff] at h
  obtain ⟨a0,h1,h2⟩:=h
  split at h2
  ·rename_i h3;cases h2;exact ⟨a0,h1,h3,rfl⟩
  cases h2
theorem z8j (h:mSum u (d+1) x a s=some r) (hk:(x.kind==8)=true):(s.ins=[]/\r=(0,{ z57 s with st:=4 }))∨∃ y q,s.ins=y::q/\r=(y,{ z57 s with ins:=q }):=by
  have e:=eq_of_beq hk
  simp only [mSum,e] at h
  simp only [show ((8:Int)==3)=false from rfl,show ((8:Int)==4)=false from rfl,show ((8:Int)==5)=false from rfl,show ((8:Int)==6)=false from rfl,show ((8:Int)==7)=false from rfl,show ((8:Int)==9)=false from rfl,show ((8:Int)==8)=true from rfl,if_true,Bool.false_eq_true,if_false] at h
  split at h
  ·rename_i h1;cases h;exact .inl ⟨h1,rfl⟩
  rename_i y q h1;cases h;exact .inr ⟨y,q,h1,rfl⟩
theorem z8i (h:mSum u (d+1) x a s=some r) (h3:(x.kind==3)=false) (h4:(x.kind==4)=false) (h5:(x.kind==5)=false) (h6:(x.kind==6)=false) (h7:(x.kind==7)=false) (h9:(x.kind==9)=false) (h8:(x.kind==8)=false):r=(0,z57 s):=by
  simp only [mSum,h3,h4,h5,h6,h7,h8,h9,Bool.false_eq_true,if_false] at h
  cases h;rfl
end
def arI:List (List Int)->IV
  | []=>.pv (.val (.slice none 0 0))
  | _::_=>.bs 1003 1
def arH:List (List Int)->List (Nat × HO)
  | []=>[]
  | r::_=>[(1003,.box [.sl 1004 (r.map eInt).length]),(1004,rowI r)]
def rBox (u:Un) (s:Rs):HO:=.box [.pv (arrs u.arrays),.pv (flws u.flows),.pv (ints s.ins),arI s.ar,iInt s.st,iInt s.code,.sl 1002 (s.out.map eInt).length,iInt s.cost,iInt s.fuel,iBool s.spent]
def rH (u:Un) (s:Rs):List (Nat × HO):=(1001,rBox u s)::(1002,rowI s.out)::arH s.ar
def rHV (u:Un) (s:Rs) (v:List Int):List (Nat × HO):=(1001,rBox u s)::(1002,rowI s.out)::(510,rowI v)::arH s.ar
theorem z5b:PSub (.agg [vInt 0,.val (.slice none 0 0)]) (endv (0,[])):=PSub.agg (ps:=[vInt 0,.val (.slice none 0 0)]) (qs:=[vInt 0,.seq []]) (And.intro (PSub.refl _) (And.intro PSub.nil trivial))
theorem zb9 {v v':List Int} {o x:Int} (h:setV v o x=some v'):0<=o/\o.toNat<v.length/\v'=v.set o.toNat x:=by
  unfold setV at h
  split at h
  ·rename_i h1;cases h;exact ⟨h1.1,h1.2,rfl⟩
  cases h
theorem y24 {u:Un} {d:Nat} {v:List Int} {s:Rs} {r:Rres} (h:z1s u d [] v s=some r):r=((0,[]),v,s):=by
  cases d with
  | zero=>simp [z1s] at h
  | succ d=>simp only [z1s] at h;cases h;rfl
theorem zw3 {s s':Rs} {k n:Int} (h:z8f s k n=some (true,s')):s'=s/\0<=n/\0<=k/\∃ row,s.ar[k.toNat]? = some row/\n<row.length:=by
  unfold z8f at h
  split at h
  ·cases h
  split at h
  ·obtain ⟨row,h1,h2⟩:=Option.bind_eq_some_iff.1 h
   split at h2
   ·cases h2
   cases h2
   exact ⟨rfl,by omega,by omega,row,h1,by omega⟩
  cases h
theorem zd7 {s:Rs} {k n:Int} {q:Bool × Rs} (h:z8f s k n=some q):q.2.ar.length=s.ar.length:=by
  unfold z8f at h
  split at h
  ·cases h;rfl
  split at h
  ·obtain ⟨row,h1,h2⟩:=Option.bind_eq_some_iff.1 h
   split at h2<;>cases h2<;>rfl
  cases h
theorem one_ar {s:Rs} {k:Int} {row:List Int} (h1:s.ar.length<=1) (hk:0<=k) (h:s.ar[k.toNat]? = some row):k=((0:Nat):Int)/\s.ar=[row]:=by
  have h2:=(List.getElem?_eq_some_iff.1 h).1
  have h3:k.toNat=0:=by omega
  rw [h3] at h
  match hs:s.ar,h,h1 with
  | [],h,_=>cases h
  | [r],h,_=>cases h;exact ⟨by omega,rfl⟩
  | _::_::_,_,h1=>simp at h1
theorem z74 {u:Un} {d:Nat} {x:Nd} {a:List Int} {s:Rs} {r:Int × Rs} (h:mSum u (d+1) x a s=some r) (hk:x.kind=5):∃ a0 b s',a[0]? = some a0/\z8f (z57 s) (z0e x.name u.arrays 0) a0=some (b,s') /\
    ((b=false/\r=(0,s'))∨(b=true/\∃ row y,(z57 s).ar[(z0e x.name u.arrays 0).toNat]? = some row/\row[a0.toNat]? = some y/\r=(y,z57 s))):=by
  simp only [mSum,hk,show ((5:Int)==3)=false from rfl,show ((5:Int)==4)=false from rfl,show ((5:Int)==5)=true from rfl,if_true,Bool.false_eq_true,if_false,Option.bind_eq_some_iff] at h
  obtain ⟨a0,h1,⟨b,s'⟩,h2,h5⟩:=h
  refine ⟨a0,b,s',h1,h2,?_⟩
  cases b with
  | false=>exact .inl ⟨rfl,by simpa using h5.symm⟩
  | true =>
    simp only [if_true,Option.bind_eq_some_iff,Option.map_eq_some_iff] at h5
    obtain ⟨row,h6,y,h7,h8⟩:=h5
    exact .inr ⟨rfl,row,y,h6,h7,h8.symm⟩
theorem z65 {u:Un} {d:Nat} {x:Nd} {a:List Int} {s:Rs} {r:Int × Rs} (h:mSum u (d+1) x a s=some r) (hk:x.kind=6):∃ a0 b s',a[0]? = some a0/\z8f (z57 s) (z0e x.name u.arrays 0) a0=some (b,s') /\
    ((b=false/\r=(0,s'))∨(b=true/\∃ row y,(z57 s).ar[(z0e x.name u.arrays 0).toNat]? = some row/\a[1]? = some y/\r=(0,{ z57 s with ar:=(z57 s).ar.set (z0e x.name u.arrays 0).toNat (row.set a0.toNat y) }))):=by
  simp only [mSum,hk,show ((6:Int)==3)=false from rfl,show ((6:Int)==4)=false from rfl,show ((6:Int)==5)=false from rfl,show ((6:Int)==6)=true from rfl,if_true,Bool.false_eq_true,if_false,Option.bind_eq_some_iff] at h
  obtain ⟨a0,h1,⟨b,s'⟩,h2,h5⟩:=h
  refine ⟨a0,b,s',h1,h2,?_⟩
  cases b with
  | false=>exact .inl ⟨rfl,by simpa using h5.symm⟩
  | true =>
    simp only [if_true,Option.bind_eq_some_iff,Option.map_eq_some_iff] at h5
    obtain ⟨y,h6,row,h7,h8⟩:=h5
    exact .inr ⟨rfl,row,y,h7,h6,h8.symm⟩
theorem ba_sz (s:ByteArray):s.data.toList.length=s.size:=rfl
theorem y93 (s:ByteArray):∀ (n i:Nat) (acc:List UInt8),s.size - i=n->ByteArray.toList.loop s i acc=acc.reverse++s.data.toList.drop i
  | 0,i,acc,h=>by
    rw [ByteArray.toList.loop]
    have:¬ i<s.size:=by omega
    rw [if_neg this,List.drop_eq_nil_of_le (by rw [ba_sz];omega)]
    simp
  | n+1,i,acc,h=>by
    rw [ByteArray.toList.loop]
    have hi:i<s.size:=by omega
    rw [if_pos hi,y93 s n (i+1) _ oM0]
    have hi2:i<s.data.toList.length:=by rw [ba_sz];exact hi
    rw [List.drop_eq_getElem_cons hi2]
    have hget:s.get! i=s.data.toList[i]:=by
      show s.data[i]! = _
      rw [getElem!_pos s.data i hi]
      rfl
    simp [hget]
theorem z62 (s:ByteArray):s.toList=s.data.toList:=by
  rw [ByteArray.toList,y93 s _ 0 [] rfl];simp
theorem z9r (s:ByteArray):s.toList.length=s.size:=by rw [z62];rfl
theorem y5j {s:ByteArray} {i:Nat} (h:i<s.toList.length):s[i]? = some (s.toList[i]):=by
  have h2:i<s.size:=by rwa [z9r] at h
  rw [getElem?_pos s i h2]
  congr 1
  simp only [z62]
  rfl
def z6n (n:Int):Bool:=(decide (n ≥ 97)&&decide (n<=122))||(decide (n ≥ 65)&&decide (n<=90))||n==95
def za5 (n:Int):Bool:=decide (n ≥ 48)&&decide (n<=57)
def isLD (b:UInt8):Bool:=z6n b.toNat||za5 b.toNat
def z1e (s:ByteArray):Bool:=s.toList==ByteArray.toList ⟨#[105,110,116]⟩||s.toList==ByteArray.toList ⟨#[98,111,111,108]⟩||s.toList==ByteArray.toList ⟨#[105,102]⟩||s.toList==ByteArray.toList ⟨#[101,108,115,101]⟩||s.toList==ByteArray.toList ⟨#[119,104,105,108,101]⟩||s.toList==ByteArray.toList ⟨#[98,114,101,97,107]⟩||s.toList==ByteArray.toList ⟨#[99,111,110,116,105,110,117,101]⟩||s.toList==ByteArray.toList ⟨#[114,101,116,117,114,110]⟩||s.toList==ByteArray.toList ⟨#[112,114,105,110,116]⟩||s.toList==ByteArray.toList ⟨#[114,101,97,100]⟩||s.toList==ByteArray.toList ⟨#[116,114,117,101]⟩||s.toList==ByteArray.toList ⟨#[102,97,108,115,101]⟩||s.toList==ByteArray.toList ⟨#[105,56]⟩||s.toList==ByteArray.toList ⟨#[105,49,54]⟩||s.toList==ByteArray.toList ⟨#[105,51,50]⟩||s.toList==ByteArray.toList ⟨#[117,56]⟩||s.toList==ByteArray.toList ⟨#[117,49,54]⟩||s.toList==ByteArray.toList ⟨#[117,51,50]⟩
def z3a (s:ByteArray):Bool:=!(s.toList==[])&&decide ((s.size:Int)<=20)&&z6n (s.toList.headD 0).toNat && !z1e s&&s.toList.all isLD
mutual
def wtN:Nd->Nat
  | .mk _ _ _ name args outs params kids=>args.length+outs.length+params.length+name.size+wtK kids
def wtL:List Nd->Nat
  | []=>0
  | x::r=>wtN x+wtL r
def wtK:List (List Nd)->Nat
  | []=>0
  | l::r=>1+(l.length+wtL l)+wtK r
end
theorem y6v (x:Nd):wtN x=x.args.length+x.outs.length+x.params.length+x.name.size+wtK x.kids:=by cases x;simp [wtN,Nd.args,Nd.outs,Nd.params,Nd.kids,Nd.name]
def z37 (l:List Nd):Nat:=l.length+wtL l
def wtA:List Ar->Nat
  | []=>0
  | a::r=>a.name.size+wtA r
def wtF:List Fl->Nat
  | []=>0
  | f::r=>f.name.size+f.types.length+z37 f.body+wtF r
def z0p (u:Un):Nat:=u.arrays.length+u.flows.length+wtA u.arrays+wtF u.flows
def z0b:ByteArray:=⟨#[109,97,105,110]⟩
def gArr (u:Un) (a:Ar) (i:Int):Bool:=z3a a.name && !decide (a.size<1) && !decide (a.size > 1000)&&(z0e a.name u.arrays 0==i) && !decide (z04 a.name u.flows 0 ≥ 0)
def r8gA (u:Un):List Ar->Int->Bool
  | [],_=>true
  | a::r,i=>gArr u a i&&r8gA u r (i+1)
def gFlw (u:Un) (f:Fl) (i:Int):Bool:=z3a f.name&&(z04 f.name u.flows 0==i)&&(f.ty==1||f.ty==2) && !decide (f.params<0) && !decide (f.params > f.types.length)
def r8gF (u:Un):List Fl->Int->Bool
  | [],_=>true
  | f::r,i=>gFlw u f i&&r8gF u r (i+1)
def y1m:Fl:=⟨⟨#[]⟩,0,0,[],[]⟩
def z6r (u:Un):Bool:=decide (z04 z0b u.flows 0 ≥ 0)&&(u.flows.getD (z04 z0b u.flows 0).toNat y1m).ty==1&&(u.flows.getD (z04 z0b u.flows 0).toNat y1m).params==0
def z10 (u:Un):Bool:=r8gA u u.arrays 0&&r8gF u u.flows 0&&z6r u
theorem zi2 (name:ByteArray):∀ (l:List Fl) (i:Int),0<=i->z04 name l i ≥ 0->∃ k:Nat,z04 name l i=i+k/\k<l.length
  | [],i,_,h=>by simp [z04] at h
  | f::r,i,hi,h=>by
    unfold z04 at h ⊢
    split
    · exact ⟨0,by simp,by simp⟩
    · rename_i hne
      rw [if_neg hne] at h
      obtain ⟨k,h1,h2⟩:=zi2 name r (i+1) oM0 h
      exact ⟨k+1,by omega,by simpa using h2⟩
theorem y6e {u:Un}:∀ {l:List Fl} {i:Int},r8gF u l i=true->∀ g∈l,0<=g.params/\g.params<=g.types.length
  | [],_,_,g,hg=>by simp at hg
  | f::r,i,h,g,hg=>by
    simp only [r8gF,Bool.and_eq_true] at h
    rcases List.mem_cons.1 hg with rfl | hg
    · have:=h.1
      simp only [gFlw,Bool.and_eq_true,Bool.not_eq_true',decide_eq_false_iff_not] at this
      omega
    · exact y6e h.2 g hg
theorem z5f {u:Un} (h:z10 u=true):∀ g∈u.flows,0<=g.params/\g.params<=g.types.length:=by
  simp only [z10,Bool.and_eq_true] at h
  exact y6e h.1.2
def z1d:Wh:=⟨false,false,[],[],[]⟩
def iota (n:Nat):List Int:=(List.range n).map fun (i:Nat)=>(i:Int)
def z34 (k n:Nat):List Bool:=List.replicate k true++List.replicate (n - k) false
def z2j (u:Un) (f:Fl):Bool:=!decide (f.params<0) && !decide (f.params > 8) && !decide (f.params > f.types.length) && !decide ((f.types.length:Int) > 20000)&&f.types.all (fun t=>t==1||t==2) &&
  (z1n u f 1 z1d (iota f.params.toNat) (z34 f.params.toNat f.types.length) f.body).1
theorem yb4 (n:Nat):iota n++[(n:Int)]=iota (n+1):=by simp [iota,List.range_succ]
theorem za4 (n:Nat):(iota n).length=n:=by simp [iota]
theorem z2x {k n:Nat} (h:k<=n):(z34 k n).length=n:=by simp [z34];omega
theorem y75 {k n:Nat} (h:k<n):(z34 k n).set k true=z34 (k+1) n:=by
  unfold z34
  rw [List.set_append_right _ _ sI0,List.length_replicate,Nat.sub_self]
  have:n - k=(n - (k+1))+1:=by omega
  rw [this,List.replicate_succ,List.set_cons_zero,List.replicate_succ',List.append_assoc]
  rfl
def z4v (u:Un):List Fl->Int->Int × Int
  | [],_=>(0,0)
  | f::r,i=>if z2j u f then z4v u r (i+1) else (80,i)
def z1a (u:Un):Int × Int:=if z10 u then z4v u u.flows 0 else (1,0)
mutual
theorem ndW_le:∀ x:Nd,ndW x<=1+wtN x
  | .mk k o n s a t p ks=>by
    have:=kdW_le ks
    simp only [ndW,wtN]
    omega
theorem y62:∀ l:List Nd,lsW l<=l.length+wtL l
  | []=>by simp [lsW]
  | x::r=>by
    have h1:=ndW_le x
    have h2:=y62 r
    simp only [lsW,wtL,List.length_cons]
    omega
theorem kdW_le:∀ l:List (List Nd),kdW l<=wtK l
  | []=>by simp [kdW]
  | x::r=>by
    have h1:=y62 x
    have h2:=kdW_le r
    simp only [kdW,wtK]
    omega
end
theorem y5g:∀ {l:List Fl} {f:Fl},f∈l->z37 f.body<=wtF l
  | g::r,f,h=>by
    rcases List.mem_cons.1 h with rfl | h
    · simp only [wtF];omega
    · have:=y5g h;simp only [wtF];omega
theorem zo5 {u:Un} (h:z0p u<=536870912) {f:Fl} (hf:f∈u.flows):lsW f.body<=536870912:=by
  have h1:=y5g hf
  have h2:=y62 f.body
  unfold z0p z37 at *
  omega
def idxP {α:Type} (p:α -> Bool):List α -> Int->Int
  | [],_=>-1
  | x::r,i=>if p x then i else idxP p r (i+1)
theorem zd5 {α:Type} (p:α -> Bool):∀ (l:List α) (i:Int),0<=i->decide (idxP p l i ≥ 0)=l.any p
  | [],_,_=>rfl
  | x::r,i,hi=>by
    unfold idxP
    cases hx:p x with
    | true=>simp [hx,hi]
    | false=>simp [hx,zd5 p r (i+1) oM0]
def eqGo {S:Type} (p:S->Int->Int->Bool × S):S->List Int->List Int->Bool × S
  | s,x::a,y::b=>if (p s x y).1 then eqGo p (p s x y).2 a b else (false,(p s x y).2)
  | s,_,_=>(true,s)
def eqf {S:Type} (p:S->Int->Int->Bool × S) (s:S) (a b:List Int):Bool × S:=if (a.length:Int)=b.length then eqGo p s a b else (false,s)
theorem zk0:∀ l:List Nd,z0r l=l.any z20
  | []=>rfl
  | x::r=>by simp [z0r,zk0 r]
theorem z5q:∀ l:List (List Nd),z2q l=l.any z0r
  | []=>rfl
  | x::r=>by simp [z2q,z5q r]
def zm6 (l:List Nd):Bool:=match l.getLast? with
  | some x=>x.kind==12
  | none=>false
theorem z3l (l:List Nd):(z1b l != 12) = !zm6 l:=by
  unfold z1b zm6
  cases l.getLast? with
  | none=>rfl
  | some x =>
    simp only [z0q]
    by_cases h:x.kind=12
    ·simp [h]
    have hb:(x.kind==12)=false:=by simpa using h
    by_cases h2:(decide (x.kind ≥ 12)&&decide (x.kind<=15))=true
    ·simp only [h2,if_true,bne,hb]
    simp [h2,h]
theorem zv9 (name:ByteArray):∀ (l:List Fl) (i:Int),idxP (fun f:Fl=>f.name.toList==name.toList) l i=z04 name l i
  | [],_=>rfl
  | f::r,i=>by
    unfold idxP z04 eqS
    rw [zv9 name r]
theorem zq9 (name:ByteArray):∀ (l:List Ar) (i:Int),0<=i->decide (z0e name l i ≥ 0)=l.any (fun a:Ar=>a.name.toList==name.toList)
  | [],_,_=>rfl
  | f::r,i,hi=>by
    have ih:=zq9 name r (i+1) oM0
    rw [List.any_cons,<- ih]
    rw [show z0e name (f::r) i=if (f.name.toList==name.toList)=true then i else z0e name r (i+1) from rfl]
    by_cases h:(f.name.toList==name.toList)=true
    ·rw [if_pos h,h];simp [hi]
    rw [if_neg h,(by simpa using h:(f.name.toList==name.toList)=false)];simp
def isTy (t:Int):Bool:=t==1||t==2
def z09 (op:Int):Int × Int :=
  if op==22 then (2,2) else if op==16||op==17 then (0,2) else if decide (op ≥ 12)&&decide (op<=15) then (1,2) else (1,1)
def wSigns:List ByteArray:=[⟨#[]⟩,⟨#[43]⟩,⟨#[45]⟩,⟨#[42]⟩,⟨#[47]⟩,⟨#[37]⟩,⟨#[38]⟩,⟨#[124]⟩,⟨#[94]⟩,⟨#[60,60]⟩,⟨#[62,62]⟩,⟨#[62,62,62]⟩,⟨#[60]⟩,⟨#[60,61]⟩,⟨#[62]⟩,⟨#[62,61]⟩,⟨#[61,61]⟩,⟨#[33,61]⟩,⟨#[38,38]⟩,⟨#[124,124]⟩,⟨#[45]⟩,⟨#[126]⟩,⟨#[33]⟩,⟨#[105,56]⟩,⟨#[105,49,54]⟩,⟨#[105,51,50]⟩,⟨#[117,56]⟩,⟨#[117,49,54]⟩,⟨#[117,51,50]⟩]
def wSign (op:Int):ByteArray:=if op<0||op ≥ 29 then ⟨#[]⟩ else wSigns.getD op.toNat ⟨#[]⟩
def levelTab:List Int:=[0,9,9,10,10,10,5,3,4,8,8,8,7,7,7,7,6,6,2,1,0,0,0,0,0,0,0,0,0]
def z9z (op:Int):Int:=if op<0||op ≥ 29 then 0 else levelTab.getD op.toNat 0
theorem y98 {op:Int} (h0:0<=op) (h1:op<29):op=0∨op=1∨op=2∨op=3∨op=4∨op=5∨op=6∨op=7∨op=8∨op=9∨op=10∨op=11∨op=12∨op=13∨op=14∨op=15∨op=16∨op=17∨op=18∨op=19∨op=20∨op=21∨op=22∨op=23∨op=24∨op=25∨op=26∨op=27∨op=28:=by omega
def ckS (u:Un) (f:Fl) (it:TypeId) (st:List Int):List (Nat × HO):=[(3,.box (y6y u f (st.map eInt).length)),(4,.row ⟨it,1⟩ (st.map eInt))]
def z4y (tys:List Int) (v t:Int):Bool:=decide (0<=v)&&decide (v<tys.length)&&(t==0||tys.getD v.toNat 0==t)
def zi7 (tys:List Int) (st:List Int) (v t:Int):Bool × List Int:=(z4y tys v t&&st.getD v.toNat 0==1,st)
def z3k (tys:List Int) (st:List Int) (v t:Int):Bool × List Int:=if z4y tys v t&&st.getD v.toNat 0==0 then (true,st.set v.toNat 1) else (false,st)
def z0w (tys st l want:List Int):Bool:=(eqf (zi7 tys) st l want).1
def z1h (tys st l want:List Int):Bool × List Int:=eqf (z3k tys) st l want
def z3b (st l:List Int):List Int:=l.foldl (fun s v=>s.set v.toNat 2) st
theorem y2z (tys:List Int):∀ (a b st:List Int),(eqGo (zi7 tys) st a b).2=st
  | [],_,st=>by simp [eqGo]
  | _::_,[],st=>by simp [eqGo]
  | x::a,y::b,st=>by
    simp only [eqGo]
    split
    ·exact y2z tys a b st
    rfl
theorem y8b (tys st a b:List Int):(eqf (zi7 tys) st a b).2=st:=by
  unfold eqf
  split
  ·exact y2z tys a b st
  rfl
theorem z7t (tys st:List Int) (v t:Int):(z3k tys st v t).2.length=st.length:=by
  unfold z3k;split<;>simp
theorem z9x (tys:List Int):∀ (a b st:List Int),(eqGo (z3k tys) st a b).2.length=st.length
  | [],_,st=>by simp [eqGo]
  | _::_,[],st=>by simp [eqGo]
  | x::a,y::b,st=>by
    simp only [eqGo]
    split
    ·rw [z9x tys a b,z7t]
    exact z7t ..
theorem z32 (tys st a b:List Int):(z1h tys st a b).2.length=st.length:=by
  unfold z1h eqf
  split
  ·exact z9x ..
  rfl
theorem z4x:∀ (l st:List Int),(z3b st l).length=st.length
  | [],st=>rfl
  | v::r,st=>by
    have:=z4x r (st.set v.toNat 2)
    simpa [z3b] using this
theorem zx5 (tys:List Int):∀ (a b st:List Int),a.length=b.length->(eqGo (z3k tys) st a b).1=true->∀ v∈a,0<=v/\v<tys.length
  | [],_,st,_,_,v,hv=>by simp at hv
  | _::_,[],_,hl,_,_,_=>by simp at hl
  | x::a,y::b,st,hl,h,v,hv=>by
    simp only [eqGo] at h
    split at h
    ·rename_i h1
     rcases List.mem_cons.1 hv with rfl | hv
     ·unfold z3k at h1
      split at h1
      ·rename_i h2
       simp only [z4y,Bool.and_eq_true,decide_eq_true_eq] at h2
       exact ⟨h2.1.1.1,h2.1.1.2⟩
      cases h1
     exact zx5 tys a b _ (by simpa using hl) h v hv
    cases h
theorem zs5 {tys st a b:List Int} (h:(z1h tys st a b).1=true):∀ v∈a,0<=v/\v<tys.length:=by
  unfold z1h eqf at h
  split at h
  ·exact zx5 tys a b st oM0 h
  cases h
def ckSp (u:Un) (f:Fl) (it:TypeId) (q:Nat) (st:List Int):List (Nat × HO):=(q,.box [.ptr 3 0])::ckS u f it st
theorem y9c {u:Un} {f:Fl} {it:TypeId} {st:List Int} {i:Nat} {z:Int}:∀ k,look ((4,some (.row ⟨it,1⟩ ((st.map eInt).set i [vInt z])))::up (ckS u f it st)) k=look (up (ckS u f it (st.set i z))) k:=by
  intro k
  simp only [ckS,up,List.map_cons,List.map_nil,look,List.length_map,List.length_set]
  by_cases h4:4=k
  ·subst h4
   simp [List.map_set,eInt,show Nat.beq 3 4=false from rfl]
  by_cases h3:3=k
  ·subst h3;simp [show Nat.beq 4 3=false from rfl]
  simp [z25 h3,z25 h4]
theorem ckS_lend {u:Un} {f:Fl} {it:TypeId} {st st':List Int} (h:st'.length=st.length):∀ k ob,look (up (ckS u f it st')) k=some ob->zq5 ob=true∨(k=3/\look (up (ckS u f it st)) k=some ob):=by
  intro k ob hk
  have hm:=z16 hk
  simp only [ckS,List.mem_cons,List.not_mem_nil,or_false,Prod.mk.injEq] at hm
  rcases hm with ⟨rfl,rfl⟩ | ⟨rfl,rfl⟩
  ·exact .inr ⟨rfl,by simp [ckS,up,look,h]⟩
  refine .inl ?_
  simp [zq5,eInt,y6b]
theorem set3 {u:Un} {f:Fl} {st:List Int} {i:Nat} {z:Int} {x:Option HO} (h:x=some (.box (y6y u f (st.map eInt).length))):x=some (.box (y6y u f ((st.set i z).map eInt).length)):=by
  rw [h,show ((st.set i z).map eInt).length=(st.map eInt).length by simp]
theorem set4 {it:TypeId} {st:List Int} {i:Nat} {z:Int} {x:Option HO} (h:x=some (.row ⟨it,1⟩ ((st.map eInt).set i [vInt z]))):x=some (.row ⟨it,1⟩ ((st.set i z).map eInt)):=by
  rw [h,List.map_set];rfl
def andP {S:Type} (b:Bool) (s:S) (r:Bool × S):Bool × S:=if b then r else (false,s)
def andQ {S:Type} (r:Bool × S) (k:S->Bool × S):Bool × S:=if r.1 then k r.2 else (false,r.2)
theorem y8a {tys st a b:List Int} (h:z0w tys st a b=true):a.length=b.length:=by
  unfold z0w eqf at h
  split at h
  · omega
  · cases h
theorem y8c {tys st l:List Int} {t:Int} (h:z0w tys st l [t,t]=true):∃ a b,l=[a,b]/\a=(a.toNat:Int)/\a.toNat<tys.length/\b=(b.toNat:Int)/\b.toNat<tys.length:=by
  have hl:=y8a h
  match l,hl with
  | [a,b],_ =>
    unfold z0w eqf at h
    simp only [List.length_cons,List.length_nil,if_true,eqGo] at h
    split at h
    · rename_i h1
      split at h
      · rename_i h2
        simp only [zi7,z4y,Bool.and_eq_true,decide_eq_true_eq] at h1 h2
        exact ⟨a,b,rfl,by omega,by omega,by omega,by omega⟩
      · cases h
    · cases h
def z3u (f:Fl) (st:List Int) (x:Nd):Bool × List Int :=
  if x.kind==3 then andP (z2a x.op&&z0w f.types st x.args [(z09 x.op).1]) st (z1h f.types st x.outs [(z09 x.op).2])
  else andP (decide (z9z x.op > 0)&&decide (x.op<=17)&&z0w f.types st x.args [(z09 x.op).1,(z09 x.op).1]&&f.types.getD (x.args.getD 0 0).toNat 0==f.types.getD (x.args.getD 1 0).toNat 0) st (z1h f.types st x.outs [(z09 x.op).2])
def z86 (f:Fl) (st:List Int) (x:Nd) (w:Wh):Bool :=
  if x.kind==12 then (x.outs.length:Int)==0&&w.If&&z0w f.types st x.args w.Yield
  else if x.kind==13 then (x.outs.length:Int)==0&&w.Loop&&z0w f.types st x.args w.Next
  else if x.kind==14 then (x.outs.length:Int)==0&&w.Loop&&z0w f.types st x.args w.Left
  else (x.outs.length:Int)==0&&z0w f.types st x.args [f.ty]
def zk4 (u:Un) (f:Fl) (st:List Int) (x:Nd):Bool × List Int :=
  if z04 x.name u.flows 0<0 then (false,st) else
    match u.flows[(z04 x.name u.flows 0).toNat]? with
    | some g=>andP (z0w f.types st x.args (g.types.take g.params.toNat)) st (z1h f.types st x.outs [g.ty])
    | none=>(false,st)
def z24 (u:Un) (f:Fl) (st:List Int) (x:Nd):Bool × List Int :=
  if x.kind==1 then andP (z0w f.types st x.args []) st (z1h f.types st x.outs [1])
  else if x.kind==2 then andP ((x.n==0||x.n==1)&&z0w f.types st x.args []) st (z1h f.types st x.outs [2])
  else if x.kind==3||x.kind==4 then z3u f st x
  else if x.kind==5 then andP (decide (z0e x.name u.arrays 0 ≥ 0)&&z0w f.types st x.args [1]) st (z1h f.types st x.outs [1])
  else if x.kind==6 then andP (decide (z0e x.name u.arrays 0 ≥ 0)&&z0w f.types st x.args [1,1]) st (z1h f.types st x.outs [])
  else if x.kind==8 then andP (z0w f.types st x.args []) st (z1h f.types st x.outs [1])
  else if x.kind==9 then andP (z0w f.types st x.args [1]) st (z1h f.types st x.outs [])
  else if x.kind==7 then zk4 u f st x
  else (false,st)
theorem z7a {b:Bool} {st:List Int} {r:Bool × List Int} (h:r.2.length=st.length):(andP b st r).2.length=st.length:=by
  unfold andP;split
  · exact h
  · rfl
theorem y2y (f:Fl) (st:List Int) (x:Nd):(z3u f st x).2.length=st.length:=by
  unfold z3u;split<;>exact z7a (z32 ..)
theorem y0s (u:Un) (f:Fl) (st:List Int) (x:Nd):(zk4 u f st x).2.length=st.length:=by
  unfold zk4
  split
  · rfl
  · split
    · exact z7a (z32 ..)
    · rfl
theorem zs6 (u:Un) (f:Fl) (st:List Int) (x:Nd):(z24 u f st x).2.length=st.length:=by
  unfold z24
  repeat' split
  all_goals first
    | exact z7a (z32 ..)
    | exact y2y ..
    | exact y0s ..
    | rfl
def z4b (f:Fl) (x:Nd) (st:List Int):Bool × List Int:=andP ((x.outs.length:Int)==0 || !z01 x) st (z1h f.types st x.outs (List.replicate x.outs.length 0))
def z6g (st:List Int) (l:List Nd):List Int:=l.foldl (fun s x=>z3b s x.outs) st
def y2w (l:List Nd) (s:List Int):Bool × List Int:=(decide ((l.length:Int) > 0),z6g s l)
mutual
def z3j (u:Un) (f:Fl) (deep:Int) (w:Wh) (st:List Int):Nd->Bool × List Int
  | .mk kind op n name args outs params kids =>
    if !z12 (.mk kind op n name args outs params kids) then (false,st)
    else if kind==10 then
      match kids with
      | a::b::_ =>
        if z0w f.types st args [2] then
          andQ (andQ (shGo u f (deep+1) ⟨true,w.Loop,r8of f.types outs,w.Next,w.Left⟩ st a) (y2w a)) fun s1 =>
          andQ (andQ (shGo u f (deep+1) ⟨true,w.Loop,r8of f.types outs,w.Next,w.Left⟩ s1 b) (y2w b)) fun s2 =>
          z4b f (.mk kind op n name args outs params kids) s2
        else (false,st)
      | _=>(false,st)
    else if kind==11 then
      if z0w f.types st args (r8of f.types params) then
        andQ (z1h f.types st params (List.replicate params.length 0)) fun s1 =>
        match kids with
        | a::_ =>
          andQ (andQ (shGo u f (deep+1) ⟨false,true,[],r8of f.types params,r8of f.types outs⟩ s1 a) (y2w a)) fun s2 =>
          z4b f (.mk kind op n name args outs params kids) (z3b s2 params)
        | _=>(false,s1)
      else (false,st)
    else if z0q kind then (z86 f st (.mk kind op n name args outs params kids) w,st)
    else z24 u f st (.mk kind op n name args outs params kids)
def shGo (u:Un) (f:Fl) (deep:Int) (w:Wh) (st:List Int):List Nd->Bool × List Int
  | []=>(true,st)
  | x::r =>
    if deep > 100 then (false,st)
    else andQ (z3j u f deep w st x) fun s1 =>
      if z01 x != r.isEmpty then (false,s1)
      else shGo u f deep w s1 r
end
def z1g (u:Un) (f:Fl) (deep:Int) (w:Wh) (st:List Int) (l:List Nd):Bool × List Int:=andQ (shGo u f deep w st l) (y2w l)
theorem z2w {r:Bool × List Int} {k:List Int->Bool × List Int} {n:Nat} (h1:r.2.length=n) (h2:∀ s,s.length=n->(k s).2.length=n):(andQ r k).2.length=n:=by
  unfold andQ;split
  ·exact h2 _ h1
  exact h1
theorem z84:∀ (l:List Nd) (st:List Int),(z6g st l).length=st.length
  | [],_=>rfl
  | x::r,st=>by
    have:=z84 r (z3b st x.outs)
    rw [z4x] at this
    simpa [z6g] using this
theorem zf0 {f:Fl} {x:Nd} {st:List Int} {n:Nat} (h:st.length=n):(z4b f x st).2.length=n:=(z7a (z32 ..)).trans h
theorem z6t {l:List Nd} {s:List Int} {n:Nat} (h:s.length=n):(y2w l s).2.length=n:=(z84 l s).trans h
mutual
theorem ze9 (u:Un) (f:Fl):∀ (x:Nd) (deep:Int) (w:Wh) (st:List Int),(z3j u f deep w st x).2.length=st.length
  | .mk kind op n name args outs params kids,deep,w,st=>by
    unfold z3j
    split
    ·rfl
    split
    ·match kids with
     | []=>rfl
     | [_]=>rfl
     | a::b::_ =>
       simp only
       split
       ·exact z2w (z2w (z6f u f a ..) fun s hs=>z6t hs) fun s hs=>z2w (z2w ((z6f u f b ..).trans hs) fun s hs=>z6t hs) fun s hs=>zf0 hs
       rfl
    split
    ·split
     ·refine z2w (z32 ..) fun s hs=>?_
      match kids with
      | []=>exact hs
      | a::_=>exact z2w (z2w ((z6f u f a ..).trans hs) fun s hs=>z6t hs) fun s hs=>zf0 ((z4x ..).trans hs)
     rfl
    split
    ·rfl
    exact zs6 ..
theorem z6f (u:Un) (f:Fl):∀ (l:List Nd) (deep:Int) (w:Wh) (st:List Int),(shGo u f deep w st l).2.length=st.length
  | [],_,_,_=>by simp [shGo]
  | x::r,deep,w,st=>by
    unfold shGo
    split
    ·rfl
    refine z2w (ze9 u f x ..) fun s hs=>?_
    split
    ·exact hs
    exact (z6f u f r ..).trans hs
end
theorem z7r (u:Un) (f:Fl) (deep:Int) (w:Wh) (st:List Int) (l:List Nd):(z1g u f deep w st l).2.length=st.length:=z2w (z6f ..) fun _ h=>z6t h
theorem zc0 (u:Un) (f:Fl) (deep:Int) (w:Wh) (st:List Int) {x:Nd} (h:z12 x=false):z3j u f deep w st x=(false,st):=by
  cases x;unfold z3j;simp [h]
theorem zs4 (u:Un) (f:Fl) (deep:Int) (w:Wh) (st:List Int) {x:Nd} {a b:List Nd} (h:z12 x=true) (hk:x.kind=10) (hx:x.kids=[a,b]) :
    z3j u f deep w st x=if z0w f.types st x.args [2] then andQ (z1g u f (deep+1) ⟨true,w.Loop,r8of f.types x.outs,w.Next,w.Left⟩ st a) (fun s1=>andQ (z1g u f (deep+1) ⟨true,w.Loop,r8of f.types x.outs,w.Next,w.Left⟩ s1 b) fun s2=>z4b f x s2) else (false,st):=by
  cases x
  simp only [Nd.kind,Nd.kids] at hk hx
  subst hk hx
  unfold z3j
  simp only [h,Bool.not_true,Bool.false_eq_true,if_false,Nd.args,Nd.outs]
  rfl
theorem zc1 (u:Un) (f:Fl) (deep:Int) (w:Wh) (st:List Int) {x:Nd} {a:List Nd} (h:z12 x=true) (hk:x.kind=11) (hx:x.kids=[a]) :
    z3j u f deep w st x=if z0w f.types st x.args (r8of f.types x.params) then andQ (z1h f.types st x.params (List.replicate x.params.length 0)) (fun s1=>andQ (z1g u f (deep+1) ⟨false,true,[],r8of f.types x.params,r8of f.types x.outs⟩ s1 a) fun s2=>z4b f x (z3b s2 x.params)) else (false,st):=by
  cases x
  simp only [Nd.kind,Nd.kids] at hk hx
  subst hk hx
  unfold z3j
  simp only [h,Bool.not_true,Bool.false_eq_true,if_false,Nd.args,Nd.outs,Nd.params]
  rfl
theorem zi6 (u:Un) (f:Fl) (deep:Int) (w:Wh) (st:List Int) {x:Nd} (h:z12 x=true) (h1:(x.kind==10)=false) (h2:(x.kind==11)=false) (h3:z0q x.kind=true):z3j u f deep w st x=(z86 f st x w,st):=by
  cases x
  simp only [Nd.kind] at h1 h2 h3
  unfold z3j
  simp [h,h1,h2,h3]
theorem z7s (u:Un) (f:Fl) (deep:Int) (w:Wh) (st:List Int) {x:Nd} (h:z12 x=true) (h1:(x.kind==10)=false) (h2:(x.kind==11)=false) (h3:z0q x.kind=false):z3j u f deep w st x=z24 u f st x:=by
  cases x
  simp only [Nd.kind] at h1 h2 h3
  unfold z3j
  simp [h,h1,h2,h3]
theorem y1c {S:Type} {b:Bool} {s:S} {r:Bool × S} (h:(andP b s r).1=true):b=true/\r.1=true:=by
  unfold andP at h;split at h
  ·rename_i hb;exact ⟨hb,h⟩
  cases h
theorem z87 {S:Type} {r:Bool × S} {k:S->Bool × S} (h:(andQ r k).1=true):r.1=true/\(k r.2).1=true:=by
  unfold andQ at h;split at h
  ·rename_i hb;exact ⟨hb,h⟩
  cases h
theorem zs7 {f:Fl} {x:Nd} {st:List Int} (h:(z4b f x st).1=true):∀ v∈x.outs,0<=v/\v<f.types.length:=zs5 (y1c h).2
theorem y0t {u:Un} {f:Fl} {st:List Int} {x:Nd} (h:(z24 u f st x).1=true):∀ v∈x.outs,0<=v/\v<f.types.length:=by
  unfold z24 z3u zk4 at h
  repeat' split at h
  all_goals first
    | exact zs5 (y1c h).2
    | cases h
theorem y89 {f:Fl} {st:List Int} {x:Nd} {w:Wh} (h:z86 f st x w=true):x.outs=[]:=by
  unfold z86 at h
  have key:∀ b:Bool,((x.outs.length:Int)==0&&b)=true->x.outs=[]:=fun b hb=>by
    simp only [Bool.and_eq_true,beq_iff_eq] at hb
    exact List.eq_nil_of_length_eq_zero oM0
  repeat' split at h
  all_goals first
    | exact key _ h
    | (rw [Bool.and_assoc] at h;exact key _ h)
theorem y4y {u:Un} {f:Fl} {deep:Int} {w:Wh} {st:List Int} {x:Nd} (h:(z3j u f deep w st x).1=true):∀ v∈x.outs,0<=v/\v<f.types.length:=by
  cases hb:z12 x with
  | false=>rw [zc0 _ _ _ _ _ hb] at h;cases h
  | true =>
    by_cases h10:x.kind=10
    ·obtain ⟨a,b,hk⟩:=z2k hb h10
     rw [zs4 _ _ _ _ _ hb h10 hk] at h
     split at h
     ·exact zs7 (z87 (z87 h).2).2
     cases h
    by_cases h11:x.kind=11
    ·obtain ⟨a,hk⟩:=z1m hb h11
     rw [zc1 _ _ _ _ _ hb h11 hk] at h
     split at h
     ·exact zs7 (z87 (z87 h).2).2
     cases h
    have e10:(x.kind==10)=false:=by simpa using h10
    have e11:(x.kind==11)=false:=by simpa using h11
    cases he:z0q x.kind with
    | true=>rw [zi6 _ _ _ _ _ hb e10 e11 he] at h;intro v hv;rw [y89 h] at hv;simp at hv
    | false=>rw [z7s _ _ _ _ _ hb e10 e11 he] at h;exact y0t h
theorem y2x {u:Un} {f:Fl} {deep:Int} {w:Wh}:∀ {l:List Nd} {st:List Int},(shGo u f deep w st l).1=true->∀ x∈l,∀ v∈x.outs,0<=v/\v<f.types.length
  | [],_,_,x,hx=>by simp at hx
  | y::r,st,h,x,hx=>by
    unfold shGo at h
    split at h
    ·cases h
    obtain ⟨h1,h2⟩:=z87 h
    split at h2
    ·cases h2
    rcases List.mem_cons.1 hx with rfl | hx
    ·exact y4y h1
    exact y2x h2 x hx
theorem yc5:∀ {l:List Nd} {x:Nd},x∈l->ndW x<=lsW l
  | y::r,x,h=>by
    rcases List.mem_cons.1 h with rfl | h
    ·simp only [lsW];omega
    have:=yc5 h;simp only [lsW];omega
theorem za6:∀ {ks:List (List Nd)} {q:List Nd},q∈ks->lsW q<=kdW ks
  | y::r,x,h=>by
    rcases List.mem_cons.1 h with rfl | h
    ·simp only [kdW];omega
    have:=za6 h;simp only [kdW];omega
def z8y (k n:Nat):List Int:=List.replicate k 1++List.replicate (n - k) 0
def z9w (u:Un) (f:Fl):Bool:=!(decide (f.params > 8)||decide ((f.types.length:Int) > 20000)||f.types.any (fun t=>!isTy t))&&(z1g u f 1 z1d (z8y f.params.toNat f.types.length) f.body).1
theorem z8z {k n:Nat} (h:k<=n):(z8y k n).length=n:=by simp [z8y];omega
theorem yh6 {k n:Nat} (h:k<n):(z8y k n).set k 1=z8y (k+1) n:=by
  unfold z8y
  rw [List.set_append_right _ _ sI0,List.length_replicate,Nat.sub_self]
  have:n - k=(n - (k+1))+1:=by omega
  rw [this,List.replicate_succ,List.set_cons_zero,List.replicate_succ',List.append_assoc]
  rfl
def bump (s:ByteArray) (es:List (Value × PV)):List (Value × PV) :=
  mput (.string s) (match z4m (.string s) es with | some (.val (.int .i64 n))=>.val (.int .i64 (IntKind.i64.wrap (n+1))) | _=>.val (.int .i64 1)) es
def zk7 (a:Ar):Bool:=z3a a.name && !decide (a.size<1) && !decide (a.size > 1000)
def ze7 (f:Fl):Bool:=z3a f.name&&isTy f.ty && !decide (f.params<0) && !decide (f.params > f.types.length)
def zn6 (es:List (Value × PV)) (l:List Ar):List (Value × PV):=l.foldl (fun e a=>bump a.name e) es
def zu8 (es:List (Value × PV)) (l:List Fl):List (Value × PV):=l.foldl (fun e a=>bump a.name e) es
def z6u (u:Un):Bool:=u.arrays.all zk7&&u.flows.all ze7&&((zu8 (zn6 [] u.arrays) u.flows).length:Int)==u.arrays.length+u.flows.length&&z6r u
def z7u (u:Un):List Fl->Int->Int × Int
  | [],_=>(0,0)
  | f::r,i=>if z9w u f then z7u u r (i+1) else (80,i)
def z53 (u:Un):Int × Int:=if z6u u then z7u u u.flows 0 else (1,0)
theorem ze8 {u:Un} (h:z6u u=true):∀ g∈u.flows,0<=g.params/\g.params<=g.types.length:=by
  simp only [z6u,Bool.and_eq_true,List.all_eq_true] at h
  intro g hg
  have:=h.1.1.2 g hg
  simp only [ze7,Bool.and_eq_true,Bool.not_eq_true',decide_eq_false_iff_not] at this
  omega
theorem zf3 {α:Type} {p:α -> Bool}:∀ {l:List α} {k:Nat} {x:α},(l.take k).all p=true->l[k]? = some x->p x=false->(l.takeWhile p).length=k/\l.all p=false
  | [],k,x,_,h,_=>by simp at h
  | a::r,0,x,_,h,hx=>by
    simp only [List.getElem?_cons_zero,Option.some.injEq] at h
    subst h
    simp [hx]
  | a::r,k+1,x,h,hg,hx=>by
    simp only [List.take_succ_cons,List.all_cons,Bool.and_eq_true] at h
    obtain ⟨h1,h2⟩:=zf3 h.2 (by simpa using hg) hx
    simp [h.1,h1,h2]
def y7u (s:ByteArray):ByteArray:=if s.toList.all isLD then s else s.extract 0 (s.toList.takeWhile isLD).length
theorem runOf_at {s:ByteArray} {k:Nat} {b:UInt8} (h:(s.toList.take k).all isLD=true) (hb:s.toList[k]? = some b) (hn:isLD b=false):y7u s=s.extract 0 k:=by
  obtain ⟨h1,h2⟩:=zf3 h hb hn
  simp [y7u,h1,h2]
theorem runOf_eq (s:ByteArray):((y7u s).toList==s.toList)=s.toList.all isLD:=by
  unfold y7u
  cases h:s.toList.all isLD with
  | true=>simp
  | false =>
    simp only [Bool.false_eq_true,if_false]
    have hlt:(s.toList.takeWhile isLD).length<s.toList.length:=by
      rcases Nat.lt_or_ge (s.toList.takeWhile isLD).length s.toList.length with h1 | h1
      ·exact h1
      have hp:=List.takeWhile_prefix (l:=s.toList) isLD
      have he:=hp.eq_of_length_le h1
      have:s.toList.all isLD=true:=by rw [<- he];exact List.all_takeWhile
      rw [h] at this;cases this
    have hne:(s.extract 0 (s.toList.takeWhile isLD).length).toList≠s.toList:=by
      intro he
      have:=congrArg List.length he
      rw [z9r,ByteArray.size_extract,z9r] at this
      rw [z9r] at hlt
      omega
    simpa using hne
theorem y6z {s:ByteArray} {k:Nat} (h:k<s.toList.length):((s.toList[k]).toNat<128->Utf8.decode s k=((s.toList[k]).toNat,1))/\(128<=(s.toList[k]).toNat->128<=(Utf8.decode s k).1):=by
  have hk:k<s.size:=by rwa [z9r] at h
  have e0:s.get! (k+0)=s.toList[k]:=by
    have h2:=y5j h
    rw [getElem?_pos s k hk] at h2
    rw [<- Option.some.inj h2]
    show s.get! k=_
    simp [ByteArray.get!,getElem!_pos,hk]
    rfl
  refine ⟨fun hb=>?_,fun hb=>?_⟩
  ·simp only [Utf8.decode,e0,hb,if_true]
  have hn:¬ (s.toList[k]).toNat<128:=by omega
  simp only [Utf8.decode,e0]
  rw [if_neg (by simpa using hn)]
  repeat' split
  all_goals first
    | (simp [Utf8.runeError];done)
    | (rename_i hc;simp only [ge_iff_le,Bool.and_eq_true,decide_eq_true_eq] at hc;simp only;omega)
def zt8 (r:Int):Bool:=z6n r||za5 r
theorem y1x {r:Int} (h:zt8 r=true):r<128:=by
  simp only [zt8,z6n,za5,Bool.or_eq_true,Bool.and_eq_true,decide_eq_true_eq,beq_iff_eq] at h
  omega
theorem zn9 {s:ByteArray} {k:Nat} (h:k<s.toList.length):(zt8 (Utf8.decode s k).1=true->(Utf8.decode s k).2=1/\isLD s.toList[k]=true)/\(zt8 (Utf8.decode s k).1=false->isLD s.toList[k]=false):=by
  obtain ⟨h1,h2⟩:=y6z h
  by_cases hb:(s.toList[k]).toNat<128
  ·rw [h1 hb]
   exact ⟨fun h=>⟨rfl,h⟩,fun h=>h⟩
  have h3:=h2 oM0
  refine ⟨fun hl=>?_,fun _=>?_⟩
  ·have:=y1x hl;omega
  cases hd:isLD s.toList[k] with
  | false=>rfl
  | true=>have:=y1x (r:=((s.toList[k]).toNat:Int)) hd;omega
def Cnt (es:List (Value × PV)):Prop:=(∀ e∈es,z2d .string e.1=true)/\∀ e∈es,∃ n,e.2=vInt n
theorem y04 {k:Value} {v:PV}:∀ {es:List (Value × PV)} {e:Value × PV},e∈mput k v es->e=(k,v)∨e∈es
  | [],e,h=>by simp [mput] at h;exact .inl h
  | (a,p)::r,e,h=>by
    simp only [mput] at h
    split at h
    ·rcases List.mem_cons.1 h with rfl | h
     ·exact .inl rfl
     exact .inr (.tail _ h)
    rcases List.mem_cons.1 h with rfl | h
    ·exact .inr (.head _)
    rcases y04 h with h | h
    ·exact .inl h
    exact .inr (.tail _ h)
theorem y26 {k:Value} {p:PV}:∀ {es:List (Value × PV)},z4m k es=some p->∃ a,(a,p)∈es
  | (a,q)::r,h=>by
    simp only [z4m] at h
    split at h
    ·cases h;exact ⟨a,.head _⟩
    obtain ⟨b,hb⟩:=y26 h;exact ⟨b,.tail _ hb⟩
theorem Cnt.find {es:List (Value × PV)} (h:Cnt es) (k:Value):∃ n,(z4m k es).getD (.val (.int .i64 0))=vInt n:=by
  cases hf:z4m k es with
  | none=>exact ⟨0,rfl⟩
  | some p=>obtain ⟨a,ha⟩:=y26 hf;obtain ⟨n,hn⟩:=h.2 _ ha;exact ⟨n,hn⟩
theorem zy3 {es:List (Value × PV)} {s:ByteArray} {n:Int} (h:(z4m (.string s) es).getD (.val (.int .i64 0))=vInt n):bump s es=mput (.string s) (vInt (IntKind.i64.wrap (n+1))) es:=by
  unfold bump
  cases hf:z4m (.string s) es with
  | none =>
    rw [hf] at h
    simp only [Option.getD_none,vInt,PV.val.injEq,Value.int.injEq,true_and] at h
    subst h
    rfl
  | some p =>
    rw [hf] at h
    simp only [Option.getD_some] at h
    subst h
    rfl
theorem Cnt.bump {es:List (Value × PV)} (h:Cnt es) (s:ByteArray):Cnt (bump s es):=by
  obtain ⟨n,hn⟩:=h.find (.string s)
  rw [zy3 hn]
  refine ⟨fun e he=>?_,fun e he=>?_⟩
  ·rcases y04 he with rfl | he
   ·rfl
   exact h.1 e he
  rcases y04 he with rfl | he
  ·exact ⟨_,rfl⟩
  exact h.2 e he
theorem Cnt.nil:Cnt []:=⟨fun _ h=>by simp at h,fun _ h=>by simp at h⟩
structure Rl (n:Nat) (st:List Int) (set:List Bool) (seen:List Int):Prop where
  l1:st.length=n
  l2:set.length=n
  s:∀ v:Nat,v<n->set.getD v false = !(st.getD v 0==0)
  u:∀ v:Nat,v<n->seen.contains (v:Int)=(st.getD v 0==1)
theorem zd3 {α:Type} {l:List α} {i j:Nat} {a d:α}:(l.set i a).getD j d=if i=j/\i<l.length then a else l.getD j d:=by
  simp only [List.getD_eq_getElem?_getD,List.getElem?_set]
  by_cases h:i=j
  ·subst h
   by_cases h2:i<l.length
   ·simp [h2]
   simp [h2]
  simp [h]
theorem use_rl {tys st:List Int} {set:List Bool} {seen:List Int} (h:Rl tys.length st set seen) (v w:Int):z5t tys seen v w=(zi7 tys st v w).1:=by
  unfold z5t zi7 z4y
  by_cases h0:0<=v
  ·by_cases h1:v<tys.length
   ·have hv:v=(v.toNat:Int):=by omega
    have hu:=h.u v.toNat oM0
    rw [<- hv] at hu
    have e1:decide (v<0)=false:=by simpa using h0
    have e2:decide (v ≥ tys.length)=false:=by simpa using h1
    have e3:decide (0<=v)=true:=by simpa using h0
    have e4:decide (v<tys.length)=true:=by simpa using h1
    simp only [e1,e2,e3,e4,hu,Bool.false_or,Bool.true_and]
    clear hv e1 e2 e3 e4
    cases hw:(w==0)<;>cases ht:(tys.getD v.toNat 0==w)<;>cases hs:(st.getD v.toNat 0==1)<;>simp_all [bne]
   have e2:decide (v ≥ tys.length)=true:=by simp;omega
   have e4:decide (v<tys.length)=false:=by simp;omega
   simp [e2,e4]
  have e1:decide (v<0)=true:=by simp;omega
  have e3:decide (0<=v)=false:=by simp;omega
  simp [e1,e3]
theorem y39 {tys st:List Int} {set:List Bool} {seen:List Int} (h:Rl tys.length st set seen):∀ (a b:List Int),z0u tys seen a b=(eqGo (zi7 tys) st a b).1
  | [],_=>by simp [z0u,eqGo]
  | _::_,[]=>by simp [z0u,eqGo]
  | x::a,y::b=>by
    simp only [z0u,eqGo,use_rl h x y]
    have h2:(zi7 tys st x y).2=st:=rfl
    cases hx:(zi7 tys st x y).1 with
    | true=>simp [h2,y39 h a b]
    | false=>simp
theorem y5c {tys st:List Int} {set:List Bool} {seen:List Int} (h:Rl tys.length st set seen) (a b:List Int):z02 tys seen a b=z0w tys st a b:=by
  unfold z02 z0w eqf
  by_cases hl:(a.length:Int)=b.length
  ·rw [if_pos hl]
   have:((a.length:Int)==b.length)=true:=by simpa using hl
   rw [this,Bool.true_and,y39 h]
  rw [if_neg hl]
  have:((a.length:Int)==b.length)=false:=by simpa using hl
  rw [this,Bool.false_and]
theorem set1_rl {tys st:List Int} {set:List Bool} {seen:List Int} (h:Rl tys.length st set seen) (v w:Int) :
    z7m tys set v w = !(z3k tys st v w).1/\((z3k tys st v w).1=true->Rl tys.length (z3k tys st v w).2 (set.set v.toNat true) (seen++[v])/\0<=v/\v<tys.length/\seen.contains v=false):=by
  unfold z7m z3k z4y
  by_cases h0:0<=v
  ·by_cases h1:v<tys.length
   ·have hv:v=(v.toNat:Int):=by omega
    have hn:v.toNat<tys.length:=by omega
    have hs:=h.s v.toNat hn
    have hu:=h.u v.toNat hn
    rw [<- hv] at hu
    have e1:decide (v<0)=false:=by simpa using h0
    have e2:decide (v ≥ tys.length)=false:=by simpa using h1
    have e3:decide (0<=v)=true:=by simpa using h0
    have e4:decide (v<tys.length)=true:=by simpa using h1
    simp only [e1,e2,e3,e4,hs,Bool.false_or,Bool.true_and]
    refine ⟨by clear hv e1 e2 e3 e4;cases hw:(w==0)<;>cases ht:(tys.getD v.toNat 0==w)<;>cases hz:(st.getD v.toNat 0==0)<;>simp_all [bne],fun hc=>?_⟩
    split at hc
    ·rename_i hif
     rw [if_pos hif]
     simp only [Bool.and_eq_true] at hif
     have hz:st.getD v.toNat 0=0:=by simpa using hif.2
     refine ⟨⟨by simpa using h.l1,by simpa using h.l2,fun j hj=>?_,fun j hj=>?_⟩,h0,h1,by rw [hu,hz];rfl⟩
     ·rw [zd3,zd3]
      by_cases e:v.toNat=j
      ·subst e;simp [h.l1,h.l2,hn]
      simp only [e,false_and,if_false];exact h.s j hj
     rw [zd3]
     simp only [List.contains_append,List.contains_cons,List.contains_nil,Bool.or_false]
     by_cases e:v.toNat=j
     ·subst e
      have:((v.toNat:Int)==v)=true:=by simpa using hv.symm
      rw [this,Bool.or_true,if_pos ⟨rfl,by rw [h.l1];exact hn⟩];rfl
     have:((j:Int)==v)=false:=by simp;omega
     simp only [e,false_and,if_false,this,Bool.or_false]
     exact h.u j hj
    cases hc
   have e2:decide (v ≥ tys.length)=true:=by simp;omega
   have e4:decide (v<tys.length)=false:=by simp;omega
   simp [e2,e4]
  have e1:decide (v<0)=true:=by simp;omega
  have e3:decide (0<=v)=false:=by simp;omega
  simp [e1,e3]
theorem y2v {tys:List Int}:∀ (a b st:List Int) (set:List Bool) (seen:List Int),a.length=b.length->Rl tys.length st set seen ->
    (z1v tys set a b).1=(eqGo (z3k tys) st a b).1/\((eqGo (z3k tys) st a b).1=true->Rl tys.length (eqGo (z3k tys) st a b).2 (z1v tys set a b).2 (seen++a)/\∀ v∈a,0<=v/\v<tys.length/\seen.contains v=false)
  | [],_,st,set,seen,_,h=>by simp [z1v,eqGo];exact h
  | _::_,[],_,_,_,hl,_=>by simp at hl
  | x::a,y::b,st,set,seen,hl,h=>by
    obtain ⟨h1,h2⟩:=set1_rl h x y
    simp only [z1v,eqGo,h1]
    cases hx:(z3k tys st x y).1 with
    | false=>simp
    | true =>
      obtain ⟨h3,h4,h5,h6⟩:=h2 hx
      obtain ⟨ih1,ih2⟩:=y2v a b _ _ _ (by simpa using hl) h3
      simp only [Bool.not_true,Bool.false_eq_true,if_false,if_true]
      refine ⟨ih1,fun hc=>?_⟩
      obtain ⟨h7,h8⟩:=ih2 hc
      refine ⟨by simpa using h7,fun v hv=>?_⟩
      rcases List.mem_cons.1 hv with rfl | hv
      ·exact ⟨h4,h5,h6⟩
      obtain ⟨g1,g2,g3⟩:=h8 v hv
      refine ⟨g1,g2,?_⟩
      rw [List.contains_append,Bool.or_eq_false_iff] at g3
      exact g3.1
theorem yh9 {tys st:List Int} {set:List Bool} {seen:List Int} (h:Rl tys.length st set seen) (a b:List Int) :
    (z1o tys set a b).1=(z1h tys st a b).1/\((z1h tys st a b).1=true->Rl tys.length (z1h tys st a b).2 (z1o tys set a b).2 (seen++a)/\∀ v∈a,0<=v/\v<tys.length/\seen.contains v=false):=by
  unfold z1o z1h eqf
  by_cases hl:(a.length:Int)=b.length
  ·have e:((a.length:Int)==b.length)=true:=by simpa using hl
   rw [if_pos hl,if_pos e]
   exact y2v a b st set seen oM0 h
  have e:¬ ((a.length:Int)==b.length)=true:=by simpa using hl
  rw [if_neg hl,if_neg e]
  simp
theorem ya8 {n:Nat}:∀ (l st:List Int) (set:List Bool) (seen rest:List Int),(∀ v∈l,0<=v/\v<n/\rest.contains v=false)->(∀ v∈l,st.getD v.toNat 0≠0)->st.length=n->set.length=n ->
    (∀ v:Nat,v<n->set.getD v false = !(st.getD v 0==0))->(∀ v:Nat,v<n->l.contains (v:Int)=false->rest.contains (v:Int)=(st.getD v 0==1))->Rl n (z3b st l) set rest
  | [],st,set,_,rest,_,_,h1,h2,h3,h4=>⟨h1,h2,h3,fun v hv=>h4 v hv rfl⟩
  | x::l,st,set,seen,rest,hin,hnz,h1,h2,h3,h4=>by
    obtain ⟨hx0,hx1,hx2⟩:=hin x (.head _)
    have hxn:x.toNat<n:=by omega
    show Rl n (z3b (st.set x.toNat 2) l) set rest
    have hg:∀ j,(st.set x.toNat 2).getD j 0=if x.toNat=j then 2 else st.getD j 0:=fun j=>by
      rw [zd3];simp [h1,hxn]
    -- hidden values are no more among the seen
    have key:∀ v:Nat,v<n->l.contains (v:Int)=false->rest.contains (v:Int)=((st.set x.toNat 2).getD v 0==1):=by
      intro v hv hl
      rw [hg]
      by_cases e:x.toNat=v
      ·have hv2:(v:Int)=x:=by omega
       rw [if_pos e,hv2,hx2];rfl
      rw [if_neg e]
      refine h4 v hv ?_
      have:((v:Int)==x)=false:=by simp;omega
      rw [List.contains_cons,this,hl];rfl
    refine ya8 l (st.set x.toNat 2) set seen rest (fun v hv=>hin v (.tail _ hv)) (fun v hv=>?_) (by simpa using h1) h2 (fun v hv=>?_) key
    ·rw [hg];split
     ·decide
     exact hnz v (.tail _ hv)
    rw [hg,h3 v hv]
    split
    ·rename_i e
     have:=hnz x (.head _)
     rw [e] at this
     have hb:(st.getD v 0==0)=false:=by simpa using this
     rw [hb];rfl
    rfl
def PR (n:Nat) (seen outs:List Int) (r:Bool × List Int) (q:Bool × List Bool):Prop :=
  q.1=r.1/\(r.1=true->Rl n r.2 q.2 (seen++outs)/\∀ v∈outs,0<=v/\v<n/\seen.contains v=false)
theorem PR.no {n:Nat} {seen outs:List Int} {st:List Int} {set:List Bool}:PR n seen outs (false,st) (false,set):=⟨rfl,fun h=>by cases h⟩
theorem zj2 {tys st:List Int} {set:List Bool} {seen:List Int} (h:Rl tys.length st set seen) {b b':Bool} (hb:b=b') (outs want:List Int):PR tys.length seen outs (andP b st (z1h tys st outs want)) (andS b' set (z1o tys set outs want)):=by
  subst hb
  cases b with
  | false=>exact .no
  | true=>exact yh9 h outs want
theorem nil_rl {tys st:List Int} {set:List Bool} {seen:List Int} (h:Rl tys.length st set seen) {b b':Bool} (hb:b=b') (outs:List Int):PR tys.length seen outs (andP b st (z1h tys st outs [])) (b'&&(outs.length:Int)==0,set):=by
  subst hb
  cases b with
  | false=>exact .no
  | true =>
    cases outs with
    | nil=>exact ⟨rfl,fun _=>⟨by rw [List.append_nil];exact h,fun v hv=>by simp at hv⟩⟩
    | cons v r =>
      have e:¬ (((v::r).length:Int)=(([]:List Int).length:Int)):=by simp;omega
      have e2:(((v::r).length:Int)==0)=false:=by simp;omega
      simp only [andP,if_true,z1h,eqf,if_neg e,e2,Bool.and_false]
      exact .no
theorem y5m {n:Nat} {st:List Int} {set:List Bool} {seen:List Int} (h:Rl n st set seen) {b b':Bool} (hb:b=b') {outs:List Int} (ho:b=true->outs=[]):PR n seen outs (b,st) (b',set):=by
  subst hb
  refine ⟨rfl,fun hb=>?_⟩
  rw [ho hb]
  exact ⟨by simpa using h,fun v hv=>by simp at hv⟩
theorem y4c {op:Int} (h:z1t op=true):z09 op=z0a op:=by
  simp only [z1t,Bool.and_eq_true,decide_eq_true_eq] at h
  have h18:(op==18)=false:=by simp;omega
  have h19:(op==19)=false:=by simp;omega
  have h22:(op==22)=false:=by simp;omega
  simp only [z09,z0a,h18,h19,h22,Bool.or_false,Bool.false_eq_true,if_false]
theorem y4b {op:Int} (h:z2a op=true):z09 op=z0a op:=by
  simp only [z2a,Bool.and_eq_true,decide_eq_true_eq] at h
  have h18:(op==18)=false:=by simp;omega
  have h19:(op==19)=false:=by simp;omega
  simp only [z09,z0a,h18,h19,Bool.false_or]
theorem yc1 (op:Int):(decide (z9z op > 0)&&decide (op<=17))=z1t op:=by
  by_cases h0:op<0
  ·have:z9z op=0:=by simp [z9z,h0]
   have h2:z1t op=false:=by simp [z1t];omega
   rw [this,h2];rfl
  by_cases h1:op ≥ 29
  ·have:z9z op=0:=by simp [z9z,h1]
   have h2:z1t op=false:=by simp [z1t];omega
   rw [this,h2];rfl
  rcases y98 (op:=op) oM0 oM0 with rfl | rfl | rfl | rfl | rfl | rfl | rfl | rfl | rfl | rfl | rfl | rfl | rfl | rfl | rfl | rfl | rfl | rfl | rfl | rfl | rfl | rfl | rfl | rfl | rfl | rfl | rfl | rfl | rfl<;>rfl
theorem yi5 (u:Un) (f:Fl) {st:List Int} {set:List Bool} {seen:List Int} (h:Rl f.types.length st set seen) (x:Nd) (w:Wh) :
    PR f.types.length seen x.outs (if z0q x.kind then (z86 f st x w,st) else z24 u f st x) (z1c u f set x seen w):=by
  have U:=fun want=>(y5c h x.args want).symm
  have hlen:∀ b,z0w f.types st x.args []=b->((x.args.length:Int)==0)=b:=fun b hb=>by
    rw [<- hb]
    unfold z0w eqf
    cases x.args with
    | nil=>rfl
    | cons a r =>
      have e:¬ (((a::r).length:Int)=(([]:List Int).length:Int)):=by simp;omega
      have e2:(((a::r).length:Int)==0)=false:=by simp;omega
      rw [if_neg e,e2]
  unfold z1c z24 z86 z3u zk4 z8t
  by_cases k1:x.kind=1
  ·simp only [k1,z0q];exact zj2 h (U _) _ _
  by_cases k2:x.kind=2
  ·simp only [k2,z0q];exact zj2 h (by rw [U]) _ _
  by_cases k3:x.kind=3
  ·simp only [k3,z0q]
   cases ho:z2a x.op with
   | false=>exact .no
   | true=>rw [y4b ho];exact zj2 h (by rw [U]) _ _
  by_cases k4:x.kind=4
  ·simp only [k4,z0q,yc1]
   cases ho:z1t x.op with
   | false=>exact .no
   | true=>rw [y4c ho];exact zj2 h (by rw [U]) _ _
  by_cases k5:x.kind=5
  ·simp only [k5,z0q];exact zj2 h (by rw [U]) _ _
  by_cases k6:x.kind=6
  ·simp only [k6,z0q];exact nil_rl h (by rw [U]) _
  by_cases k7:x.kind=7
  ·simp only [k7,z0q]
   by_cases hp:z04 x.name u.flows 0<0
   ·have e:¬ (decide (z04 x.name u.flows 0 ≥ 0))=true:=by simp;omega
    simp only [if_pos hp,if_neg e]
    exact .no
   have e:(decide (z04 x.name u.flows 0 ≥ 0))=true:=by simp;omega
   simp only [if_neg hp,if_pos e]
   cases u.flows[(z04 x.name u.flows 0).toNat]? with
   | none=>exact .no
   | some g=>exact zj2 h (U _) _ _
  by_cases k8:x.kind=8
  ·simp only [k8,z0q];exact zj2 h (hlen _ rfl).symm _ _
  by_cases k9:x.kind=9
  ·simp only [k9,z0q];exact nil_rl h (U _) _
  have out0:∀ c:Bool,((x.outs.length:Int)==0&&c)=true->x.outs=[]:=fun c hc=>by
    simp only [Bool.and_eq_true,beq_iff_eq] at hc
    exact List.eq_nil_of_length_eq_zero oM0
  by_cases k12:x.kind=12
  ·simp only [k12,z0q]
   show PR _ _ _ ((x.outs.length:Int)==0&&w.If&&z0w f.types st x.args w.Yield,st) (w.If&&z02 f.types seen x.args w.Yield&&(x.outs.length:Int)==0,set)
   exact y5m h (by rw [<- U];cases (w.If)<;>cases ((x.outs.length:Int)==0)<;>simp) (fun hb=>by rw [Bool.and_assoc] at hb;exact out0 _ hb)
  by_cases k13:x.kind=13
  ·simp only [k13,z0q]
   show PR _ _ _ ((x.outs.length:Int)==0&&w.Loop&&z0w f.types st x.args w.Next,st) (w.Loop&&z02 f.types seen x.args w.Next&&(x.outs.length:Int)==0,set)
   exact y5m h (by rw [<- U];cases (w.Loop)<;>cases ((x.outs.length:Int)==0)<;>simp) (fun hb=>by rw [Bool.and_assoc] at hb;exact out0 _ hb)
  by_cases k14:x.kind=14
  ·simp only [k14,z0q]
   show PR _ _ _ ((x.outs.length:Int)==0&&w.Loop&&z0w f.types st x.args w.Left,st) (w.Loop&&z02 f.types seen x.args w.Left&&(x.outs.length:Int)==0,set)
   exact y5m h (by rw [<- U];cases (w.Loop)<;>cases ((x.outs.length:Int)==0)<;>simp) (fun hb=>by rw [Bool.and_assoc] at hb;exact out0 _ hb)
  by_cases k15:x.kind=15
  ·simp only [k15,z0q]
   show PR _ _ _ ((x.outs.length:Int)==0&&z0w f.types st x.args [f.ty],st) (z02 f.types seen x.args [f.ty]&&(x.outs.length:Int)==0,set)
   exact y5m h (by rw [<- U];exact Bool.and_comm _ _) (fun hb=>out0 _ hb)
  have e1:(x.kind==1)=false:=by simpa using k1
  have e2:(x.kind==2)=false:=by simpa using k2
  have e3:(x.kind==3)=false:=by simpa using k3
  have e4:(x.kind==4)=false:=by simpa using k4
  have e5:(x.kind==5)=false:=by simpa using k5
  have e6:(x.kind==6)=false:=by simpa using k6
  have e7:(x.kind==7)=false:=by simpa using k7
  have e8:(x.kind==8)=false:=by simpa using k8
  have e9:(x.kind==9)=false:=by simpa using k9
  have e12:(x.kind==12)=false:=by simpa using k12
  have e13:(x.kind==13)=false:=by simpa using k13
  have e14:(x.kind==14)=false:=by simpa using k14
  have e15:(x.kind==15)=false:=by simpa using k15
  have ee:z0q x.kind=false:=by simp [z0q];omega
  simp only [e1,e2,e3,e4,e5,e6,e7,e8,e9,e12,e13,e14,e15,ee,Bool.false_eq_true,if_false,Bool.or_false]
  exact .no
theorem zv8:∀ (l:List Nd) (st:List Int),z6g st l=z3b st (l.flatMap Nd.outs)
  | [],_=>rfl
  | x::r,st=>by
    have:=zv8 r (z3b st x.outs)
    simp only [z6g,List.foldl_cons,List.flatMap_cons,z3b,List.foldl_append] at this ⊢
    exact this
theorem y1t {n:Nat} {st:List Int} {set:List Bool} {all l:List Int} (h:Rl n st set (all++l)) (hl:∀ v∈l,0<=v/\v<n/\all.contains v=false):Rl n (z3b st l) set all:=by
  refine ya8 l st set [] all hl (fun v hv=>?_) h.l1 h.l2 h.s (fun v hv hc=>?_)
  ·obtain ⟨h0,h1,_⟩:=hl v hv
   have hu:=h.u v.toNat oM0
   have hc:(all++l).contains ((v.toNat:Nat):Int)=true:=by
     rw [show ((v.toNat:Nat):Int)=v by omega]
     simp [hv]
   rw [hc] at hu
   have:st.getD v.toNat 0=1:=by simpa using hu.symm
   rw [this];decide
  have hu:=h.u v hv
  rw [List.contains_append,hc,Bool.or_false] at hu
  exact hu
def LR (u:Un) (f:Fl) (l:List Nd):Prop:=∀ (deep:Int) (w:Wh) (st:List Int) (set:List Bool) (seen:List Int),Rl f.types.length st set seen ->
  (z1n u f deep w seen set l).1=(z1g u f deep w st l).1/\((z1g u f deep w st l).1=true->Rl f.types.length (z1g u f deep w st l).2 (z1n u f deep w seen set l).2 seen)
theorem zn1 {n:Nat} {seen outs:List Int} {r:Bool × List Int} {q:Bool × List Bool} {k:List Int->Bool × List Int} {k':List Bool->Bool × List Bool} (h:q.1=r.1) (hk:r.1=true->PR n seen outs (k r.2) (k' q.2)):PR n seen outs (andQ r k) (andT q k'):=by
  unfold andQ andT
  rw [h]
  cases hr:r.1 with
  | false=>exact .no
  | true=>exact hk hr
theorem yj3 {f:Fl} {x:Nd} {st:List Int} {set:List Bool} {seen:List Int} (h:Rl f.types.length st set seen):PR f.types.length seen x.outs (z4b f x st) (z9o f x set):=zj2 h rfl _ _
theorem node_rl (u:Un) (f:Fl) (x:Nd) (ih:∀ q∈x.kids,LR u f q) (deep:Int) (w:Wh) {st:List Int} {set:List Bool} {seen:List Int} (h:Rl f.types.length st set seen) :
    PR f.types.length seen x.outs (z3j u f deep w st x) (z2v u f deep w seen set x):=by
  cases hb:z12 x with
  | false=>rw [zc0 _ _ _ _ _ hb,zb5 _ _ _ _ _ _ hb];exact .no
  | true =>
    by_cases h10:x.kind=10
    ·obtain ⟨a,b,hk⟩:=z2k hb h10
     rw [zs4 _ _ _ _ _ hb h10 hk,zr1 _ _ _ _ _ _ hb h10 hk,y5c h]
     split
     ·obtain ⟨h1,h2⟩:=ih a (by rw [hk];simp) (deep+1) ⟨true,w.Loop,r8of f.types x.outs,w.Next,w.Left⟩ st set seen h
      refine zn1 h1 fun ht=>?_
      obtain ⟨h3,h4⟩:=ih b (by rw [hk];simp) (deep+1) ⟨true,w.Loop,r8of f.types x.outs,w.Next,w.Left⟩ _ _ seen (h2 ht)
      exact zn1 h3 fun ht2=>yj3 (h4 ht2)
     exact .no
    by_cases h11:x.kind=11
    ·obtain ⟨a,hk⟩:=z1m hb h11
     rw [zc1 _ _ _ _ _ hb h11 hk,zb6 _ _ _ _ _ _ hb h11 hk,y5c h]
     split
     ·obtain ⟨h1,h2⟩:=yh9 h x.params (List.replicate x.params.length 0)
      refine zn1 h1 fun ht=>?_
      obtain ⟨h3,h4⟩:=h2 ht
      obtain ⟨h5,h6⟩:=ih a (by rw [hk];simp) (deep+1) ⟨false,true,[],r8of f.types x.params,r8of f.types x.outs⟩ _ _ _ h3
      exact zn1 h5 fun ht2=>yj3 (y1t (h6 ht2) h4)
     exact .no
    have e10:(x.kind==10)=false:=by simpa using h10
    have e11:(x.kind==11)=false:=by simpa using h11
    rw [z7p _ _ _ _ _ _ hb e10 e11]
    have hs:=yi5 u f h x w
    cases he:z0q x.kind with
    | true=>rw [zi6 _ _ _ _ _ hb e10 e11 he];rw [if_pos he] at hs;exact hs
    | false=>rw [z7s _ _ _ _ _ hb e10 e11 he];rw [if_neg (by simp [he])] at hs;exact hs
theorem go_rl (u:Un) (f:Fl) (deep:Int) (w:Wh):∀ (l:List Nd),(∀ x∈l,∀ q∈x.kids,LR u f q)->∀ (st:List Int) (set:List Bool) (all:List Int),Rl f.types.length st set all ->
    PR f.types.length all (l.flatMap Nd.outs) (shGo u f deep w st l) (r8go u f deep w all set l)
  | [],_,st,set,all,h=>by
    unfold shGo r8go
    exact ⟨rfl,fun _=>⟨by simpa using h,fun v hv=>by simp at hv⟩⟩
  | x::r,ih,st,set,all,h=>by
    unfold shGo r8go
    by_cases hd:deep > 100
    ·rw [if_pos hd,if_pos hd];exact .no
    rw [if_neg hd,if_neg hd]
    obtain ⟨h1,h2⟩:=node_rl u f x (ih x (.head _)) deep w h
    refine zn1 h1 fun ht=>?_
    obtain ⟨h3,h4⟩:=h2 ht
    by_cases hc:(z01 x != r.isEmpty)=true
    ·rw [if_pos hc,if_pos hc];exact .no
    rw [if_neg hc,if_neg hc]
    obtain ⟨h5,h6⟩:=go_rl u f deep w r (fun y hy=>ih y (.tail _ hy)) _ _ _ h3
    refine ⟨h5,fun ht2=>?_⟩
    obtain ⟨h7,h8⟩:=h6 ht2
    refine ⟨by simpa using h7,fun v hv=>?_⟩
    rw [List.flatMap_cons,List.mem_append] at hv
    rcases hv with hv | hv
    ·exact h4 v hv
    obtain ⟨g1,g2,g3⟩:=h8 v hv
    rw [List.contains_append,Bool.or_eq_false_iff] at g3
    exact ⟨g1,g2,g3.1⟩
theorem yc2 (u:Un) (f:Fl):∀ (N:Nat) (l:List Nd),SizeOf.sizeOf l<N->LR u f l
  | 0,_,h=>absurd h (Nat.not_lt_zero _)
  | N+1,l,hN=>by
    intro deep w st set seen h
    have ih:∀ x∈l,∀ q∈x.kids,LR u f q:=fun x hx q hq=>yc2 u f N q (Nat.lt_of_lt_of_le (z5k hx rfl hq) (Nat.le_of_lt_succ hN))
    obtain ⟨h1,h2⟩:=go_rl u f deep w l ih st set seen h
    unfold z1n z1g ne andQ
    cases l with
    | nil =>
      simp only [List.isEmpty_nil,if_true]
      unfold shGo
      simp [y2w]
    | cons x r =>
      simp only [List.isEmpty_cons,Bool.false_eq_true,if_false]
      rw [h1]
      cases hg:(shGo u f deep w st (x::r)).1 with
      | false=>simp [hg]
      | true =>
        obtain ⟨h3,h4⟩:=h2 hg
        simp only [if_true,y2w]
        refine ⟨by simp,fun _=>?_⟩
        rw [zv8]
        exact y1t h3 h4
theorem yi4 (u:Un) (f:Fl) (deep:Int) (w:Wh) {st:List Int} {set:List Bool} {seen:List Int} (h:Rl f.types.length st set seen) (l:List Nd):(z1g u f deep w st l).1=(z1n u f deep w seen set l).1 :=
  ((yc2 u f _ l (Nat.lt_succ_self _)) deep w st set seen h).1.symm
theorem start_rl {k n:Nat} (h:k<=n):Rl n (z8y k n) (z34 k n) (iota k):=by
  refine ⟨z8z h,z2x h,fun v hv=>?_,fun v hv=>?_⟩
  ·simp only [z34,z8y,List.getD_eq_getElem?_getD]
   by_cases e:v<k
   ·rw [List.getElem?_append_left (by simpa using e),List.getElem?_append_left (by simpa using e)]
    simp [List.getElem?_replicate,e]
   rw [List.getElem?_append_right (by simpa using e),List.getElem?_append_right (by simpa using e)]
   simp only [List.length_replicate,List.getElem?_replicate]
   rw [if_pos oM0,if_pos oM0]
   rfl
  have hc:(iota k).contains (v:Int)=decide (v<k):=by
    simp only [iota]
    by_cases e:v<k
    ·simp [e]
     exact ⟨v,e,rfl⟩
    simp [e]
    intro x hx;omega
  rw [hc]
  simp only [z8y,List.getD_eq_getElem?_getD]
  by_cases e:v<k
  ·rw [List.getElem?_append_left (by simpa using e)]
   simp [List.getElem?_replicate,e]
  rw [List.getElem?_append_right (by simpa using e)]
  simp only [List.length_replicate,List.getElem?_replicate]
  rw [if_pos oM0]
  simp [e]
theorem y5h:∀ l:List Int,l.any (fun t=>!isTy t) = !l.all (fun t=>t==1||t==2)
  | []=>rfl
  | t::r=>by rw [List.any_cons,List.all_cons,y5h r,Bool.not_and];rfl
theorem yi2 (u:Un) (f:Fl) (h0:0<=f.params) (h1:f.params<=f.types.length):z9w u f=z2j u f:=by
  unfold z9w z2j
  rw [yi4 u f 1 z1d (start_rl (k:=f.params.toNat) oM0) f.body]
  have e1:decide (f.params<0)=false:=by simp;omega
  have e2:decide (f.params > f.types.length)=false:=by simp;omega
  have e3:=y5h f.types
  rw [e1,e2,e3]
  cases decide (f.params > 8)<;>cases decide ((f.types.length:Int) > 20000)<;>cases f.types.all (fun t=>t==1||t==2)<;>simp
def nmA (l:List Ar):List (List UInt8):=l.map fun a=>a.name.toList
def nmF (l:List Fl):List (List UInt8):=l.map fun a=>a.name.toList
theorem zn2 (nm:ByteArray):∀ (pre l:List Ar) (i:Int),(nm.toList∈nmA pre->i<=z0e nm (pre++l) i/\z0e nm (pre++l) i<i+pre.length)/\(nm.toList∉nmA pre->z0e nm (pre++l) i=z0e nm l (i+pre.length))
  | [],l,i=>by simp [nmA]
  | a::pre,l,i=>by
    obtain ⟨h1,h2⟩:=zn2 nm pre l (i+1)
    rw [List.cons_append,show z0e nm (a::(pre++l)) i=if (a.name.toList==nm.toList)=true then i else z0e nm (pre++l) (i+1) from rfl]
    by_cases e:a.name.toList=nm.toList
    ·have eb:(a.name.toList==nm.toList)=true:=by simpa using e
     rw [if_pos eb]
     refine ⟨fun _=>⟨Int.le_refl _,by simp;omega⟩,fun h=>absurd (by simp [nmA,e]) h⟩
    have eb:¬ (a.name.toList==nm.toList)=true:=by simpa using e
    rw [if_neg eb]
    refine ⟨fun h=>?_,fun h=>?_⟩
    ·have:nm.toList∈nmA pre:=by
       simp only [nmA,List.map_cons,List.mem_cons] at h
       exact h.resolve_left fun h=>e h.symm
     have:=h1 this
     simp only [List.length_cons];omega
    have:nm.toList∉nmA pre:=fun hm=>h (by simp only [nmA,List.map_cons,List.mem_cons];exact .inr hm)
    rw [h2 this]
    congr 1
    simp only [List.length_cons];omega
theorem zb3 (nm:ByteArray):∀ (pre l:List Fl) (i:Int),(nm.toList∈nmF pre->i<=z04 nm (pre++l) i/\z04 nm (pre++l) i<i+pre.length)/\(nm.toList∉nmF pre->z04 nm (pre++l) i=z04 nm l (i+pre.length))
  | [],l,i=>by simp [nmF]
  | a::pre,l,i=>by
    obtain ⟨h1,h2⟩:=zb3 nm pre l (i+1)
    rw [List.cons_append,show z04 nm (a::(pre++l)) i=if (a.name.toList==nm.toList)=true then i else z04 nm (pre++l) (i+1) from rfl]
    by_cases e:a.name.toList=nm.toList
    ·have eb:(a.name.toList==nm.toList)=true:=by simpa using e
     rw [if_pos eb]
     refine ⟨fun _=>⟨Int.le_refl _,by simp;omega⟩,fun h=>absurd (by simp [nmF,e]) h⟩
    have eb:¬ (a.name.toList==nm.toList)=true:=by simpa using e
    rw [if_neg eb]
    refine ⟨fun h=>?_,fun h=>?_⟩
    ·have:nm.toList∈nmF pre:=by
       simp only [nmF,List.map_cons,List.mem_cons] at h
       exact h.resolve_left fun h=>e h.symm
     have:=h1 this
     simp only [List.length_cons];omega
    have:nm.toList∉nmF pre:=fun hm=>h (by simp only [nmF,List.map_cons,List.mem_cons];exact .inr hm)
    rw [h2 this]
    congr 1
    simp only [List.length_cons];omega
theorem yd7 (nm:ByteArray) (l:List Fl):z04 nm l 0 ≥ 0↔nm.toList∈nmF l:=by
  obtain ⟨h1,h2⟩:=zb3 nm l [] 0
  rw [List.append_nil] at h1 h2
  by_cases h:nm.toList∈nmF l
  ·exact ⟨fun _=>h,fun h=>(h1 h).1⟩
  refine ⟨fun h3=>?_,fun h4=>absurd h4 h⟩
  rw [h2 h] at h3
  simp [z04] at h3
theorem array_at (nm:ByteArray) (pre r:List Ar) (a:Ar) (h:a.name.toList=nm.toList):z0e nm (pre++a::r) 0=pre.length↔nm.toList∉nmA pre:=by
  obtain ⟨h1,h2⟩:=zn2 nm pre (a::r) 0
  by_cases e:nm.toList∈nmA pre
  ·have:=h1 e
   exact ⟨fun h=>by omega,fun h=>absurd e h⟩
  refine ⟨fun _=>e,fun _=>?_⟩
  rw [h2 e]
  have eb:(a.name.toList==nm.toList)=true:=by simpa using h
  rw [show z0e nm (a::r) (0+pre.length)=if (a.name.toList==nm.toList)=true then (0+pre.length:Int) else z0e nm r (0+pre.length+1) from rfl,if_pos eb]
  omega
theorem place_at (nm:ByteArray) (pre r:List Fl) (a:Fl) (h:a.name.toList=nm.toList):z04 nm (pre++a::r) 0=pre.length↔nm.toList∉nmF pre:=by
  obtain ⟨h1,h2⟩:=zb3 nm pre (a::r) 0
  by_cases e:nm.toList∈nmF pre
  ·have:=h1 e
   exact ⟨fun h=>by omega,fun h=>absurd e h⟩
  refine ⟨fun _=>e,fun _=>?_⟩
  rw [h2 e]
  have eb:(a.name.toList==nm.toList)=true:=by simpa using h
  rw [show z04 nm (a::r) (0+pre.length)=if (a.name.toList==nm.toList)=true then (0+pre.length:Int) else z04 nm r (0+pre.length+1) from rfl,if_pos eb]
  omega
theorem gA_iff (u:Un):∀ (pre l:List Ar),u.arrays=pre++l->(r8gA u l pre.length=true↔(∀ a∈l,zk7 a=true/\a.name.toList∉nmF u.flows/\a.name.toList∉nmA pre)/\(nmA l).Nodup)
  | pre,[],_=>by simp [r8gA,nmA]
  | pre,a::r,hu=>by
    have ih:=gA_iff u (pre++[a]) r (by simp [hu])
    have hlen:(((pre++[a]).length:Nat):Int)=(pre.length:Int)+1:=by simp
    rw [hlen] at ih
    rw [r8gA,Bool.and_eq_true,ih]
    have ha:gArr u a pre.length=true↔zk7 a=true/\a.name.toList∉nmA pre/\a.name.toList∉nmF u.flows:=by
      have h1:=array_at a.name pre r a rfl
      have h2:=yd7 a.name u.flows
      rw [<- hu] at h1
      unfold gArr zk7
      simp only [Bool.and_eq_true,Bool.not_eq_true',decide_eq_false_iff_not,beq_iff_eq,h1,h2]
      constructor
      ·rintro ⟨⟨⟨⟨a1,a2⟩,a3⟩,a4⟩,a5⟩;exact ⟨⟨⟨a1,a2⟩,a3⟩,a4,a5⟩
      rintro ⟨⟨⟨a1,a2⟩,a3⟩,a4,a5⟩;exact ⟨⟨⟨⟨a1,a2⟩,a3⟩,a4⟩,a5⟩
    rw [ha]
    constructor
    ·rintro ⟨⟨b1,b2,b3⟩,b4,b5⟩
     refine ⟨fun x hx=>?_,?_⟩
     ·rcases List.mem_cons.1 hx with rfl | hx
      ·exact ⟨b1,b3,b2⟩
      obtain ⟨c1,c2,c3⟩:=b4 x hx
      exact ⟨c1,c2,fun h=>c3 (by simp only [nmA,List.map_append,List.mem_append];exact .inl h)⟩
     refine List.nodup_cons.2 ⟨fun h=>?_,b5⟩
     obtain ⟨x,hx,e⟩:=List.mem_map.1 h
     exact (b4 x hx).2.2 (by simp only [nmA,List.map_append,List.mem_append,List.map_cons,List.map_nil,List.mem_singleton];exact .inr e)
    rintro ⟨b1,b2⟩
    have b3:=List.nodup_cons.1 b2
    obtain ⟨c1,c2,c3⟩:=b1 a (.head _)
    refine ⟨⟨c1,c3,c2⟩,fun x hx=>?_,b3.2⟩
    obtain ⟨d1,d2,d3⟩:=b1 x (.tail _ hx)
    refine ⟨d1,d2,fun h=>?_⟩
    simp only [nmA,List.map_append,List.mem_append,List.map_cons,List.map_nil,List.mem_singleton] at h
    rcases h with h | h
    ·exact d3 h
    exact b3.1 (List.mem_map.2 ⟨x,hx,h⟩)
theorem gF_iff (u:Un):∀ (pre l:List Fl),u.flows=pre++l->(r8gF u l pre.length=true↔(∀ a∈l,ze7 a=true/\a.name.toList∉nmF pre)/\(nmF l).Nodup)
  | pre,[],_=>by simp [r8gF,nmF]
  | pre,a::r,hu=>by
    have ih:=gF_iff u (pre++[a]) r (by simp [hu])
    have hlen:(((pre++[a]).length:Nat):Int)=(pre.length:Int)+1:=by simp
    rw [hlen] at ih
    rw [r8gF,Bool.and_eq_true,ih]
    have ha:gFlw u a pre.length=true↔ze7 a=true/\a.name.toList∉nmF pre:=by
      have h1:=place_at a.name pre r a rfl
      rw [<- hu] at h1
      unfold gFlw ze7 isTy
      simp only [Bool.and_eq_true,Bool.not_eq_true',decide_eq_false_iff_not,beq_iff_eq,h1]
      constructor
      ·rintro ⟨⟨⟨⟨a1,a2⟩,a3⟩,a4⟩,a5⟩;exact ⟨⟨⟨⟨a1,a3⟩,a4⟩,a5⟩,a2⟩
      rintro ⟨⟨⟨⟨a1,a3⟩,a4⟩,a5⟩,a2⟩;exact ⟨⟨⟨⟨a1,a2⟩,a3⟩,a4⟩,a5⟩
    rw [ha]
    constructor
    ·rintro ⟨⟨b1,b2⟩,b4,b5⟩
     refine ⟨fun x hx=>?_,?_⟩
     ·rcases List.mem_cons.1 hx with rfl | hx
      ·exact ⟨b1,b2⟩
      obtain ⟨c1,c3⟩:=b4 x hx
      exact ⟨c1,fun h=>c3 (by simp only [nmF,List.map_append,List.mem_append];exact .inl h)⟩
     refine List.nodup_cons.2 ⟨fun h=>?_,b5⟩
     obtain ⟨x,hx,e⟩:=List.mem_map.1 h
     exact (b4 x hx).2 (by simp only [nmF,List.map_append,List.mem_append,List.map_cons,List.map_nil,List.mem_singleton];exact .inr e)
    rintro ⟨b1,b2⟩
    have b3:=List.nodup_cons.1 b2
    obtain ⟨c1,c3⟩:=b1 a (.head _)
    refine ⟨⟨c1,c3⟩,fun x hx=>?_,b3.2⟩
    obtain ⟨d1,d3⟩:=b1 x (.tail _ hx)
    refine ⟨d1,fun h=>?_⟩
    simp only [nmF,List.map_append,List.mem_append,List.map_cons,List.map_nil,List.mem_singleton] at h
    rcases h with h | h
    ·exact d3 h
    exact b3.1 (List.mem_map.2 ⟨x,hx,h⟩)
def z26 (es:List (Value × PV)):List (List UInt8):=es.map fun e=>match e.1 with
  | .string s=>s.toList
  | _=>[]
theorem zp4 (s:ByteArray) (v:PV):∀ (es:List (Value × PV)),Cnt es->(s.toList∈z26 es->z26 (mput (.string s) v es)=z26 es)/\(s.toList∉z26 es->z26 (mput (.string s) v es)=z26 es++[s.toList])
  | [],_=>by simp [z26,mput]
  | (a,p)::r,h=>by
    have ha:=h.1 (a,p) (.head _)
    have hr:Cnt r:=⟨fun e he=>h.1 e (.tail _ he),fun e he=>h.2 e (.tail _ he)⟩
    obtain ⟨h1,h2⟩:=zp4 s v r hr
    cases a with
    | string t =>
      simp only [mput]
      by_cases e:s.toList=t.toList
      ·have eb:keyB (.string s) (.string t)=true:=by simpa [keyB] using e
       rw [if_pos eb]
       exact ⟨fun _=>by simp [z26,e],fun h=>absurd (by simp [z26,e]) h⟩
      have eb:¬ keyB (.string s) (.string t)=true:=by simpa [keyB] using e
      rw [if_neg eb]
      refine ⟨fun h=>?_,fun h=>?_⟩
      ·have:s.toList∈z26 r:=by
         simp only [z26,List.map_cons,List.mem_cons] at h
         exact h.resolve_left e
       have h3:=h1 this
       simp only [z26,List.map_cons] at h3 ⊢
       rw [h3]
      have:s.toList∉z26 r:=fun hm=>h (by simp only [z26,List.map_cons,List.mem_cons];exact .inr hm)
      have h3:=h2 this
      simp only [z26,List.map_cons,List.cons_append] at h3 ⊢
      rw [h3]
    | _=>simp [z2d] at ha
theorem y3k (s:ByteArray) {es:List (Value × PV)} (h:Cnt es):(s.toList∈z26 es->z26 (bump s es)=z26 es)/\(s.toList∉z26 es->z26 (bump s es)=z26 es++[s.toList]):=by
  obtain ⟨n,hn⟩:=h.find (.string s)
  rw [zy3 hn]
  exact zp4 s _ es h
def zn7 (es:List (Value × PV)) (l:List ByteArray):List (Value × PV):=l.foldl (fun e s=>bump s e) es
def nmS (l:List ByteArray):List (List UInt8):=l.map ByteArray.toList
theorem zu9:∀ (l:List ByteArray) (es:List (Value × PV)),Cnt es->(z26 (zn7 es l)).length<=(z26 es).length+l.length /\
    ((z26 (zn7 es l)).length=(z26 es).length+l.length↔(∀ s∈l,s.toList∉z26 es)/\(nmS l).Nodup)
  | [],es,_=>by simp [zn7,nmS]
  | s::r,es,h=>by
    obtain ⟨ih1,ih2⟩:=zu9 r (bump s es) (h.bump s)
    obtain ⟨h1,h2⟩:=y3k s h
    show (z26 (zn7 (bump s es) r)).length<=_/\((z26 (zn7 (bump s es) r)).length=_↔_)
    by_cases e:s.toList∈z26 es
    ·rw [h1 e] at ih1
     refine ⟨by simp only [List.length_cons];omega,fun hl=>by simp only [List.length_cons] at hl;omega,fun hb=>absurd e (hb.1 s (.head _))⟩
    have hk:=h2 e
    rw [hk] at ih1 ih2
    simp only [List.length_append,List.length_cons,List.length_nil] at ih1 ih2 ⊢
    refine ⟨by omega,?_⟩
    rw [show (z26 es).length+(r.length+1)=(z26 es).length+(0+1)+r.length by omega,ih2]
    constructor
    ·rintro ⟨b1,b2⟩
     refine ⟨fun x hx=>?_,List.nodup_cons.2 ⟨fun hm=>?_,b2⟩⟩
     ·rcases List.mem_cons.1 hx with rfl | hx
      ·exact e
      exact fun hm=>b1 x hx (List.mem_append.2 (.inl hm))
     obtain ⟨x,hx,he⟩:=List.mem_map.1 hm
     exact b1 x hx (by rw [he];simp)
    rintro ⟨b1,b2⟩
    have b3:=List.nodup_cons.1 b2
    refine ⟨fun x hx hm=>?_,b3.2⟩
    rcases List.mem_append.1 hm with hm | hm
    ·exact b1 x (.tail _ hx) hm
    exact b3.1 (List.mem_map.2 ⟨x,hx,by simpa using hm⟩)
theorem y9i (u:Un):((zu8 (zn6 [] u.arrays) u.flows).length:Int)=u.arrays.length+u.flows.length↔(nmA u.arrays++nmF u.flows).Nodup:=by
  have e:zu8 (zn6 [] u.arrays) u.flows=zn7 [] (u.arrays.map Ar.name++u.flows.map Fl.name):=by
    simp only [zu8,zn6,zn7,List.foldl_append,List.foldl_map]
  have hn:nmS (u.arrays.map Ar.name++u.flows.map Fl.name)=nmA u.arrays++nmF u.flows:=by
    simp only [nmS,nmA,nmF,List.map_append,List.map_map]
    rfl
  obtain ⟨_,h2⟩:=zu9 (u.arrays.map Ar.name++u.flows.map Fl.name) [] .nil
  rw [e]
  simp only [z26,List.length_map,List.length_append,List.length_nil,Nat.zero_add] at h2
  rw [<- hn]
  constructor
  ·intro h;exact (h2.1 oM0).2
  intro h
  have:=h2.2 ⟨fun s _=>by simp,h⟩
  omega
theorem yi3 (u:Un):z6u u=z10 u:=by
  have hA:=gA_iff u [] u.arrays rfl
  have hF:=gF_iff u [] u.flows rfl
  simp only [List.length_nil] at hA hF
  rw [Bool.eq_iff_iff]
  unfold z6u z10
  simp only [Bool.and_eq_true,List.all_eq_true,beq_iff_eq,y9i]
  rw [show ((0:Nat):Int)=0 from rfl] at hA hF
  rw [hA,hF,List.nodup_append]
  constructor
  ·rintro ⟨⟨⟨a1,a2⟩,a3,a4,a5⟩,a6⟩
   exact ⟨⟨⟨fun a ha=>⟨a1 a ha,fun hm=>a5 _ (List.mem_map.2 ⟨a,ha,rfl⟩) _ hm rfl,by simp [nmA]⟩,a3⟩,fun f hf=>⟨a2 f hf,by simp [nmF]⟩,a4⟩,a6⟩
  rintro ⟨⟨⟨a1,a3⟩,a2,a4⟩,a6⟩
  refine ⟨⟨⟨fun a ha=>(a1 a ha).1,fun f hf=>(a2 f hf).1⟩,a3,a4,fun x hx y hy e=>?_⟩,a6⟩
  obtain ⟨a,ha,rfl⟩:=List.mem_map.1 hx
  exact (a1 a ha).2.1 (e ▸ hy)
theorem zx6 (u:Un):∀ (l:List Fl) (i:Int),(∀ f∈l,0<=f.params/\f.params<=f.types.length)->z7u u l i=z4v u l i
  | [],_,_=>rfl
  | f::r,i,h=>by
    obtain ⟨h1,h2⟩:=h f (.head _)
    simp only [z7u,z4v,yi2 u f h1 h2,zx6 u r (i+1) (fun f hf=>h f (.tail _ hf))]
theorem zi5 (u:Un):z53 u=z1a u:=by
  unfold z53 z1a
  rw [yi3]
  cases h:z10 u with
  | false=>rfl
  | true=>simp only [if_true];exact zx6 u _ _ (z5f h)
theorem Nd.enc_len (x:Nd):x.enc.length=8:=by rw [Nd.enc_eq,Nd.cells_eta];rfl
theorem Nd.enc_one (x:Nd):∀ y∈x.enc,y.one=true:=by
  rw [Nd.enc_eq,Nd.cells_eta]
  intro y hy
  simp only [List.mem_cons,List.not_mem_nil,or_false] at hy
  rcases hy with rfl | rfl | rfl | rfl | rfl | rfl | rfl | rfl<;>rfl
theorem yb1 {l:List Nd}:∀ el∈l.map Nd.enc,el.length=8:=by
  intro el hel
  obtain ⟨x,_,rfl⟩:=List.mem_map.1 hel
  exact x.enc_len
theorem yb0 {l:List Nd}:∀ el∈l.map Nd.enc,∀ x∈el,x.one=true:=by
  intro el hel
  obtain ⟨x,_,rfl⟩:=List.mem_map.1 hel
  exact x.enc_one
def z80 (x:Nd):Bool:=x.kind==1||x.kind==2||x.kind==3||(x.kind==4&&x.op != 4&&x.op != 5)
def vKey (v:Int):Value:=.int .i64 v
theorem zy7 (l:List Nd) (x:Nd):(l++[x]).map Nd.enc=l.map Nd.enc++[[vInt x.kind,vInt x.op,vInt x.n,vStr x.name,ints x.args,ints x.outs,ints x.params,kids x.kids]]:=by
  rw [List.map_append,List.map_cons,List.map_nil,Nd.enc_eq,Nd.cells_eta]
theorem zh2 (x:Nd):∀ el∈z0c 8 1 [vInt x.kind,vInt x.op,vInt x.n,vStr x.name,ints x.args,ints x.outs,ints x.params,kids x.kids],∀ y∈el,y.one=true:=by
  intro el hel
  have:el=x.enc:=by
    rw [Nd.enc_eq,Nd.cells_eta]
    exact List.mem_singleton.1 hel
  subst this
  exact x.enc_one
theorem kd_len:∀ ks:List (List Nd),ks.length<=kdW ks
  | []=>by simp
  | l::r=>by have:=kd_len r;simp only [kdW,List.length_cons];omega
theorem y72 {F:Nat->Prop} {ρ:Loc} {σ:Heap'} {w:World} {v:Value} (h:RepI F ρ σ w (.pv (.agg [.val (.slice none 0 0),.val (.slice none 0 0)])) v):RepI F ρ σ w (.pv (Un.enc ⟨[],[]⟩)) v :=
  z90 (PSub.agg (ps:=[.val (.slice none 0 0),.val (.slice none 0 0)]) (qs:=[.seq [],.seq []]) (And.intro PSub.nil (And.intro PSub.nil trivial))) h
def inR (n:Nat) (ds:List Int):Prop:=∀ v∈ds,0<=v/\v<n
def Frs (set:List Bool) (ds:List Int):Prop:=ds.Nodup/\∀ v∈ds,set.getD v.toNat false=false
def z2i (set:List Bool) (ds:List Int):List Bool:=ds.foldl (fun s v=>s.set v.toNat true) set
theorem z3g:∀ (ds:List Int) (set:List Bool),(z2i set ds).length=set.length
  | [],_=>rfl
  | v::r,set=>by have:=z3g r (set.set v.toNat true);simpa [z2i] using this
theorem z8k (set:List Bool) (a b:List Int):z2i set (a++b)=z2i (z2i set a) b:=by simp [z2i]
theorem zp3 {n:Nat}:∀ (ds:List Int) (set:List Bool),set.length=n->inR n ds->∀ v:Int,0<=v->v<n->(z2i set ds).getD v.toNat false=(ds.contains v||set.getD v.toNat false)
  | [],set,_,_,v,_,_=>by simp [z2i]
  | d::r,set,hn,hr,v,h0,h1=>by
    have ih:=zp3 r (set.set d.toNat true) (by simpa using hn) (fun v hv=>hr v (.tail _ hv)) v h0 h1
    obtain ⟨d0,d1⟩:=hr d (.head _)
    show (z2i (set.set d.toNat true) r).getD v.toNat false=_
    rw [ih,zd3,List.contains_cons]
    by_cases e:v=d
    ·subst e
     rw [if_pos ⟨rfl,by omega⟩];simp
    have e2:¬ (d.toNat=v.toNat/\d.toNat<set.length):=by omega
    have e3:(v==d)=false:=by simpa using e
    rw [if_neg e2,e3,Bool.false_or]
theorem zo8 {n:Nat} {set:List Bool} {a b:List Int} (hn:set.length=n) (ha:inR n a) (hb:inR n b):Frs set (a++b)↔Frs set a/\Frs (z2i set a) b:=by
  unfold Frs
  rw [List.nodup_append]
  constructor
  ·rintro ⟨⟨h1,h2,h3⟩,h4⟩
   refine ⟨⟨h1,fun v hv=>h4 v (by simp [hv])⟩,h2,fun v hv=>?_⟩
   rw [zp3 a set hn ha v (hb v hv).1 (hb v hv).2,h4 v (by simp [hv])]
   have:a.contains v=false:=by
     rw [<- Bool.not_eq_true,List.contains_iff_mem]
     exact fun hm=>h3 v hm v hv rfl
   rw [this];rfl
  rintro ⟨⟨h1,h2⟩,h3,h4⟩
  have hkey:∀ v∈b,a.contains v=false/\set.getD v.toNat false=false:=fun v hv=>by
    have:=h4 v hv
    rw [zp3 a set hn ha v (hb v hv).1 (hb v hv).2,Bool.or_eq_false_iff] at this
    exact this
  refine ⟨⟨h1,h3,fun x hx y hy e=>?_⟩,fun v hv=>?_⟩
  ·subst e
   have:=(hkey x hy).1
   rw [<- Bool.not_eq_true,List.contains_iff_mem] at this
   exact this hx
  rcases List.mem_append.1 hv with hv | hv
  ·exact h2 v hv
  exact (hkey v hv).2
def z21 (tys:List Int):List Int->List Int->Bool
  | [],[]=>true
  | v::r,w::ws=>z4y tys v w&&z21 tys r ws
  | _,_=>false
theorem z1k {tys:List Int}:∀ {l want:List Int},z21 tys l want=true->inR tys.length l
  | [],[],_=>fun v hv=>by simp at hv
  | [],_::_,h=>by simp [z21] at h
  | _::_,[],h=>by simp [z21] at h
  | x::r,w::ws,h=>by
    simp only [z21,Bool.and_eq_true,z4y,decide_eq_true_eq] at h
    intro v hv
    rcases List.mem_cons.1 hv with rfl | hv
    ·exact ⟨h.1.1.1,h.1.1.2⟩
    exact z1k h.2 v hv
theorem zf8 {tys:List Int}:∀ {l want:List Int},z21 tys l want=true->l.length=want.length
  | [],[],_=>rfl
  | [],_::_,h=>by simp [z21] at h
  | _::_,[],h=>by simp [z21] at h
  | x::r,w::ws,h=>by
    simp only [z21,Bool.and_eq_true] at h
    simp [zf8 h.2]
theorem y94 (tys:List Int) (set:List Bool) (v w:Int):z7m tys set v w=false↔z4y tys v w=true/\set.getD v.toNat false=false:=by
  unfold z7m z4y
  simp only [Bool.or_eq_false_iff,decide_eq_false_iff_not,Bool.and_eq_true,decide_eq_true_eq,Bool.or_eq_true]
  constructor
  ·rintro ⟨⟨⟨h1,h2⟩,h3⟩,h4⟩
   refine ⟨⟨⟨by omega,by omega⟩,?_⟩,h3⟩
   cases hw:(w==0) with
   | true=>exact .inl rfl
   | false=>exact .inr (by simpa [bne,hw] using h4)
  rintro ⟨⟨⟨h1,h2⟩,h4⟩,h3⟩
  refine ⟨⟨⟨by omega,by omega⟩,h3⟩,?_⟩
  rcases h4 with h4 | h4
  ·simp [bne,h4]
  rw [show (tys.getD v.toNat 0 != w)=false from by rw [bne,h4];rfl,Bool.and_false]
theorem zx4 (tys:List Int):∀ (l want:List Int) (set:List Bool),l.length=want.length->set.length=tys.length ->
    ((z1v tys set l want).1=true↔z21 tys l want=true/\Frs set l)/\((z1v tys set l want).1=true->(z1v tys set l want).2=z2i set l)
  | [],[],set,_,_=>by simp [z1v,z21,Frs,z2i]
  | [],_::_,_,h,_=>by simp at h
  | _::_,[],_,h,_=>by simp at h
  | x::r,w::ws,set,hl,hn=>by
    obtain ⟨ih1,ih2⟩:=zx4 tys r ws (set.set x.toNat true) (by simpa using hl) (by simpa using hn)
    simp only [z1v]
    cases hb:z7m tys set x w with
    | true =>
      simp only [if_true,Bool.false_eq_true,false_iff,not_and,false_implies,and_true]
      intro h1 h2
      simp only [z21,Bool.and_eq_true] at h1
      have:=(y94 tys set x w).2 ⟨h1.1,h2.2 x (.head _)⟩
      rw [hb] at this;cases this
    | false =>
      obtain ⟨b1,b2⟩:=(y94 tys set x w).1 hb
      simp only [Bool.false_eq_true,if_false]
      refine ⟨?_,fun h=>ih2 h⟩
      rw [ih1]
      simp only [z21,b1,Bool.true_and]
      refine and_congr_right fun hv=>?_
      have hx:inR tys.length [x]:=fun v hv=>by
        obtain rfl:=List.mem_singleton.1 hv
        simp only [z4y,Bool.and_eq_true,decide_eq_true_eq] at b1
        exact ⟨b1.1.1,b1.1.2⟩
      have:=zo8 (a:=[x]) (b:=r) hn hx (z1k hv)
      rw [show x::r=[x]++r from rfl,this]
      exact ⟨fun h=>⟨⟨by simp,fun v hv=>by obtain rfl:=List.mem_singleton.1 hv;exact b2⟩,h⟩,fun h=>h.2⟩
theorem y0r (tys:List Int) (set:List Bool) (l want:List Int) (hn:set.length=tys.length) :
    ((z1o tys set l want).1=true↔z21 tys l want=true/\Frs set l)/\((z1o tys set l want).1=true->(z1o tys set l want).2=z2i set l):=by
  unfold z1o
  by_cases hl:l.length=want.length
  ·have e:((l.length:Int)==want.length)=true:=by simp;omega
   rw [if_pos e]
   exact zx4 tys l want set hl hn
  have e:¬ ((l.length:Int)==want.length)=true:=by simp;omega
  rw [if_neg e]
  refine ⟨⟨fun h=>(by cases h),fun h=>absurd (zf8 h.1) hl⟩,fun h=>by cases h⟩
structure SForm where
  b:Bool
  want:Option (List Int)
def SForm.run (s:SForm) (tys:List Int) (outs:List Int) (set:List Bool):Bool × List Bool:=match s.want with
  | some wt=>andS s.b set (z1o tys set outs wt)
  | none=>(s.b&&(outs.length:Int)==0,set)
def SForm.ok (s:SForm) (tys:List Int) (outs:List Int):Bool:=match s.want with
  | some wt=>s.b&&z21 tys outs wt
  | none=>s.b&&(outs.length:Int)==0
def z38 (u:Un) (f:Fl) (x:Nd) (seen:List Int) (w:Wh):SForm :=
  if x.kind==1 then ⟨z02 f.types seen x.args [],some [1]⟩
  else if x.kind==2 then ⟨(x.n==0||x.n==1)&&z02 f.types seen x.args [],some [2]⟩
  else if x.kind==3 then ⟨z2a x.op&&z02 f.types seen x.args [(z0a x.op).1],some [(z0a x.op).2]⟩
  else if x.kind==4 then ⟨z1t x.op&&z02 f.types seen x.args [(z0a x.op).1,(z0a x.op).1]&&f.types.getD (x.args.getD 0 0).toNat 0==f.types.getD (x.args.getD 1 0).toNat 0,some [(z0a x.op).2]⟩
  else if x.kind==5 then ⟨decide (z0e x.name u.arrays 0 ≥ 0)&&z02 f.types seen x.args [1],some [1]⟩
  else if x.kind==6 then ⟨decide (z0e x.name u.arrays 0 ≥ 0)&&z02 f.types seen x.args [1,1],none⟩
  else if x.kind==7 then (if decide (z04 x.name u.flows 0 ≥ 0)=true then match u.flows[(z04 x.name u.flows 0).toNat]? with
      | some g=>⟨z02 f.types seen x.args (g.types.take g.params.toNat),some [g.ty]⟩
      | none=>⟨false,none⟩
    else ⟨false,none⟩)
  else if x.kind==8 then ⟨(x.args.length:Int)==0,some [1]⟩
  else if x.kind==9 then ⟨z02 f.types seen x.args [1],none⟩
  else if x.kind==12 then ⟨w.If&&z02 f.types seen x.args w.Yield,none⟩
  else if x.kind==13 then ⟨w.Loop&&z02 f.types seen x.args w.Next,none⟩
  else if x.kind==14 then ⟨w.Loop&&z02 f.types seen x.args w.Left,none⟩
  else if x.kind==15 then ⟨z02 f.types seen x.args [f.ty],none⟩
  else ⟨false,none⟩
theorem y4z (u:Un) (f:Fl) (set:List Bool) (x:Nd) (seen:List Int) (w:Wh):z1c u f set x seen w=(z38 u f x seen w).run f.types x.outs set:=by
  unfold z1c z38 z8t
  by_cases k1:(x.kind==1)=true
  ·rw [if_pos k1,if_pos k1];rfl
  rw [if_neg k1,if_neg k1]
  by_cases k2:(x.kind==2)=true
  ·rw [if_pos k2,if_pos k2];rfl
  rw [if_neg k2,if_neg k2]
  by_cases k3:(x.kind==3)=true
  ·rw [if_pos k3,if_pos k3];rfl
  rw [if_neg k3,if_neg k3]
  by_cases k4:(x.kind==4)=true
  ·rw [if_pos k4,if_pos k4];rfl
  rw [if_neg k4,if_neg k4]
  by_cases k5:(x.kind==5)=true
  ·rw [if_pos k5,if_pos k5];rfl
  rw [if_neg k5,if_neg k5]
  by_cases k6:(x.kind==6)=true
  ·rw [if_pos k6,if_pos k6];rfl
  rw [if_neg k6,if_neg k6]
  by_cases k7:(x.kind==7)=true
  ·rw [if_pos k7,if_pos k7]
   by_cases hp:decide (z04 x.name u.flows 0 ≥ 0)=true
   ·rw [if_pos hp,if_pos hp]
    cases u.flows[(z04 x.name u.flows 0).toNat]? with
    | none=>rfl
    | some g=>rfl
   rw [if_neg hp,if_neg hp];rfl
  rw [if_neg k7,if_neg k7]
  by_cases k8:(x.kind==8)=true
  ·rw [if_pos k8,if_pos k8];rfl
  rw [if_neg k8,if_neg k8]
  by_cases k9:(x.kind==9)=true
  ·rw [if_pos k9,if_pos k9];rfl
  rw [if_neg k9,if_neg k9]
  by_cases k12:(x.kind==12)=true
  ·rw [if_pos k12,if_pos k12];rfl
  rw [if_neg k12,if_neg k12]
  by_cases k13:(x.kind==13)=true
  ·rw [if_pos k13,if_pos k13];rfl
  rw [if_neg k13,if_neg k13]
  by_cases k14:(x.kind==14)=true
  ·rw [if_pos k14,if_pos k14];rfl
  rw [if_neg k14,if_neg k14]
  by_cases k15:(x.kind==15)=true
  ·rw [if_pos k15,if_pos k15];rfl
  rw [if_neg k15,if_neg k15]
  rfl
theorem run_iff {tys outs:List Int} {set:List Bool} (s:SForm) (hn:set.length=tys.length):((s.run tys outs set).1=true↔s.ok tys outs=true/\Frs set outs)/\((s.run tys outs set).1=true->(s.run tys outs set).2=z2i set outs):=by
  obtain ⟨b,want⟩:=s
  cases want with
  | some wt =>
    obtain ⟨h1,h2⟩:=y0r tys set outs wt hn
    simp only [SForm.run,SForm.ok,andS]
    cases b with
    | false=>simp
    | true=>simp only [if_true,Bool.true_and];exact ⟨h1,h2⟩
  | none =>
    simp only [SForm.run,SForm.ok]
    constructor
    ·constructor
     ·intro h
      refine ⟨h,?_⟩
      simp only [Bool.and_eq_true,beq_iff_eq] at h
      have:outs=[]:=List.eq_nil_of_length_eq_zero oM0
      subst this
      exact ⟨by simp,fun v hv=>by simp at hv⟩
     exact fun h=>h.1
    intro h
    simp only [Bool.and_eq_true,beq_iff_eq] at h
    have:outs=[]:=List.eq_nil_of_length_eq_zero oM0
    subst this
    rfl
theorem ok_in {tys outs:List Int} {s:SForm} (h:s.ok tys outs=true):inR tys.length outs:=by
  obtain ⟨b,want⟩:=s
  cases want with
  | some wt=>simp only [SForm.ok,Bool.and_eq_true] at h;exact z1k h.2
  | none =>
    simp only [SForm.ok,Bool.and_eq_true,beq_iff_eq] at h
    have:outs=[]:=List.eq_nil_of_length_eq_zero oM0
    subst this
    exact fun v hv=>by simp at hv
mutual
def dN:Nd->List Int
  | .mk _ _ _ _ _ outs params ks=>params++(dK ks++outs)
def dL:List Nd->List Int
  | []=>[]
  | x::r=>dN x++dL r
def dK:List (List Nd)->List Int
  | []=>[]
  | l::r=>dL l++dK r
end
theorem zn8 (x:Nd):dN x=x.params++(dK x.kids++x.outs):=by cases x;simp [dN,Nd.params,Nd.kids,Nd.outs]
def zer (l:List Int):List Int:=List.replicate l.length 0
def w1 (w:Wh) (f:Fl) (x:Nd):Wh:=⟨true,w.Loop,r8of f.types x.outs,w.Next,w.Left⟩
def w2 (f:Fl) (x:Nd):Wh:=⟨false,true,[],r8of f.types x.params,r8of f.types x.outs⟩
def zb2 (x:Nd):Bool:=(x.outs.length:Int)==0 || !z01 x
mutual
def z2r (u:Un) (f:Fl) (deep:Int) (w:Wh) (seen:List Int):Nd->Bool
  | .mk kind op n name args outs params kids =>
    z12 (.mk kind op n name args outs params kids) &&
    (if kind==10 then
      match kids with
      | a::b::_=>z02 f.types seen args [2]&&(!a.isEmpty&&vGo u f (deep+1) (w1 w f (.mk kind op n name args outs params kids)) seen a)&&(!b.isEmpty&&vGo u f (deep+1) (w1 w f (.mk kind op n name args outs params kids)) seen b) &&
          zb2 (.mk kind op n name args outs params kids)&&z21 f.types outs (zer outs)
      | _=>false
    else if kind==11 then
      match kids with
      | a::_=>z02 f.types seen args (r8of f.types params)&&z21 f.types params (zer params)&&(!a.isEmpty&&vGo u f (deep+1) (w2 f (.mk kind op n name args outs params kids)) (seen++params) a) &&
          zb2 (.mk kind op n name args outs params kids)&&z21 f.types outs (zer outs)
      | _=>false
    else (z38 u f (.mk kind op n name args outs params kids) seen w).ok f.types outs)
def vGo (u:Un) (f:Fl) (deep:Int) (w:Wh) (all:List Int):List Nd->Bool
  | []=>true
  | x::r=>!decide (deep > 100)&&z2r u f deep w all x&&(z01 x==r.isEmpty)&&vGo u f deep w (all++x.outs) r
end
def z2t (u:Un) (f:Fl) (deep:Int) (w:Wh) (all:List Int) (l:List Nd):Bool:=!l.isEmpty&&vGo u f deep w all l
theorem z3w (u:Un) (f:Fl) (deep:Int) (w:Wh) (seen:List Int) {x:Nd} {a b:List Nd} (h:z12 x=true) (hk:x.kind=10) (hx:x.kids=[a,b]) :
    z2r u f deep w seen x=(z02 f.types seen x.args [2]&&z2t u f (deep+1) (w1 w f x) seen a&&z2t u f (deep+1) (w1 w f x) seen b&&zb2 x&&z21 f.types x.outs (zer x.outs)):=by
  cases x
  simp only [Nd.kind,Nd.kids] at hk hx
  subst hk hx
  unfold z2r
  simp only [h,Bool.true_and,Nd.args,Nd.outs]
  rfl
theorem z28 (u:Un) (f:Fl) (deep:Int) (w:Wh) (seen:List Int) {x:Nd} {a:List Nd} (h:z12 x=true) (hk:x.kind=11) (hx:x.kids=[a]) :
    z2r u f deep w seen x=(z02 f.types seen x.args (r8of f.types x.params)&&z21 f.types x.params (zer x.params)&&z2t u f (deep+1) (w2 f x) (seen++x.params) a&&zb2 x&&z21 f.types x.outs (zer x.outs)):=by
  cases x
  simp only [Nd.kind,Nd.kids] at hk hx
  subst hk hx
  unfold z2r
  simp only [h,Bool.true_and,Nd.args,Nd.outs,Nd.params]
  rfl
theorem z11 (u:Un) (f:Fl) (deep:Int) (w:Wh) (seen:List Int) {x:Nd} (h:z12 x=true) (h1:(x.kind==10)=false) (h2:(x.kind==11)=false) :
    z2r u f deep w seen x=(z38 u f x seen w).ok f.types x.outs:=by
  cases x
  simp only [Nd.kind] at h1 h2
  unfold z2r
  simp only [h,Bool.true_and,Nd.outs,h1,h2,Bool.false_eq_true,if_false]
theorem z19 (u:Un) (f:Fl) (deep:Int) (w:Wh) (seen:List Int) {x:Nd} (h:z2r u f deep w seen x=true):z12 x=true:=by
  cases x
  unfold z2r at h
  simp only [Bool.and_eq_true] at h
  exact h.1
theorem zn3 {x:Nd} (h:z12 x=true) (hk:(x.kind==11)=false):x.params=[]:=by
  simp only [z12,Bool.and_eq_true,hk,Bool.false_or,beq_iff_eq] at h
  exact List.eq_nil_of_length_eq_zero oM0
theorem z94 {x:Nd} (h:z12 x=true) (h1:(x.kind==10)=false) (h2:(x.kind==11)=false):x.kids=[]:=by
  have:=zb4 h
  simp only [r8kn,h1,h2,Bool.false_eq_true,if_false] at this
  exact List.eq_nil_of_length_eq_zero oM0
theorem y1f {x:Nd} (h:z12 x=true) (h1:(x.kind==10)=false) (h2:(x.kind==11)=false):dN x=x.outs:=by
  rw [zn8,zn3 h h2,z94 h h1 h2];rfl
theorem dN_if {x:Nd} {a b:List Nd} (h:z12 x=true) (hk:x.kind=10) (hx:x.kids=[a,b]):dN x=dL a++(dL b++x.outs):=by
  rw [zn8,zn3 h (by rw [hk];rfl),hx];simp [dK]
theorem zy6 {x:Nd} {a:List Nd} (hx:x.kids=[a]):dN x=x.params++(dL a++x.outs):=by
  rw [zn8,hx];simp [dK]
theorem zh3 {n:Nat} {a b:List Int}:inR n (a++b)↔inR n a/\inR n b :=
  ⟨fun h=>⟨fun v hv=>h v (by simp [hv]),fun v hv=>h v (by simp [hv])⟩,fun h v hv=>(List.mem_append.1 hv).elim (h.1 v) (h.2 v)⟩
theorem zl4 {n:Nat} {set:List Bool} {a b d:List Int} (hn:set.length=n) (ha:inR n a) (hb:inR n b) (hd:inR n d):Frs set (a++(b++d))↔Frs set a/\Frs (z2i set a) b/\Frs (z2i (z2i set a) b) d:=by
  rw [zo8 hn ha (zh3.2 ⟨hb,hd⟩),zo8 ((z3g a set).trans hn) hb hd]
def RG (u:Un) (f:Fl) (l:List Nd):Prop:=∀ (deep:Int) (w:Wh) (all:List Int),vGo u f deep w all l=true->inR f.types.length (dL l)
theorem y44 (u:Un) (f:Fl) (x:Nd) (ih:∀ q∈x.kids,RG u f q) (deep:Int) (w:Wh) (seen:List Int) (h:z2r u f deep w seen x=true):inR f.types.length (dN x):=by
  have hb:=z19 u f deep w seen h
  by_cases h10:x.kind=10
  ·obtain ⟨a,b,hk⟩:=z2k hb h10
   rw [z3w u f deep w seen hb h10 hk] at h
   simp only [Bool.and_eq_true,z2t] at h
   rw [dN_if hb h10 hk]
   exact zh3.2 ⟨ih a (by rw [hk];simp) _ _ _ h.1.1.1.2.2,zh3.2 ⟨ih b (by rw [hk];simp) _ _ _ h.1.1.2.2,z1k h.2⟩⟩
  by_cases h11:x.kind=11
  ·obtain ⟨a,hk⟩:=z1m hb h11
   rw [z28 u f deep w seen hb h11 hk] at h
   simp only [Bool.and_eq_true,z2t] at h
   rw [zy6 hk]
   exact zh3.2 ⟨z1k h.1.1.1.2,zh3.2 ⟨ih a (by rw [hk];simp) _ _ _ h.1.1.2.2,z1k h.2⟩⟩
  have e10:(x.kind==10)=false:=by simpa using h10
  have e11:(x.kind==11)=false:=by simpa using h11
  rw [z11 u f deep w seen hb e10 e11] at h
  rw [y1f hb e10 e11]
  exact ok_in h
theorem go_in (u:Un) (f:Fl):∀ (l:List Nd),(∀ x∈l,∀ q∈x.kids,RG u f q)->RG u f l
  | [],_=>fun _ _ _ _ v hv=>by simp [dL] at hv
  | x::r,ih=>fun deep w all h=>by
    simp only [vGo,Bool.and_eq_true] at h
    exact zh3.2 ⟨y44 u f x (ih x (.head _)) _ _ _ h.1.1.2,go_in u f r (fun y hy=>ih y (.tail _ hy)) _ _ _ h.2⟩
theorem rg_all (u:Un) (f:Fl):∀ (N:Nat) (l:List Nd),SizeOf.sizeOf l<N->RG u f l
  | 0,_,h=>absurd h (Nat.not_lt_zero _)
  | N+1,l,hN=>go_in u f l fun x hx q hq=>rg_all u f N q (Nat.lt_of_lt_of_le (z5k hx rfl hq) (Nat.le_of_lt_succ hN))
theorem rg (u:Un) (f:Fl) (l:List Nd):RG u f l:=rg_all u f _ l (Nat.lt_succ_self _)
def CH (u:Un) (f:Fl) (l:List Nd):Prop:=∀ (deep:Int) (w:Wh) (seen:List Int) (set:List Bool),set.length=f.types.length ->
  ((z1n u f deep w seen set l).1=true↔z2t u f deep w seen l=true/\Frs set (dL l))/\((z1n u f deep w seen set l).1=true->(z1n u f deep w seen set l).2=z2i set (dL l))
theorem z4d {q:Bool × List Bool} {k:List Bool->Bool × List Bool}:((andT q k).1=true↔q.1=true/\(k q.2).1=true)/\((andT q k).1=true->(andT q k).2=(k q.2).2):=by
  unfold andT
  cases q.1 with
  | false=>simp
  | true=>simp
theorem y9m (f:Fl) (x:Nd) (set:List Bool) (hn:set.length=f.types.length):((z9o f x set).1=true↔(zb2 x=true/\z21 f.types x.outs (zer x.outs)=true)/\Frs set x.outs)/\((z9o f x set).1=true->(z9o f x set).2=z2i set x.outs):=by
  obtain ⟨h1,h2⟩:=y0r f.types set x.outs (zer x.outs) hn
  unfold z9o andS
  show ((if zb2 x=true then _ else _:Bool × List Bool).1=true↔_)/\_
  by_cases ho:zb2 x=true
  ·simp only [ho,if_true,true_and]
   exact ⟨h1,fun h=>by
     have ho2:((x.outs.length:Int)==0 || !z01 x)=true:=ho
     rw [if_pos ho2] at h ⊢
     exact h2 h⟩
  have ho2:¬ ((x.outs.length:Int)==0 || !z01 x)=true:=ho
  rw [if_neg ho,if_neg ho2]
  simp [ho]
theorem node_iff (u:Un) (f:Fl) (x:Nd) (ih:∀ q∈x.kids,CH u f q) (deep:Int) (w:Wh) (seen:List Int) (set:List Bool) (hn:set.length=f.types.length) :
    ((z2v u f deep w seen set x).1=true↔z2r u f deep w seen x=true/\Frs set (dN x))/\((z2v u f deep w seen set x).1=true->(z2v u f deep w seen set x).2=z2i set (dN x)):=by
  cases hb:z12 x with
  | false =>
    rw [zb5 _ _ _ _ _ _ hb]
    refine ⟨⟨fun h=>(by cases h),fun h=>?_⟩,fun h=>by cases h⟩
    have:=z19 u f deep w seen h.1
    rw [hb] at this;cases this
  | true =>
    by_cases h10:x.kind=10
    ·obtain ⟨a,b,hk⟩:=z2k hb h10
     rw [zr1 _ _ _ _ _ _ hb h10 hk,z3w u f deep w seen hb h10 hk,dN_if hb h10 hk,show (⟨true,w.Loop,r8of f.types x.outs,w.Next,w.Left⟩:Wh)=w1 w f x from rfl]
     by_cases ht:z02 f.types seen x.args [2]=true
     ·rw [if_pos ht]
      obtain ⟨a1,a2⟩:=ih a (by rw [hk];simp) (deep+1) (w1 w f x) seen set hn
      have hna:(z2i set (dL a)).length=f.types.length:=(z3g _ _).trans hn
      obtain ⟨b1,b2⟩:=ih b (by rw [hk];simp) (deep+1) (w1 w f x) seen (z2i set (dL a)) hna
      have hnb:(z2i (z2i set (dL a)) (dL b)).length=f.types.length:=(z3g _ _).trans hna
      obtain ⟨e1,e2⟩:=y9m f x (z2i (z2i set (dL a)) (dL b)) hnb
      have key:(andT (z1n u f (deep+1) (w1 w f x) seen set a) (fun s1=>andT (z1n u f (deep+1) (w1 w f x) seen s1 b) fun s2=>z9o f x s2)).1=true ↔
          (z1n u f (deep+1) (w1 w f x) seen set a).1=true/\(z1n u f (deep+1) (w1 w f x) seen (z2i set (dL a)) b).1=true/\(z9o f x (z2i (z2i set (dL a)) (dL b))).1=true:=by
        rw [z4d.1]
        refine and_congr_right fun h=>?_
        rw [a2 h,z4d.1]
        exact and_congr_right fun h2=>by rw [b2 h2]
      refine ⟨?_,fun h=>?_⟩
      ·rw [key,a1,b1,e1]
       simp only [ht,Bool.true_and,Bool.and_eq_true]
       constructor
       ·rintro ⟨⟨c1,c2⟩,⟨c3,c4⟩,⟨c5,c6⟩,c7⟩
        have ra:=rg u f a _ _ _ (by simp only [z2t,Bool.and_eq_true] at c1;exact c1.2)
        have rb:=rg u f b _ _ _ (by simp only [z2t,Bool.and_eq_true] at c3;exact c3.2)
        exact ⟨⟨⟨⟨c1,c3⟩,c5⟩,c6⟩,(zl4 hn ra rb (z1k c6)).2 ⟨c2,c4,c7⟩⟩
       rintro ⟨⟨⟨⟨c1,c3⟩,c5⟩,c6⟩,c7⟩
       have ra:=rg u f a _ _ _ (by simp only [z2t,Bool.and_eq_true] at c1;exact c1.2)
       have rb:=rg u f b _ _ _ (by simp only [z2t,Bool.and_eq_true] at c3;exact c3.2)
       obtain ⟨d1,d2,d3⟩:=(zl4 hn ra rb (z1k c6)).1 c7
       exact ⟨⟨c1,d1⟩,⟨c3,d2⟩,⟨c5,c6⟩,d3⟩
      obtain ⟨k1,k2,k3⟩:=key.1 h
      have h':=(z4d.1.1 h).2
      rw [z4d.2 h,a2 k1]
      rw [a2 k1] at h'
      rw [z4d.2 h',b2 k2,e2 k3,z8k,z8k]
     rw [if_neg ht]
     refine ⟨⟨fun h=>(by cases h),fun h=>?_⟩,fun h=>by cases h⟩
     simp only [Bool.and_eq_true] at h
     exact absurd h.1.1.1.1.1 ht
    by_cases h11:x.kind=11
    ·obtain ⟨a,hk⟩:=z1m hb h11
     rw [zb6 _ _ _ _ _ _ hb h11 hk,z28 u f deep w seen hb h11 hk,zy6 hk,show (⟨false,true,[],r8of f.types x.params,r8of f.types x.outs⟩:Wh)=w2 f x from rfl,show List.replicate x.params.length 0=zer x.params from rfl]
     by_cases ht:z02 f.types seen x.args (r8of f.types x.params)=true
     ·rw [if_pos ht]
      obtain ⟨a1,a2⟩:=y0r f.types set x.params (zer x.params) hn
      have hna:(z2i set x.params).length=f.types.length:=(z3g _ _).trans hn
      obtain ⟨b1,b2⟩:=ih a (by rw [hk];simp) (deep+1) (w2 f x) (seen++x.params) (z2i set x.params) hna
      have hnb:(z2i (z2i set x.params) (dL a)).length=f.types.length:=(z3g _ _).trans hna
      obtain ⟨e1,e2⟩:=y9m f x (z2i (z2i set x.params) (dL a)) hnb
      have key:(andT (z1o f.types set x.params (zer x.params)) (fun s1=>andT (z1n u f (deep+1) (w2 f x) (seen++x.params) s1 a) fun s2=>z9o f x s2)).1=true ↔
          (z1o f.types set x.params (zer x.params)).1=true/\(z1n u f (deep+1) (w2 f x) (seen++x.params) (z2i set x.params) a).1=true/\(z9o f x (z2i (z2i set x.params) (dL a))).1=true:=by
        rw [z4d.1]
        refine and_congr_right fun h=>?_
        rw [a2 h,z4d.1]
        exact and_congr_right fun h2=>by rw [b2 h2]
      refine ⟨?_,fun h=>?_⟩
      ·rw [key,a1,b1,e1]
       simp only [ht,Bool.true_and,Bool.and_eq_true]
       constructor
       ·rintro ⟨⟨c1,c2⟩,⟨c3,c4⟩,⟨c5,c6⟩,c7⟩
        have rb:=rg u f a _ _ _ (by simp only [z2t,Bool.and_eq_true] at c3;exact c3.2)
        exact ⟨⟨⟨⟨c1,c3⟩,c5⟩,c6⟩,(zl4 hn (z1k c1) rb (z1k c6)).2 ⟨c2,c4,c7⟩⟩
       rintro ⟨⟨⟨⟨c1,c3⟩,c5⟩,c6⟩,c7⟩
       have rb:=rg u f a _ _ _ (by simp only [z2t,Bool.and_eq_true] at c3;exact c3.2)
       obtain ⟨d1,d2,d3⟩:=(zl4 hn (z1k c1) rb (z1k c6)).1 c7
       exact ⟨⟨c1,d1⟩,⟨c3,d2⟩,⟨c5,c6⟩,d3⟩
      obtain ⟨k1,k2,k3⟩:=key.1 h
      have h':=(z4d.1.1 h).2
      rw [z4d.2 h,a2 k1]
      rw [a2 k1] at h'
      rw [z4d.2 h',b2 k2,e2 k3,z8k,z8k]
     rw [if_neg ht]
     refine ⟨⟨fun h=>(by cases h),fun h=>?_⟩,fun h=>by cases h⟩
     simp only [Bool.and_eq_true] at h
     exact absurd h.1.1.1.1.1 ht
    have e10:(x.kind==10)=false:=by simpa using h10
    have e11:(x.kind==11)=false:=by simpa using h11
    rw [z7p _ _ _ _ _ _ hb e10 e11,z11 u f deep w seen hb e10 e11,y1f hb e10 e11,y4z]
    exact run_iff _ hn
theorem go_iff (u:Un) (f:Fl) (deep:Int) (w:Wh):∀ (l:List Nd),(∀ x∈l,∀ q∈x.kids,CH u f q)->∀ (all:List Int) (set:List Bool),set.length=f.types.length ->
    ((r8go u f deep w all set l).1=true↔vGo u f deep w all l=true/\Frs set (dL l))/\((r8go u f deep w all set l).1=true->(r8go u f deep w all set l).2=z2i set (dL l))
  | [],_,all,set,_=>by simp [r8go,vGo,dL,Frs,z2i]
  | x::r,ih,all,set,hn=>by
    obtain ⟨n1,n2⟩:=node_iff u f x (ih x (.head _)) deep w all set hn
    have hm:(z2i set (dN x)).length=f.types.length:=(z3g _ _).trans hn
    obtain ⟨r1,r2⟩:=go_iff u f deep w r (fun y hy=>ih y (.tail _ hy)) (all++x.outs) (z2i set (dN x)) hm
    unfold r8go vGo
    by_cases hd:deep > 100
    ·rw [if_pos hd]
     simp [hd]
    rw [if_neg hd]
    have hdb:(!decide (deep > 100))=true:=by simpa using hd
    by_cases hc:(z01 x != r.isEmpty)=true
    ·have hcb:(z01 x==r.isEmpty)=false:=by
       cases hcc:(z01 x==r.isEmpty) with
       | false=>rfl
       | true=>simp [bne,hcc] at hc
     simp only [if_pos hc,hcb,Bool.and_false,Bool.false_and,Bool.false_eq_true,false_and,iff_false,Bool.not_eq_true]
     have:(andT (z2v u f deep w all set x) fun s1=>(false,s1)).1=false:=by
       unfold andT;split<;>rfl
     exact ⟨this,fun h=>by rw [this] at h;cases h⟩
    have hcb:(z01 x==r.isEmpty)=true:=by
      cases hcc:(z01 x==r.isEmpty) with
      | true=>rfl
      | false=>simp [bne,hcc] at hc
    simp only [if_neg hc,hcb,hdb,Bool.true_and,Bool.and_true,Bool.and_eq_true]
    have key:(andT (z2v u f deep w all set x) fun s1=>r8go u f deep w (all++x.outs) s1 r).1=true↔(z2v u f deep w all set x).1=true/\(r8go u f deep w (all++x.outs) (z2i set (dN x)) r).1=true:=by
      rw [z4d.1]
      exact and_congr_right fun h=>by rw [n2 h]
    refine ⟨?_,fun h=>?_⟩
    ·rw [key,n1,r1]
     constructor
     ·rintro ⟨⟨c1,c2⟩,c3,c4⟩
      exact ⟨⟨c1,c3⟩,(zo8 hn (y44 u f x (fun q _=>rg u f q) _ _ _ c1) (rg u f r _ _ _ c3)).2 ⟨c2,c4⟩⟩
     rintro ⟨⟨c1,c3⟩,c4⟩
     obtain ⟨d1,d2⟩:=(zo8 hn (y44 u f x (fun q _=>rg u f q) _ _ _ c1) (rg u f r _ _ _ c3)).1 c4
     exact ⟨⟨c1,d1⟩,c3,d2⟩
    obtain ⟨k1,k2⟩:=key.1 h
    rw [z4d.2 h,n2 k1,r2 k2]
    show _=z2i set (dN x++dL r)
    rw [z8k]
theorem ch_all (u:Un) (f:Fl):∀ (N:Nat) (l:List Nd),SizeOf.sizeOf l<N->CH u f l
  | 0,_,h=>absurd h (Nat.not_lt_zero _)
  | N+1,l,hN=>by
    intro deep w seen set hn
    obtain ⟨h1,h2⟩:=go_iff u f deep w l (fun x hx q hq=>ch_all u f N q (Nat.lt_of_lt_of_le (z5k hx rfl hq) (Nat.le_of_lt_succ hN))) seen set hn
    unfold z1n ne z2t
    cases l with
    | nil=>simp
    | cons x r=>simpa using ⟨h1,h2⟩
theorem z9f (u:Un) (f:Fl) (l:List Nd) (deep:Int) (w:Wh) (seen:List Int) (set:List Bool) (hn:set.length=f.types.length):(z1n u f deep w seen set l).1=true↔z2t u f deep w seen l=true/\Frs set (dL l) :=
  (ch_all u f _ l (Nat.lt_succ_self _) deep w seen set hn).1
theorem za2 {x:Nd} (h:z80 x=true):(x.kind=1∨x.kind=2∨x.kind=3∨x.kind=4):=by
  simp only [z80,Bool.or_eq_true,Bool.and_eq_true,beq_iff_eq] at h
  rcases h with ((h | h) | h) | h
  ·exact .inl h
  ·exact .inr (.inl h)
  ·exact .inr (.inr (.inl h))
  exact .inr (.inr (.inr h.1.1))
theorem ya9 {x:Nd} (h:z80 x=true):(x.kind==10)=false/\(x.kind==11)=false/\z01 x=false/\z20 x=false:=by
  have hk:=za2 h
  have h10:(x.kind==10)=false:=by simp;omega
  have h11:(x.kind==11)=false:=by simp;omega
  have h14:(x.kind==14)=false:=by simp;omega
  refine ⟨h10,h11,?_,?_⟩
  ·simp only [z01,h10,h11,Bool.false_and,Bool.false_eq_true,if_false,z0q]
   simp;omega
  rw [z3h,h10,h14];rfl
theorem y9k:∀ (a b:List Nd),dL (a++b)=dL a++dL b
  | [],_=>rfl
  | x::r,b=>by simp only [List.cons_append,dL,y9k r b,List.append_assoc]
def Oks (B:Int) (s:Rs):Prop:=0<=s.fuel/\0<=s.cost/\s.cost+s.fuel<=B
def Live (s:Rs):Prop:=s.spent=false/\s.st=0
def dec (s:Rs):Rs:={ s with fuel:=s.fuel - 1 }
def gone (s:Rs):Rs:={ s with spent:=true }
def bmp (s:Rs):Rs:={ s with cost:=s.cost+1 }
theorem ym8 {n:Int} (h:0<=n) (h2:n<=4611686018427387904):w64 n=n:=IntWalk.i64_in n oM0
theorem z6q {s:Rs}:z0z s=false↔Live s:=by
  unfold z0z Live
  simp
theorem z0t {s:Rs} (h:Live s):z0z s=false:=z6q.2 h
theorem zj0 {s:Rs} {B:Int} (hB:B<=4611686018427387903) (ho:Oks B s):z57 s=bmp s:=by
  obtain ⟨h1,h2,h3⟩:=ho
  unfold z57 bmp
  rw [ym8 oM0 oM0]
theorem zx8 {s:Rs} {B:Int} (hB:B<=4611686018427387903) (ho:Oks B s) (hl:Live s):(s.fuel<1/\z85 s=(false,gone s))∨(1<=s.fuel/\z85 s=(true,dec s)):=by
  obtain ⟨h1,h2,h3⟩:=ho
  unfold z85
  rw [z0t hl]
  simp only [Bool.false_eq_true,if_false]
  by_cases h:s.fuel<1
  ·rw [if_pos h];exact .inl ⟨h,rfl⟩
  rw [if_neg h,ym8 oM0 oM0];exact .inr ⟨by omega,rfl⟩
theorem y5t {u:Un} {d:Nat} {x:Nd} {l:List Nd} {a:List Int} {s:Rs} {r:Rres} {B:Int} (hB:B<=4611686018427387903) (h:z1s u d (x::l) a s=some r) (ho:Oks B s) (hl:Live s) :
    ∃ d1,d=d1+1/\((s.fuel<1/\r=((0,[]),a,gone s))∨(1<=s.fuel/\∃ p r1,mOf a x.args=some p/\z4t (z1s u d1) (z36 u d1) (mSum u d1) x p a (dec s)=some r1/\(if z0z r1.2.2||r1.1.1 != 0 then some r1 else z1s u d1 l r1.2.1 r1.2.2)=some r)):=by
  obtain ⟨d1,rfl,h2⟩:=z71 rfl h
  refine ⟨d1,rfl,?_⟩
  rcases zx8 hB ho hl with ⟨h3,h4⟩ | ⟨h3,h4⟩
  ·rw [h4] at h2
   rcases h2 with ⟨_,h2⟩ | ⟨h2,_⟩
   ·exact .inl ⟨h3,h2⟩
   cases h2
  rw [h4] at h2
  rcases h2 with ⟨h2,_⟩ | ⟨_,h2⟩
  ·cases h2
  exact .inr ⟨h3,h2⟩
def hc (x:Nd):Nat:=if x.kind=3∨x.kind=4 then 1 else 0
def y3w (x:Nd) (p:List Int):Option Int :=
  if x.kind=1∨x.kind=2 then some x.n
  else if x.kind=3 then (p[0]?).map fun a=>mOne x.op a
  else (p[0]?).bind fun a=>(p[1]?).map fun b=>(mTwo x.op a b).1
def HL (x:Nd):Prop:=z80 x=true/\(x.kind=4->z1t x.op=true)/\x.outs≠[]
def hRun (x:Nd) (a a2:List Int):Prop:=∃ p y o,mOf a x.args=some p/\y3w x p=some y/\x.outs[0]? = some o/\setV a o y=some a2
theorem two_ok {op a b:Int} (h:z1t op=true) (h4:op≠4) (h5:op≠5):(mTwo op a b).2=true:=by
  simp only [z1t,Bool.and_eq_true,decide_eq_true_eq] at h
  have:op=1∨op=2∨op=3∨op=6∨op=7∨op=8∨op=9∨op=10∨op=11∨op=12∨op=13∨op=14∨op=15∨op=16∨op=17:=by omega
  rcases this with rfl | rfl | rfl | rfl | rfl | rfl | rfl | rfl | rfl | rfl | rfl | rfl | rfl | rfl | rfl<;>rfl
def hSt (x:Nd) (s:Rs):Rs:={ s with cost:=s.cost+hc x }
theorem hc_01 (x:Nd):hc x=0∨hc x=1:=by unfold hc;split<;>simp
theorem hSt0 {x:Nd} {s:Rs} (h:hc x=0):hSt x s=s:=by unfold hSt;rw [h];simp
theorem y79 {u:Un} {d:Nat} {x:Nd} {p a:List Int} {s:Rs} {r:Rres} {B:Int} (hB:B<=4611686018427387903) (ho:Oks B s) (hl:Live s) (hx:HL x) (h:z4t (z1s u d) (z36 u d) (mSum u d) x p a s=some r) :
    ∃ y o a2,y3w x p=some y/\x.outs[0]? = some o/\setV a o y=some a2/\r=((0,[]),a2,hSt x s):=by
  obtain ⟨h1,h2,h3⟩:=hx
  obtain ⟨n10,n11,_,_⟩:=ya9 h1
  have hk:=za2 h1
  rcases hk with hk | hk | hk | hk
  ·obtain ⟨o,v2,g1,g2,rfl⟩:=z72 h (by rw [hk];rfl)
   exact ⟨x.n,o,v2,by simp [y3w,hk],g1,g2,by rw [hSt0];simp [hc,hk]⟩
  ·obtain ⟨o,v2,g1,g2,rfl⟩:=z72 h (by rw [hk];rfl)
   exact ⟨x.n,o,v2,by simp [y3w,hk],g1,g2,by rw [hSt0];simp [hc,hk]⟩
  ·obtain ⟨r1,g1,g2⟩:=z73 h (by rw [hk];rfl) (by rw [hk];rfl) n10 n11
   obtain ⟨d',rfl⟩:=z6o g1
   obtain ⟨a0,g3,rfl⟩:=z98 g1 (by rw [hk];rfl)
   rw [zj0 hB ho] at g2
   have hov:z0z (bmp s)=false:=z0t hl
   rw [hov] at g2
   have hlen:0<x.outs.length:=List.length_pos_iff.2 h3
   simp only [Bool.not_false,Bool.true_and,decide_eq_true hlen,if_true,Option.bind_eq_some_iff,Option.map_eq_some_iff] at g2
   obtain ⟨o,g4,v2,g5,rfl⟩:=g2
   exact ⟨_,o,v2,by simp [y3w,hk,g3],g4,g5,by simp [hSt,hc,hk,bmp]⟩
  have h4:=h2 hk
  have hop:x.op≠4/\x.op≠5:=by
    simp only [z80,hk] at h1
    simpa using h1
  obtain ⟨r1,g1,g2⟩:=z73 h (by rw [hk];rfl) (by rw [hk];rfl) n10 n11
  obtain ⟨d',rfl⟩:=z6o g1
  obtain ⟨a0,a1,g3,g3',rfl⟩:=z99 g1 (by rw [hk];rfl)
  rw [two_ok h4 hop.1 hop.2,if_pos rfl,zj0 hB ho] at g2
  have hov:z0z (bmp s)=false:=z0t hl
  rw [hov] at g2
  have hlen:0<x.outs.length:=List.length_pos_iff.2 h3
  simp only [Bool.not_false,Bool.true_and,decide_eq_true hlen,if_true,Option.bind_eq_some_iff,Option.map_eq_some_iff] at g2
  obtain ⟨o,g4,v2,g5,rfl⟩:=g2
  exact ⟨_,o,v2,by simp [y3w,hk,g3,g3'],g4,g5,by simp [hSt,hc,hk,bmp]⟩
structure Ext (B:Int) (s t:Rs):Prop where
  ok:Oks B t
  out:s.out <+: t.out
  ar:t.ar.length=s.ar.length
  fuel:t.fuel<=s.fuel
theorem Ext.rfl {B:Int} {s:Rs} (h:Oks B s):Ext B s s:=⟨h,List.prefix_refl _,Eq.refl _,Int.le_refl _⟩
theorem Ext.trans {B:Int} {s t w:Rs} (h:Ext B s t) (h2:Ext B t w):Ext B s w:=⟨h2.ok,h.out.trans h2.out,h2.ar.trans h.ar,Int.le_trans h2.fuel h.fuel⟩
theorem zp2 {s:Rs} {k n:Int} {q:Bool × Rs} (h:z8f s k n=some q):(q=(false,{ s with st:=3 }))∨q=(true,s):=by
  unfold z8f at h
  split at h
  ·cases h;exact .inl (Eq.refl _)
  split at h
  ·obtain ⟨row,h1,h2⟩:=Option.bind_eq_some_iff.1 h
   split at h2
   ·cases h2;exact .inl (Eq.refl _)
   cases h2;exact .inr (Eq.refl _)
  cases h
theorem sum_ext {u:Un} {d:Nat} {x:Nd} {p:List Int} {s:Rs} {r:Int × Rs} {B:Int} (hB:B<=4611686018427387903) (ho:Oks B s) (ho1:s.cost+s.fuel+1<=B)
    (hC:∀ d' k a r,d=d'+1->z3r u d' k a (bmp s)=some r->Ext B (bmp s) r.2) (h:mSum u d x p s=some r):Ext B s r.2:=by
  obtain ⟨d',rfl⟩:=z6o h
  have hb:Oks B (bmp s):=⟨ho.1,by have:=ho.2.1;show 0<=s.cost+1;omega,by show s.cost+1+s.fuel<=B;omega⟩
  have e:=zj0 hB ho
  have E0:Ext B s (bmp s):=⟨hb,List.prefix_refl _,Eq.refl _,Int.le_refl _⟩
  have ne:∀ {i:Int},x.kind≠i->(x.kind==i)=false:=fun h=>beq_eq_false_iff_ne.2 h
  by_cases k3:x.kind=3
  ·obtain ⟨a0,_,rfl⟩:=z98 h (beq_iff_eq.2 k3);rw [e];exact E0
  by_cases k4:x.kind=4
  ·obtain ⟨a0,a1,_,_,rfl⟩:=z99 h (beq_iff_eq.2 k4)
   rw [e]
   split
   ·exact E0
   exact ⟨hb,List.prefix_refl _,Eq.refl _,Int.le_refl _⟩
  by_cases k5:x.kind=5
  ·obtain ⟨a0,b,s',_,h2,h3⟩:=z74 h k5
   rw [e] at h2 h3
   rcases h3 with ⟨rfl,rfl⟩ | ⟨rfl,row,y,_,_,rfl⟩
   ·rcases zp2 h2 with h4 | h4
    ·obtain ⟨_,rfl⟩:=Prod.mk.inj h4
     exact ⟨hb,List.prefix_refl _,Eq.refl _,Int.le_refl _⟩
    cases (Prod.mk.inj h4).1
   exact E0
  by_cases k6:x.kind=6
  ·obtain ⟨a0,b,s',_,h2,h3⟩:=z65 h k6
   rw [e] at h2 h3
   rcases h3 with ⟨rfl,rfl⟩ | ⟨rfl,row,y,_,_,rfl⟩
   ·rcases zp2 h2 with h4 | h4
    ·obtain ⟨_,rfl⟩:=Prod.mk.inj h4
     exact ⟨hb,List.prefix_refl _,Eq.refl _,Int.le_refl _⟩
    cases (Prod.mk.inj h4).1
   exact ⟨hb,List.prefix_refl _,by simp [bmp],Int.le_refl _⟩
  by_cases k7:x.kind=7
  ·have h2:=z8h h (beq_iff_eq.2 k7)
   rw [e] at h2
   exact E0.trans (hC _ _ _ _ (Eq.refl _) h2)
  by_cases k9:x.kind=9
  ·obtain ⟨a0,_,_,rfl⟩:=z75 h (beq_iff_eq.2 k9)
   rw [e]
   exact ⟨hb,List.prefix_append _ _,Eq.refl _,Int.le_refl _⟩
  by_cases k8:x.kind=8
  ·rcases z8j h (beq_iff_eq.2 k8) with ⟨_,rfl⟩ | ⟨y,q,_,rfl⟩<;>rw [e]<;>exact ⟨hb,List.prefix_refl _,Eq.refl _,Int.le_refl _⟩
  obtain rfl:=z8i h (ne k3) (ne k4) (ne k5) (ne k6) (ne k7) (ne k9) (ne k8)
  rw [e];exact E0
theorem z44 {s:Rs} {B:Int} (ho:Oks B s) (h:1<=s.fuel):Oks B (dec s)/\(dec s).cost+(dec s).fuel+1<=B:=by
  obtain ⟨h1,h2,h3⟩:=ho
  refine ⟨⟨?_,h2,?_⟩,?_⟩
  ·show 0<=s.fuel - 1;omega
  ·show s.cost+(s.fuel - 1)<=B;omega
  show s.cost+(s.fuel - 1)+1<=B;omega
theorem yd5 {u:Un} {d:Nat} {l:List Nd} {a:List Int} {s:Rs} {r:Rres} (h:z1s u d l a s=some r) (ho:z0z s=true):r=((0,[]),a,s):=by
  cases l with
  | nil=>exact y24 h
  | cons x l =>
    obtain ⟨d1,rfl,h2⟩:=z71 rfl h
    have:z85 s=(false,s):=by unfold z85;rw [ho];rfl
    rw [this] at h2
    rcases h2 with ⟨_,h2⟩ | ⟨h2,_⟩
    ·exact h2
    cases h2
theorem zy8 (u:Un) {B:Int} (hB:B<=4611686018427387903):∀ d,
    (∀ l a s r,z1s u d l a s=some r->Oks B s->Ext B s r.2.2)/\(∀ x p a s r,z36 u d x p a s=some r->Oks B s->Ext B s r.2.2) /\
    (∀ k p s r,z3r u d k p s=some r->Oks B s->Ext B s r.2)/\∀ x p s r,mSum u d x p s=some r->Oks B s->s.cost+s.fuel+1<=B->Ext B s r.2
  | 0=>⟨fun _ _ _ _ h=>by simp [z1s] at h,fun _ _ _ _ _ h=>by simp [z36] at h,fun _ _ _ _ h=>by simp [z3r] at h,fun _ _ _ _ h=>by simp [mSum] at h⟩
  | d+1=>by
    obtain ⟨i1,i2,i3,i4⟩:=zy8 u hB d
    refine ⟨fun l a s r h ho=>?_,fun x p a s r h ho=>?_,fun k p s r h ho=>?_,fun x p s r h ho ho1=>?_⟩
    ·cases l with
     | nil=>rw [y24 h];exact Ext.rfl ho
     | cons x l =>
       cases hov:z0z s with
       | true=>rw [yd5 h hov];exact Ext.rfl ho
       | false =>
         obtain ⟨d1,e,h2⟩:=y5t hB h ho (z6q.1 hov)
         obtain rfl:d1=d:=by omega
         rcases h2 with ⟨_,rfl⟩ | ⟨hf,p,r1,_,h3,h4⟩
         ·exact ⟨ho,List.prefix_refl _,rfl,Int.le_refl _⟩
         obtain ⟨o1,o2⟩:=z44 ho hf
         have E0:Ext B s (dec s):=⟨o1,List.prefix_refl _,rfl,by show s.fuel - 1<=s.fuel;omega⟩
         have E1:Ext B (dec s) r1.2.2:=by
           unfold z4t at h3
           split at h3
           ·simp only [Option.bind_eq_some_iff,Option.map_eq_some_iff] at h3
            obtain ⟨o,_,v',_,rfl⟩:=h3
            exact Ext.rfl o1
           split at h3
           ·cases h3;exact Ext.rfl o1
           split at h3
           ·simp only [Option.bind_eq_some_iff] at h3
            obtain ⟨a0,_,q,_,r2,h5,h6⟩:=h3
            have h7:=i1 _ _ _ _ h5 o1
            split at h6
            ·simp only [Option.map_eq_some_iff] at h6
             obtain ⟨v',_,rfl⟩:=h6
             exact h7
            cases h6;exact h7
           split at h3
           ·exact i2 _ _ _ _ _ h3 o1
           simp only [Option.bind_eq_some_iff] at h3
           obtain ⟨r2,h5,h6⟩:=h3
           have h7:=i4 _ _ _ _ h5 o1 o2
           split at h6
           ·simp only [Option.bind_eq_some_iff,Option.map_eq_some_iff] at h6
            obtain ⟨o,_,v',_,rfl⟩:=h6
            exact h7
           cases h6;exact h7
         split at h4
         ·cases h4;exact E0.trans E1
         exact (E0.trans E1).trans (i1 _ _ _ _ h4 E1.ok)
    ·obtain ⟨d1,v2,q,r1,e,_,_,h3,h4⟩:=z4k h
     obtain rfl:d1=d:=by omega
     have E1:=i1 _ _ _ _ h3 ho
     split at h4
     ·cases h4;exact E1
     split at h4
     ·simp only [Option.map_eq_some_iff] at h4
      obtain ⟨v',_,rfl⟩:=h4
      exact E1
     exact E1.trans (i2 _ _ _ _ _ h4 E1.ok)
    ·obtain ⟨d1,f,r1,e,_,_,_,_,h3,rfl⟩:=z5x h
     obtain rfl:d1=d:=by omega
     exact i1 _ _ _ _ h3 ho
    refine sum_ext hB ho ho1 (fun d' k a r e h2=>?_) h
    obtain rfl:d'=d:=by omega
    have hb:Oks B (bmp s):=⟨ho.1,by have:=ho.2.1;show 0<=s.cost+1;omega,by show s.cost+1+s.fuel<=B;omega⟩
    exact i3 _ _ _ _ h2 hb
theorem z6m {u:Un} {d:Nat} {l:List Nd} {a:List Int} {s:Rs} {r:Rres} {B:Int} (hB:B<=4611686018427387903) (h:z1s u d l a s=some r) (ho:Oks B s):Ext B s r.2.2:=(zy8 u hB d).1 _ _ _ _ h ho
theorem zc9 {u:Un} {d:Nat} {x:Nd} {p a:List Int} {s:Rs} {r:Rres} {B:Int} (hB:B<=4611686018427387903) (h:z36 u d x p a s=some r) (ho:Oks B s):Ext B s r.2.2:=(zy8 u hB d).2.1 _ _ _ _ _ h ho
theorem y3p {u:Un} {d:Nat} {x:Nd} {p:List Int} {s:Rs} {r:Int × Rs} {B:Int} (hB:B<=4611686018427387903) (h:mSum u d x p s=some r) (ho:Oks B s) (ho1:s.cost+s.fuel+1<=B):Ext B s r.2:=(zy8 u hB d).2.2.2 _ _ _ _ h ho ho1
section
structure KF where
  k:Int
  outs:List Int
  rest:List Nd
mutual
def nsz:Nd->Nat
  | .mk _ _ _ _ _ _ _ ks=>1+kdz ks
def lsz:List Nd->Nat
  | []=>0
  | x::r=>nsz x+lsz r
def kdz:List (List Nd)->Nat
  | []=>0
  | l::r=>lsz l+kdz r
end
theorem zw5 (x:Nd):nsz x=1+kdz x.kids:=by cases x;simp [nsz,Nd.kids]
def ksz:List KF->Nat
  | []=>0
  | f::K=>lsz f.rest+ksz K
abbrev VR:=List Int->List Int->Prop
abbrev ER:=Int->List Int->List Int->List Int->List Int->Prop
def setO (outs a:List Int) (y:Int) (a2:List Int):Prop:=match outs with
  | []=>a2=a
  | o::_=>setV a o y=some a2
inductive LRel:Nat->Nat->VR->List Nd->List KF->List Nd->ER->Prop
  | dead {I l K l' E}:(∀ a b,¬ I a b)->LRel 0 0 I l K l' E
  | weak {k c I I' l K l' E}:(∀ a b,I a b->I' a b)->LRel k c I' l K l' E->LRel k c I l K l' E
  | both {k c I J x x' l K l' E}:HL x->HL x'->hc x'<=hc x->(∀ a b a2 b2,I a b->hRun x a a2->hRun x' b b2->J a2 b2)->LRel k c J l K l' E->LRel k c I (x::l) K (x'::l') E
  | skip {k c I J x l K l' E}:HL x->(∀ a b a2,I a b->hRun x a a2->J a2 b)->LRel k c J l K l' E->LRel k c I (x::l) K l' E
  | paid {k c I J x l K l' E}:HL x->(∀ a b a2,I a b->hRun x a a2->J a2 b)->l≠[]->LRel k c J l K l' E->LRel (k+1) (c+hc x) I (x::l) K l' E
  | add {k c I J x' l K l' E}:HL x'->l≠[]->(∀ a b b2,I a b->hRun x' b b2->J a b2)->LRel (k+1) (c+hc x') J l K l' E->LRel k c I l K (x'::l') E
  | eff {I J x x' l K l' E}:(x.kind≠1/\x.kind≠2/\x.kind≠10/\x.kind≠11/\x.kind≠12/\x.kind≠13/\x.kind≠14/\x.kind≠15)->x'.kind=x.kind->x'.op=x.op->x'.name=x.name->x'.outs.length=x.outs.length ->
      (∀ a b p p',I a b->mOf a x.args=some p->mOf b x'.args=some p'->p'=p)->(∀ a b a2 b2 y,I a b->setO x.outs a y a2->setO x'.outs b y b2->J a2 b2)->LRel 0 0 J l K l' E->LRel 0 0 I (x::l) K (x'::l') E
  | ite {I J E2 x x' q0 q1 q0' q1' l K l' E}:x.kind=10->x'.kind=10->x.kids=[q0,q1]->x'.kids=[q0',q1']->(∀ a b p p',I a b->mOf a x.args=some p->mOf b x'.args=some p'->p'[0]? = p[0]?) ->
      LRel 0 0 I q0 [] q0' E2->LRel 0 0 I q1 [] q1' E2 ->
      (∀ n p p' a b,E2 n p p' a b->(n=12/\∀ a2 b2,mSet a x.outs p=some a2->mSet b x'.outs p'=some b2->J a2 b2)∨(n≠12/\n≠0/\(K=[]∨n=15)/\E n p p' a b)) ->
      LRel 0 0 J l K l' E->LRel 0 0 I (x::l) K (x'::l') E
  | loop {k c I I2 J E2 x x' q q' l K l' E}:x.kind=11->x'.kind=11->x.kids=[q]->x'.kids=[q'] ->
      (∀ a b p p' a2 b2,I a b->mOf a x.args=some p->mOf b x'.args=some p'->mSet a x.params p=some a2->mSet b x'.params p'=some b2->I2 a2 b2) ->
      LRel k c I2 q [] q' E2 ->
      (∀ n p p' a b,E2 n p p' a b->(n=15/\E 15 p p' a b)∨(n=14/\∀ a2 b2,mSet a x.outs p=some a2->mSet b x'.outs p'=some b2->J a2 b2)∨(n=13/\∀ a2 b2,mSet a x.params p=some a2->mSet b x'.params p'=some b2->I2 a2 b2)) ->
      LRel 0 0 J l K l' E->LRel k c I (x::l) K (x'::l') E
  | ender {I x x' l K l' E}:12<=x.kind->x.kind<=15->x'.kind=x.kind->(K=[]∨x.kind=15)->(∀ a b p p',I a b->mOf a x.args=some p->mOf b x'.args=some p'->E x.kind p p' a b)->LRel 0 0 I (x::l) K (x'::l') E
  | once {k c I J x q l K l' E}:x.kind=11->x.kids=[q]->(∀ a b p a2,I a b->mOf a x.args=some p->mSet a x.params p=some a2->J a2 b)->LRel k c J q (⟨14,x.outs,l⟩::K) l' E->LRel k c I (x::l) K l' E
  | leave {k c I J y l f K l' E}:y.kind=f.k->f.k=12∨f.k=14->(∀ a b p a2,I a b->mOf a y.args=some p->mSet a f.outs p=some a2->J a2 b)->LRel k c J f.rest K l' E->LRel k c I (y::l) (f::K) l' E
  | fork {k c I x q0 q1 l K l' E}:x.kind=10->x.kids=[q0,q1]->LRel k c I q0 (⟨12,x.outs,l⟩::K) l' E->LRel k c I q1 (⟨12,x.outs,l⟩::K) l' E->LRel k c I (x::l) K l' E
theorem LRel.nil {k c:Nat} {I:VR} {l:List Nd} {K:List KF} {l':List Nd} {E:ER} (h:LRel k c I l K l' E):l=[]->k=0:=by
  induction h with
  | dead _=>exact fun _=>rfl
  | weak _ _ ih=>exact ih
  | add _ h1 _ _ _=>exact fun e=>absurd e h1
  | _=>intro e;cases e
def KFin (u:Un) (D:Nat):List KF->Rres->Rres->Prop
  | [],r1,r=>r=r1
  | f::K,r1,r=>if r1.1.1=15 then r=r1 else if r1.1.1=f.k then ∃ a2 d r2,d<=D/\mSet r1.2.1 f.outs r1.1.2=some a2/\z1s u d f.rest a2 r1.2.2=some r2/\(if z0z r2.2.2=true then r=r2 else KFin u D K r2 r) else r1.2.2.out <+: r.2.2.out
def KRun (u:Un) (D:Nat) (l:List Nd) (K:List KF) (a:List Int) (s:Rs) (r:Rres):Prop:=∃ d r1,d<=D/\z1s u d l a s=some r1/\(if z0z r1.2.2=true then r=r1 else KFin u D K r1 r)
def KNext (u:Un) (D:Nat) (l:List Nd) (K:List KF) (r1 r:Rres):Prop:=(z0z r1.2.2=true/\r=r1)∨(Live r1.2.2/\r1.1.1≠0/\KFin u D K r1 r)∨(Live r1.2.2/\r1.1.1=0/\KRun u D l K r1.2.1 r1.2.2 r)
section
variable {u:Un} {D:Nat} {l:List Nd} {K:List KF} {a:List Int} {s:Rs} {r:Rres} {B:Int}
theorem KFin.out (hB:B<=4611686018427387903):∀ {K:List KF} {r1 r:Rres},KFin u D K r1 r->Oks B r1.2.2->r1.2.2.out <+: r.2.2.out
  | [],r1,r,h,ho=>by obtain rfl:r=r1:=h;exact List.prefix_refl _
  | f::K,r1,r,h,ho=>by
    unfold KFin at h
    split at h
    ·subst h;exact List.prefix_refl _
    split at h
    ·obtain ⟨a2,d,r2,_,_,h2,h3⟩:=h
     have e:=z6m hB h2 ho
     split at h3
     ·subst h3;exact e.out
     exact e.out.trans (KFin.out hB h3 e.ok)
    exact h
theorem KRun.out (hB:B<=4611686018427387903) (h:KRun u D l K a s r) (ho:Oks B s):s.out <+: r.2.2.out:=by
  obtain ⟨d,r1,_,h1,h2⟩:=h
  have e:=z6m hB h1 ho
  split at h2
  ·subst h2;exact e.out
  exact e.out.trans (KFin.out hB h2 e.ok)
theorem KNext.out {r1:Rres} (hB:B<=4611686018427387903) (h:KNext u D l K r1 r) (ho:Oks B r1.2.2):r1.2.2.out <+: r.2.2.out:=by
  rcases h with ⟨_,rfl⟩ | ⟨_,_,h⟩ | ⟨_,_,h⟩
  ·exact List.prefix_refl _
  ·exact KFin.out hB h ho
  exact h.out hB ho
theorem zk6 {x:Nd} (hB:B<=4611686018427387903) (h:KRun u D (x::l) K a s r) (ho:Oks B s) (hl:Live s) :
    (s.fuel<1/\r=((0,[]),a,gone s))∨(1<=s.fuel/\∃ d1 p r1,d1<D/\mOf a x.args=some p/\z4t (z1s u d1) (z36 u d1) (mSum u d1) x p a (dec s)=some r1/\KNext u D l K r1 r):=by
  obtain ⟨d,r0,hd,h1,h2⟩:=h
  obtain ⟨d1,rfl,h3⟩:=y5t hB h1 ho hl
  rcases h3 with ⟨h3,rfl⟩ | ⟨h3,p,r1,h4,h5,h6⟩
  ·rw [if_pos (by simp [z0z,gone])] at h2
   exact .inl ⟨h3,h2⟩
  refine .inr ⟨h3,d1,p,r1,hd,h4,h5,?_⟩
  cases hov:z0z r1.2.2 with
  | true =>
    rw [hov] at h6
    cases h6
    rw [if_pos hov] at h2
    exact .inl ⟨hov,h2⟩
  | false =>
    rw [hov] at h6
    by_cases hk:r1.1.1=0
    ·rw [hk] at h6
     exact .inr (.inr ⟨z6q.1 hov,hk,d1,r0,by omega,h6,h2⟩)
    have:(false||r1.1.1 != 0)=true:=by simpa using hk
    rw [if_pos this] at h6
    cases h6
    rw [if_neg (by rw [hov];decide)] at h2
    exact .inr (.inl ⟨z6q.1 hov,hk,h2⟩)
theorem z5o (hl:Live s):Live (dec s):=hl
theorem y00 {x:Nd} (hl:Live s):Live (hSt x s):=hl
theorem zj7 {x:Nd} (ho:Oks B s) (h:1<=s.fuel):Oks B (hSt x (dec s)):=by
  obtain ⟨h1,h2,h3⟩:=ho
  have:=hc_01 x
  refine ⟨?_,?_,?_⟩
  ·show 0<=s.fuel - 1;omega
  ·show 0<=s.cost+(hc x:Int);omega
  show s.cost+(hc x:Int)+(s.fuel - 1)<=B;omega
theorem y1u {x:Nd} (hB:B<=4611686018427387903) (hx:HL x) (h:KRun u D (x::l) K a s r) (ho:Oks B s) (hl:Live s) :
    (s.fuel<1/\r=((0,[]),a,gone s))∨(1<=s.fuel/\∃ a2,hRun x a a2/\KRun u D l K a2 (hSt x (dec s)) r):=by
  rcases zk6 hB h ho hl with h1 | ⟨h1,d1,p,r1,_,h2,h3,h4⟩
  ·exact .inl h1
  obtain ⟨y,o,a2,g1,g2,g3,rfl⟩:=y79 hB (z44 ho h1).1 (z5o hl) hx h3
  refine .inr ⟨h1,a2,⟨p,y,o,h2,g1,g2,g3⟩,?_⟩
  rcases h4 with ⟨h5,_⟩ | ⟨_,h5,_⟩ | ⟨_,_,h5⟩
  ·have:z0z (hSt x (dec s))=false:=z0t hl
   rw [show (((0,[]),a2,hSt x (dec s)):Rres).2.2=hSt x (dec s) from rfl,this] at h5
   cases h5
  ·exact absurd rfl h5
  exact h5
theorem y2e {x:Nd} {q:List Nd} (hB:B<=4611686018427387903) (hx:x.kind=11) (hq:x.kids=[q]) (h:KRun u D (x::l) K a s r) (ho:Oks B s) (hl:Live s) :
    (s.fuel<1/\r=((0,[]),a,gone s))∨(1<=s.fuel/\∃ p a2,mOf a x.args=some p/\mSet a x.params p=some a2/\KRun u D q (⟨14,x.outs,l⟩::K) a2 (dec s) r):=by
  rcases zk6 hB h ho hl with h1 | ⟨h1,d1,p,r1,hd,h2,h3,h4⟩
  ·exact .inl h1
  have h5:=z5y h3 (by rw [hx];rfl)
  have ho1:=(z44 ho h1).1
  obtain ⟨d2,v2,q2,r2,rfl,g1,g2,g3,g4⟩:=z4k h5
  rw [hq] at g2
  obtain rfl:q=q2:=by simpa using g2
  refine .inr ⟨h1,p,v2,h2,g1,d2,r2,by omega,g3,?_⟩
  have e:=z6m hB g3 ho1
  cases hov:z0z r2.2.2 with
  | true =>
    rw [hov] at g4
    cases g4
    rw [if_pos rfl]
    rcases h4 with ⟨_,h4⟩ | ⟨h4,_⟩ | ⟨h4,_⟩
    ·exact h4
    ·rw [z0t h4] at hov;cases hov
    rw [z0t h4] at hov;cases hov
  | false =>
    rw [hov] at g4
    rw [if_neg dC0]
    unfold KFin
    by_cases k15:r2.1.1=15
    ·rw [k15] at g4
     cases g4
     rw [if_pos k15]
     rcases h4 with ⟨h4,_⟩ | ⟨_,_,h4⟩ | ⟨_,h4,_⟩
     ·rw [hov] at h4;cases h4
     ·cases K with
      | nil=>exact h4
      | cons f K=>unfold KFin at h4;rw [if_pos k15] at h4;exact h4
     rw [k15] at h4;exact absurd h4 dC0
    rw [if_neg k15]
    have n15:(false||r2.1.1==15)=false:=by simpa using k15
    rw [n15,if_neg dC0] at g4
    by_cases k14:r2.1.1=14
    ·rw [if_pos k14]
     rw [if_pos (by rw [k14];rfl)] at g4
     obtain ⟨v3,g5,rfl⟩:=Option.map_eq_some_iff.1 g4
     rcases h4 with ⟨h4,_⟩ | ⟨_,h4,_⟩ | ⟨_,_,d3,r3,h6,h7,h8⟩
     ·rw [show (((0,[]),v3,r2.2.2):Rres).2.2=r2.2.2 from rfl,hov] at h4;cases h4
     ·exact absurd rfl h4
     exact ⟨v3,d3,r3,h6,g5,h7,h8⟩
    rw [if_neg k14]
    rw [if_neg (by simpa using k14)] at g4
    have e2:=zc9 hB g4 e.ok
    exact e2.out.trans (h4.out hB e2.ok)
theorem y73 {x:Nd} {d:Nat} {p:List Int} {r1:Rres} (h1:12<=x.kind) (h2:x.kind<=15) (h:z4t (z1s u d) (z36 u d) (mSum u d) x p a s=some r1):r1=((x.kind,p),a,s) :=
  z4u h (by rcases (show x.kind=12∨x.kind=13∨x.kind=14∨x.kind=15 by omega) with e | e | e | e<;>rw [e]<;>rfl)
theorem zg6 {x:Nd} (hB:B<=4611686018427387903) (h1:12<=x.kind) (h2:x.kind<=15) (h:KRun u D (x::l) K a s r) (ho:Oks B s) (hl:Live s) :
    (s.fuel<1/\r=((0,[]),a,gone s))∨(1<=s.fuel/\∃ p,mOf a x.args=some p/\KFin u D K ((x.kind,p),a,dec s) r):=by
  rcases zk6 hB h ho hl with h3 | ⟨h3,d1,p,r1,hd,h4,h5,h6⟩
  ·exact .inl h3
  obtain rfl:=y73 h1 h2 h5
  refine .inr ⟨h3,p,h4,?_⟩
  rcases h6 with ⟨h6,_⟩ | ⟨_,_,h6⟩ | ⟨_,h6,_⟩
  ·have:z0z (dec s)=false:=z0t hl
   rw [show ((x.kind,p),a,dec s).2.2=dec s from rfl,this] at h6
   cases h6
  ·exact h6
  exact absurd h6 (by show x.kind≠0;omega)
theorem zw0 {y:Nd} {f:KF} (hB:B<=4611686018427387903) (hy:y.kind=f.k) (hf:f.k=12∨f.k=14) (h:KRun u D (y::l) (f::K) a s r) (ho:Oks B s) (hl:Live s) :
    (s.fuel<1/\r=((0,[]),a,gone s))∨(1<=s.fuel/\∃ p a2,mOf a y.args=some p/\mSet a f.outs p=some a2/\KRun u D f.rest K a2 (dec s) r):=by
  rcases zg6 hB oM0 oM0 h ho hl with h3 | ⟨h3,p,h4,h5⟩
  ·exact .inl h3
  unfold KFin at h5
  rw [show (((y.kind,p),a,dec s):Rres).1.1=f.k from hy,if_neg oM0,if_pos rfl] at h5
  obtain ⟨a2,d,r2,g1,g2,g3,g4⟩:=h5
  exact .inr ⟨h3,p,a2,h4,g2,d,r2,g1,g3,g4⟩
theorem y1o {x:Nd} {q0 q1:List Nd} (hB:B<=4611686018427387903) (hx:x.kind=10) (hq:x.kids=[q0,q1]) (h:KRun u D (x::l) K a s r) (ho:Oks B s) (hl:Live s) :
    (s.fuel<1/\r=((0,[]),a,gone s))∨(1<=s.fuel/\∃ q,(q=q0∨q=q1)/\KRun u D q (⟨12,x.outs,l⟩::K) a (dec s) r):=by
  rcases zk6 hB h ho hl with h1 | ⟨h1,d1,p,r1,hd,h2,h3,h4⟩
  ·exact .inl h1
  have ho1:=(z44 ho h1).1
  obtain ⟨a0,q,r2,_,g2,g3,g4⟩:=zd8 h3 (by rw [hx];rfl)
  refine .inr ⟨h1,q,?_,d1,r2,by omega,g3,?_⟩
  ·rw [hq] at g2
   by_cases e:(a0 != 0)=true
   ·rw [if_pos e] at g2;exact .inl (by simpa using g2.symm)
   rw [if_neg e] at g2;exact .inr (by simpa using g2.symm)
  have e:=z6m hB g3 ho1
  cases hov:z0z r2.2.2 with
  | true =>
    rw [hov] at g4
    cases g4
    rw [if_pos rfl]
    rcases h4 with ⟨_,h4⟩ | ⟨h4,_⟩ | ⟨h4,_⟩
    ·exact h4
    ·rw [z0t h4] at hov;cases hov
    rw [z0t h4] at hov;cases hov
  | false =>
    rw [hov] at g4
    rw [if_neg dC0]
    unfold KFin
    by_cases k15:r2.1.1=15
    ·rw [k15] at g4
     cases g4
     rw [if_pos k15]
     rcases h4 with ⟨h4,_⟩ | ⟨_,_,h4⟩ | ⟨_,h4,_⟩
     ·rw [hov] at h4;cases h4
     ·cases K with
      | nil=>exact h4
      | cons f K=>unfold KFin at h4;rw [if_pos k15] at h4;exact h4
     rw [k15] at h4;exact absurd h4 dC0
    rw [if_neg k15]
    by_cases k12:r2.1.1=12
    ·rw [if_pos k12]
     rw [k12] at g4
     obtain ⟨v3,g5,rfl⟩:=Option.map_eq_some_iff.1 g4
     rcases h4 with ⟨h4,_⟩ | ⟨_,h4,_⟩ | ⟨_,_,d3,r3,h6,h7,h8⟩
     ·rw [show (((0,[]),v3,r2.2.2):Rres).2.2=r2.2.2 from rfl,hov] at h4;cases h4
     ·exact absurd rfl h4
     exact ⟨v3,d3,r3,h6,g5,h7,h8⟩
    rw [if_neg k12]
    have n12:(!false&&r2.1.1==12)=false:=by simpa using k12
    rw [n12,if_neg dC0] at g4
    cases g4
    exact h4.out hB e.ok
end
end
def vPre (u:Un) (f:Fl) (deep:Int) (w:Wh) (all:List Int):List Nd->Bool
  | []=>true
  | x::r=>!decide (deep > 100)&&z2r u f deep w all x && !z01 x&&vPre u f deep w (all++x.outs) r
theorem go_app (u:Un) (f:Fl) (deep:Int) (w:Wh):∀ (A T:List Nd) (all:List Int),T≠[]->vPre u f deep w all A=true->vGo u f deep w (all++A.flatMap Nd.outs) T=true->vGo u f deep w all (A++T)=true
  | [],T,all,_,_,h=>by simpa using h
  | x::r,T,all,hT,h1,h2=>by
    simp only [vPre,Bool.and_eq_true] at h1
    simp only [List.cons_append,vGo,Bool.and_eq_true]
    refine ⟨⟨h1.1.1,?_⟩,go_app u f deep w r T (all++x.outs) hT h1.2 (by rw [List.flatMap_cons,<- List.append_assoc] at h2;exact h2)⟩
    have hc:z01 x=false:=by simpa using h1.1.2
    have he:(r++T).isEmpty=false:=by
      cases r with
      | nil=>cases T with
        | nil=>exact absurd rfl hT
        | cons _ _=>rfl
      | cons _ _=>rfl
    rw [hc,he];rfl
theorem y1n (u:Un):∀ (l:List Fl) (i:Int),(z4v u l i).1=0↔∀ f∈l,z2j u f=true
  | [],_=>by simp [z4v]
  | f::r,i=>by
    unfold z4v
    cases h:z2j u f with
    | false=>simp [h]
    | true=>simp [h,y1n u r (i+1)]
theorem zv2 (u:Un):∀ (l:List Fl) (i:Int),(∀ f∈l,z2j u f=true)->z4v u l i=(0,0)
  | [],_,_=>rfl
  | f::r,i,h=>by
    unfold z4v
    rw [if_pos (h f (.head _))]
    exact zv2 u r (i+1) fun g hg=>h g (.tail _ hg)
theorem z4r (u:Un):(z1a u).1=0↔z10 u=true/\∀ f∈u.flows,z2j u f=true:=by
  unfold z1a
  cases h:z10 u with
  | false=>simp
  | true=>simp [y1n]
theorem z7w:∀ (a b:List Nd),wtL (a++b)=wtL a+wtL b
  | [],b=>by simp [wtL]
  | x::r,b=>by simp only [List.cons_append,wtL,z7w r b];omega
end Go.Proofs.YtekdhljpmflboaaGreat
