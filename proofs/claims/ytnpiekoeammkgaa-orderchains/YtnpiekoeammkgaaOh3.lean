/- Moves of chains of places, and of one place that many have, are ordered as they have to be, and by as many as they have to be. -/
import Derived.Test.YtnpiekoeammkgaaOh2
set_option maxRecDepth 8000
set_option maxHeartbeats 2000000
set_option linter.unusedSimpArgs false
set_option linter.unusedVariables false
set_option linter.unusedSectionVars false
namespace Go.Proofs.Ytnpiekoeammkgaa
open Go
section
variable {P:Program} {T:TB P} {H:Hn} {fr fr':Fr} {hp hp':Hp} {Rl ks:List Nat} {c:Cx} {ops:Array Oper} {Q:Exit->Fr->Heap'->Prop} {nt:Nat}
def zi0 (ops:Array Oper) (o:Oper) (fr:Fr) (A:Bool->Fr->Prop):Prop:=match o.guard with
  | none=>A true fr
  | some (j,b)=>vopt ops[j]? fun oj=>vopt oj.dst fun t=>vopt (fr.get t) fun x=>match x with
    | .pv (.val (.bool b'))=>bsel b' (A b ((t,.pv (.val (.bool true)))::fr)) (A (!b) ((t,.pv (.val (.bool false)))::fr))
    | .pv (.val (.tuple ⟨[]⟩))=>A false fr
    | _=>False
def appH {α:Type}:List α -> List α -> (List α -> Prop)->Prop
  | [],h,K=>K h
  | p::r,h,K=>appH r h fun l=>K (p::l)
theorem z2c {α:Type}:∀ {l h:List α} {K:List α -> Prop},appH l h K->K (l++h)
  | [],_,_,h=>h
  | _::r,_,K,h=>z2c (l:=r) (K:=fun l=>K (_::l)) h
def zb7:Type:=Nat->List Ent->Fr->Hp->(Fr->Hp->Prop)->Prop
def vopsN (ops:Array Oper) (draw:Bool):zb7:=fun _ acc fr hp K=>match draw with
  | false=>K fr hp
  | true=>z0e (chk ops acc) (K fr hp)
def vput (d:Option Nat) (x:IV) (fr:Fr) (A:Fr->Prop):Prop:=match d with
  | none=>A fr
  | some d=>A ((d,x)::fr)
def vopsC (T:TB P) (H:Hn) (Rl ks:List Nat) (nt rid:Nat) (ops:Array Oper) (o:Oper) (ih:zb7):zb7:=fun i acc fr hp K =>
  zi0 ops o fr fun go fr=>z0e (z9r o.dst nt) (match go with
    | true=>vop T H Rl (rid*1000+i) o fr hp fun s=>match s with
      | ⟨x,wr,rd,nw⟩=>z0e (lAll (newB ks fr hp) nw&&wrOk hp nw wr) (appH wr hp fun hp'=>vput o.dst x fr fun fr'=>ih (i+1) (⟨i,o,some ⟨x,wr,rd,nw⟩⟩::acc) fr' hp' K)
    | false=>vput o.dst (.pv (.val undef)) fr fun fr'=>ih (i+1) (⟨i,o,none⟩::acc) fr' hp K)
def vops (T:TB P) (H:Hn) (Rl ks:List Nat) (nt rid:Nat) (ops:Array Oper) (draw:Bool) (l:List Oper):zb7 :=
  List.rec (motive:=fun _=>zb7) (vopsN ops draw) (fun o _ ih=>vopsC T H Rl ks nt rid ops o ih) l
theorem zi3 {d:Option Nat} {x:IV} {A:Fr->Prop} (h:vput d x fr A):A (fr.put d x):=by
  cases d with
  | none=>exact h
  | some d=>exact h
theorem zi1 {o:Oper} {A:Bool->Fr->Prop} (h:zi0 ops o fr A):(∃ fr2,A true fr2/\GYes ops o fr2/\(fr2=fr∨∃ t v,fr.get t=some (.pv (.val v))/\fr2=(t,.pv (.val v))::fr))∨(∃ fr2,A false fr2/\GNo ops o fr2/\(fr2=fr∨∃ t v,fr.get t=some (.pv (.val v))/\fr2=(t,.pv (.val v))::fr)):=by
  unfold zi0 at h
  split at h
  · rename_i hg;exact .inl ⟨fr,h,.free hg,.inl rfl⟩
  · rename_i j b hg
    replace h:=z02 h
    obtain ⟨oj,hj,h⟩:=h
    replace h:=z02 h
    obtain ⟨t,ht,h⟩:=h
    replace h:=z02 h
    obtain ⟨x,hx,h⟩:=h
    split at h
    · rename_i b'
      have key:∀ {q:Bool},b'=q->Fr.get ((t,.pv (.val (.bool q)))::fr) t=some (.pv (.val (.bool q))):=fun _=>by simp [Fr.get]
      cases b' with
      | true =>
        cases b with
        | true=>exact .inl ⟨_,h,.met hg hj ht (key rfl),.inr ⟨t,_,hx,rfl⟩⟩
        | false=>exact .inr ⟨_,h,.not (b:=true) hg hj ht (key rfl),.inr ⟨t,_,hx,rfl⟩⟩
      | false =>
        cases b with
        | true=>exact .inr ⟨_,h,.not (b:=false) hg hj ht (key rfl),.inr ⟨t,_,hx,rfl⟩⟩
        | false=>exact .inl ⟨_,h,.met hg hj ht (key rfl),.inr ⟨t,_,hx,rfl⟩⟩
    · exact .inr ⟨fr,h,.un hg hj ht hx,.inl rfl⟩
    · exact h.elim
theorem zi2 {rid:Nat} {draw:Bool}:∀ {l:List Oper} {i:Nat} {acc:List Ent} {fr:Fr} {hp:Hp} {K:Fr->Hp->Prop},vops T H Rl ks nt rid ops draw l i acc fr hp K ->
    ∃ L fr' hp',Chain P ops Rl ks nt fr hp L fr' hp'/\L.map (·.o)=l/\Idx i L/\(draw=true->chk ops (L.reverse++acc)=true)/\K fr' hp'
  | [],i,acc,fr,hp,K,h=>by
    replace h:vopsN ops draw i acc fr hp K:=h
    unfold vopsN at h
    cases draw with
    | false=>exact ⟨[],fr,hp,.nil,rfl,trivial,(fun e=>absurd e dC0),h⟩
    | true =>
      replace h:=z01 h
      exact ⟨[],fr,hp,.nil,rfl,trivial,fun _=>h.1,h.2⟩
  | o::l,i,acc,fr,hp,K,h=>by
    replace h:vopsC T H Rl ks nt rid ops o (vops T H Rl ks nt rid ops draw l) i acc fr hp K:=h
    unfold vopsC at h
    have fin:∀ {fr2:Fr} {e:Ent},(fr2=fr∨∃ t v,fr.get t=some (.pv (.val v))/\fr2=(t,.pv (.val v))::fr)->e.i=i->e.o=o->Good P ops Rl ks nt e fr2 hp->vops T H Rl ks nt rid ops draw l (i+1) (e::acc) (putE fr2 e) (putH hp e) K ->
        ∃ L fr' hp',Chain P ops Rl ks nt fr hp L fr' hp'/\L.map (·.o)=o::l/\Idx i L/\(draw=true->chk ops (L.reverse++acc)=true)/\K fr' hp':=by
      intro fr2 e hf hi ho hg h
      obtain ⟨L,fr',hp',h1,h2,h3,h4,h5⟩:=zi2 h
      have hc:Chain P ops Rl ks nt fr2 hp (e::L) fr' hp':=.cons hg h1
      refine ⟨e::L,fr',hp',?_,by simp [ho,h2],⟨hi,h3⟩,fun hd=>by have:=h4 hd;simpa using this,h5⟩
      rcases hf with rfl | ⟨t,v,ht,rfl⟩
      · exact hc
      · exact .lit ht hc
    rcases zi1 h with ⟨fr2,h,hg,hf⟩ | ⟨fr2,h,hg,hf⟩
    · replace h:=z01 h
      obtain ⟨hd,h⟩:=h
      obtain ⟨s,h,hok⟩:=z85 h
      obtain ⟨x,wr,rd,nw⟩:=s
      replace h:=z01 h
      obtain ⟨h1,h⟩:=h
      simp only [Bool.and_eq_true] at h1
      replace h:=zi3 (z2c h)
      exact fin (e:=⟨i,o,some ⟨x,wr,rd,nw⟩⟩) hf rfl rfl ⟨hd,hg,hok,fun k hk=>z8i (z3o h1.1 k hk),h1.2⟩ h
    · replace h:=z01 h
      obtain ⟨hd,h⟩:=h
      replace h:=zi3 h
      exact fin (e:=⟨i,o,none⟩) hf rfl rfl ⟨hd,hg⟩ h
def z1z (K:Exit->Fr->Hp->Prop):Exit->Fr->Heap'->Prop:=fun e fr σ=>∃ fr' hp',Sub σ fr fr'/\(∀ k o,look hp' k=some o -> σ k=some o)/\K e fr' hp'
theorem z3a {K:Exit->Fr->Hp->Prop} {e:Exit} {fr2:Fr} (hf:∀ t,fr2.get t=fr'.get t) (h:K e fr' hp'):z1z K e fr2 (look hp') :=
  ⟨fr',hp',fun t y hy=>⟨y,(hf t).trans hy,fun _ _ _ _ h=>h⟩,fun _ _ h=>h,h⟩
theorem Tr.weak {x:Code} {σ:Heap'} (hs:Sub σ fr fr') (hh:∀ k o,look hp' k=some o -> σ k=some o) (h:Tr P c x fr' (look hp') Q):Tr P c x fr σ Q:=by
  intro ρ w a ha
  obtain ⟨ρ',ha',_⟩:=(ha.sub hs).restrict hh
  exact h ρ' w a ha'
theorem zf4 {id:Nat} {draw:Bool} {K:Fr->Hp->Prop} {K':Exit->Fr->Hp->Prop} (hn:c.n=nt) (hR:∀ k,c.R k->k∈Rl) (hσ:∀ k,c.σ k≠none->k∈ks) (hK:∀ fr hp,K fr hp->K' .normal fr hp) (h:vops T H Rl ks nt id ops draw ops.toList 0 [] fr hp K):Tr P c (.region id ops draw) fr (look hp) (z1z K'):=by
  obtain ⟨L,fr',hp',h1,h2,h3,h4,h5⟩:=zi2 h
  cases draw with
  | false=>exact Tr.region rfl (by rw [<- h2];exact h1.text hn hR hσ (z3a (fun _=>rfl) (hK _ _ h5)))
  | true=>exact h1.any T.mx h3 h2 (by simpa using h4 rfl) hn hR hσ fun fr2 hf=>z3a hf (hK _ _ h5)
theorem All.boxSub {ρ:Loc} {w:World} {a:Act} {k2 j:Nat} {cs:List IV} {x0 y:IV} (h':All c ρ (look hp) w fr a) (hk2:look hp k2=some (.box cs)) (hj:cs[j]? = some x0) (hxy:∀ v,RepI c.F ρ (look hp) w x0 v->RepI c.F ρ (look hp) w y v):All c ρ (look ((k2,some (.box (cs.set j y)))::hp)) w fr a:=by
  have hlk:∀ i,i≠k2->look ((k2,some (.box (cs.set j y)))::hp) i=look hp i:=fun i hi=>z08 (Ne.symm hi)
  have hlk2:look ((k2,some (.box (cs.set j y)))::hp) k2=some (.box (cs.set j y)):=z0b
  have hconv:∀ x v,RepI c.F ρ (look hp) w x v->RepI c.F ρ (look ((k2,some (.box (cs.set j y)))::hp)) w x v:=by
    intro x v hx
    induction hx with
    | pv p v hp=>exact .pv p v hp
    | ptr i off v hi =>
      refine .ptr i off v fun cs' h2=>?_
      by_cases e:i=k2
      · subst e;exact hi _ hk2
      · rw [hlk i e] at h2;exact hi _ h2
    | sl i len v hi =>
      refine .sl i len v fun s' els' h2=>?_
      by_cases e:i=k2
      · subst e;rw [hlk2] at h2;cases h2
      · rw [hlk i e] at h2;exact hi _ _ h2
    | sp i n len v hi =>
      refine .sp i n len v fun s' els' h2=>?_
      by_cases e:i=k2
      · subst e;rw [hlk2] at h2;cases h2
      · rw [hlk i e] at h2;exact hi _ _ h2
    | rpt i len off v hi =>
      refine .rpt i len off v fun s' els' h2=>?_
      by_cases e:i=k2
      · subst e;rw [hlk2] at h2;cases h2
      · rw [hlk i e] at h2;exact hi _ _ h2
    | bs i n v hi =>
      refine .bs i n v fun cs' h2=>?_
      by_cases e:i=k2
      · subst e;exact hi _ hk2
      · rw [hlk i e] at h2;exact hi _ h2
    | mp i v hi =>
      refine .mp i v fun es h2=>?_
      by_cases e:i=k2
      · subst e;rw [hlk2] at h2;cases h2
      · rw [hlk i e] at h2;exact hi _ h2
    | tnil i T v hi =>
      refine .tnil i T v fun cs' h2=>?_
      by_cases e:i=k2
      · subst e;exact hi _ hk2
      · rw [hlk i e] at h2;exact hi _ h2
    | agg cs vs u hl hv _ ih=>exact .agg cs vs u hl hv ih
    | tup cs vs u hl hv _ ih=>exact .tup cs vs u hl hv ih
    | fn f xs ys vs ws u t hl hv _ hl' hv' _ ih ih'=>exact .fn f xs ys vs ws u t hl hv ih hl' hv' ih'
  refine ⟨⟨h'.rel.inj,h'.rel.apart,h'.rel.old,fun i b cc hi=>?_,fun i o h1 h2=>?_⟩,fun t x hx=>?_,?_,h'.df,h'.sz,h'.kk⟩
  · obtain ⟨o1,h1,h2⟩:=h'.rel.obj i b cc hi
    by_cases e:i=k2
    · subst e
      rw [hk2] at h1;cases h1
      refine ⟨_,hlk2,?_⟩
      cases h2 with
      | box _ e' r u h5 hl hv hr =>
        refine .box _ e' r u h5 (by simpa using hl) (fun q x hq=>?_) fun q x hq=>?_
        · by_cases eq:q=j
          · subst eq;exact hv q _ hj
          · rw [List.getElem?_set_ne (Ne.symm eq)] at hq;exact hv q x hq
        · by_cases eq:q=j
          · subst eq
            have hlt:q<cs.length:=(List.getElem?_eq_some_iff.1 hj).1
            rw [List.getElem?_set_self hlt] at hq;cases hq
            exact hconv _ _ (hxy _ (hr q _ hj))
          · rw [List.getElem?_set_ne (Ne.symm eq)] at hq;exact hconv _ _ (hr q x hq)
    · refine ⟨o1,(hlk i e).trans h1,?_⟩
      cases h2 with
      | box cs' e' r u h hl hv hr=>exact .box cs' e' r u h hl hv fun q x hq=>hconv _ _ (hr q x hq)
      | row s' els' r u h hs hl hm hw hv hr=>exact .row s' els' r u h hs hl hm hw hv hr
      | map es r t u h hl hv hr=>exact .map es r t u h hl hv hr
  · by_cases e:i=k2
    · subst e
      obtain ⟨s',h3⟩:=h'.rel.real i _ hk2 h2
      cases h3
    · rw [hlk i e] at h1;exact h'.rel.real i o h1 h2
  · obtain ⟨v,hv,hr⟩:=h'.fr t x hx
    exact ⟨v,hv,hconv _ _ hr⟩
  · have t:=h'.tr
    refine ⟨t.os,t.tape,t.output,t.size,t.blk,t.own,fun i a1 a2 e1 e2=>?_,fun i a1 a2 e1 e2=>?_,fun i s1 s2 a1 a2 e1 e2 hl=>?_,fun i s1 s2 a1 a2 e1 e2=>?_,fun i a2 e2=>?_,fun i a2 e2=>?_,fun i s1 a2 e2=>?_⟩
    all_goals by_cases e:i=k2
    · subst e;exact t.box i _ _ e1 hk2
    · rw [hlk i e] at e2;exact t.box i _ _ e1 e2
    · subst e;rw [hlk2] at e2;cases e2
    · rw [hlk i e] at e2;exact t.map i _ _ e1 e2
    · subst e;rw [hlk2] at e2;cases e2
    · rw [hlk i e] at e2;exact t.row i _ _ _ _ e1 e2 hl
    · subst e;rw [hlk2] at e2;cases e2
    · rw [hlk i e] at e2;exact t.grow i _ _ _ _ e1 e2
    · subst e;exact t.kindB i _ hk2
    · rw [hlk i e] at e2;exact t.kindB i _ e2
    · subst e;rw [hlk2] at e2;cases e2
    · rw [hlk i e] at e2;exact t.kindM i _ e2
    · subst e;rw [hlk2] at e2;cases e2
    · rw [hlk i e] at e2;exact t.kindR i _ _ e2
theorem z8j {F:Nat->Prop} {ρ:Loc} {σ:Heap'} {w:World} {v:Value} (h:RepI F ρ σ w (.pv (.val (.slice none 0 0))) v):RepI F ρ σ w (.pv (.seq [])) v:=sub_pv PSub.nil h
def z9n:Option IV->Bool
  | some (.pv (.val (.slice none 0 0)))=>true
  | _=>false
theorem z4b {x:Option IV} (h:z9n x=true):x=some (.pv (.val (.slice none 0 0))):=by
  unfold z9n at h
  split at h
  · rfl
  · cases h
def z69:Option IV->Option Nat
  | some (.pv (.val (.slice _ 0 n)))=>some n
  | _=>none
theorem z8a {x:Option IV} {n:Nat} (h:z69 x=some n):∃ a,x=some (.pv (.val (.slice a 0 n))):=by
  unfold z69 at h
  split at h
  · cases h;exact ⟨_,rfl⟩
  · cases h
theorem zc8 {F:Nat->Prop} {ρ:Loc} {σ:Heap'} {w:World} {v:Value} {a:Option Addr} {n:Nat} (hn:n<=maxLen) (h:RepI F ρ σ w (.pv (.val (.slice a 0 n))) v):RepI F ρ σ w (.pv (.seq [])) v:=by
  obtain rfl:=h.val
  exact .pv _ _ (.seq [] a n 0 0 (fun _ _=>.int .i64 0) (fun h=>absurd rfl h) (fun h=>absurd rfl h) (Nat.zero_le _) hn (fun i el hi=>by simp at hi) fun i el hi=>by simp at hi)
def isSl (k:Nat):Option IV->Option Nat
  | some (.sl j n)=>match Nat.beq j k with
    | true=>some n
    | false=>none
  | _=>none
theorem z8d {k n:Nat} {x:Option IV} (h:isSl k x=some n):x=some (.sl k n):=by
  unfold isSl at h
  split at h
  · split at h
    · rename_i hb;obtain rfl:=Nat.eq_of_beq_eq_true hb;cases h;rfl
    · cases h
  · cases h
def isPtr (k:Nat):Option IV->Bool
  | some (.ptr j 0)=>Nat.beq j k
  | _=>false
theorem isPtr_ok {k:Nat} {x:Option IV} (h:isPtr k x=true):x=some (.ptr k 0):=by
  unfold isPtr at h
  split at h
  · obtain rfl:=Nat.eq_of_beq_eq_true h;rfl
  · cases h
def vgh (ks:List Nat) (g:Gh) (fr:Fr) (hp:Hp) (K:Fr->Hp->Prop):Prop:=match g with
  | .grow t k e n=>z0e (z9n (fr.get t)&&newB ks fr hp k) (K ((t,.sl k 0)::fr) ((k,some (.row ⟨e,n⟩ []))::hp))
  | .growC k2 j k e n=>vbox hp k2 fun cs=>z0e (z9n cs[j]? && newB ks fr hp k) (frcI (cs.set j (.sl k 0)) fun l=>K fr ((k2,some (.box l))::(k,some (.row ⟨e,n⟩ []))::hp))
  | .fz t k=>vopt (isSl k (fr.get t)) fun n=>vrow hp k fun _ els=>els.length=n/\K ((t,.pv (.seq els))::fr) ((k,none)::hp)
  | .fzC k2 j k=>vbox hp k2 fun cs=>vopt (isSl k cs[j]?) fun n=>z0e (!Nat.beq k k2) (vrow hp k fun _ els=>els.length=n/\frcI (cs.set j (.pv (.seq els))) fun l=>K fr ((k2,some (.box l))::(k,none)::hp))
  | .fzB t k=>z0e (isPtr k (fr.get t)) (vbox hp k fun cs=>vopt (z1j cs) fun ps=>frcP ps fun l=>K ((t,.pv (.ept l 0))::fr) ((k,none)::hp))
  | .len t=>vopt (fr.get t) fun x=>match x with
    | .pv (.seq els)=>els.length<=9223372036854775807->K fr hp
    | .sl k n=>vrow hp k fun _ els=>els.length=n/\(n<=9223372036854775807->K fr hp)
    | _=>False
  | .drop k=>K fr ((k,none)::hp)
  | .ni t=>match z9n (fr.get t) with
    | true=>K ((t,.pv (.seq []))::fr) hp
    | false=>K fr hp
  | .niC k j=>vbox hp k fun cs=>match z9n cs[j]? with
    | true=>frcI (cs.set j (.pv (.seq []))) fun l=>K fr ((k,some (.box l))::hp)
    | false=>K fr hp
  | .un t=>vopt (z69 (fr.get t)) fun n=>n<=maxLen/\K ((t,.pv (.seq []))::fr) hp
  | .spC k2 j k=>vbox hp k2 fun cs=>vopt (isSl k cs[j]?) fun n=>frcI (cs.set j (.sp k n n)) fun l=>K fr ((k2,some (.box l))::hp)
theorem vgh_ok {g:Gh} {x:Code} {K:Fr->Hp->Prop} (hσ:∀ k,c.σ k≠none->k∈ks) (hK:∀ fr hp,K fr hp->Tr P c x fr (look hp) Q) (h:vgh ks g fr hp K):Tr P c x fr (look hp) Q:=by
  have hc:∀ {k:Nat},newB ks fr hp k=true->look hp k=none/\c.σ k=none/\nmFr k fr=false/\nmHp k hp=false:=fun {k} hk=>by
    obtain ⟨h1,h2⟩:=z8i hk
    obtain ⟨f1,f2,f3⟩:=z0s h2
    refine ⟨f3,?_,f1,f2⟩
    cases h4:c.σ k with
    | none=>rfl
    | some o=>exact absurd (hσ k (by rw [h4];simp)) h1
  unfold vgh at h
  split at h
  · replace h:=z01 h
    obtain ⟨h1,h⟩:=h
    simp only [Bool.and_eq_true] at h1
    obtain ⟨f1,f2,f3,f4⟩:=hc h1.2
    exact Tr.grow _ (z4b h1.1) f1 f2 f3 f4 (hK _ _ h)
  · replace h:=z0t h
    obtain ⟨cs,hk,h⟩:=h
    replace h:=z01 h
    obtain ⟨h1,h⟩:=h
    simp only [Bool.and_eq_true] at h1
    obtain ⟨f1,f2,f3,f4⟩:=hc h1.2
    exact Tr.growCell _ hk (z4b h1.1) f1 f2 f3 f4 (hK _ _ (z11 h))
  · replace h:=z02 h
    obtain ⟨n,hn,h⟩:=h
    replace h:=z0q h
    obtain ⟨s,els,hk,hl,h⟩:=h
    exact Tr.freeze (z8d hn) hk hl (hK _ _ h)
  · replace h:=z0t h
    obtain ⟨cs,hk2,h⟩:=h
    replace h:=z02 h
    obtain ⟨n,hn,h⟩:=h
    replace h:=z01 h
    obtain ⟨hne,h⟩:=h
    replace h:=z0q h
    obtain ⟨s,els,hk,hl,h⟩:=h
    exact Tr.freezeCell hk hl hk2 (z8d hn) (fun e=>by subst e;simp at hne) (hK _ _ (z11 h))
  · replace h:=z01 h
    obtain ⟨h1,h⟩:=h
    replace h:=z0t h
    obtain ⟨cs,hk,h⟩:=h
    replace h:=z02 h
    obtain ⟨ps,hps,h⟩:=h
    exact Tr.freezeBox (isPtr_ok h1) hk hps (hK _ _ (z1p (K:=fun l=>K ((_,.pv (.ept l 0))::fr) ((_,none)::hp)) h))
  · replace h:=z02 h
    obtain ⟨x,hx,h⟩:=h
    split at h
    · exact Tr.lenOf hx fun hl=>hK _ _ (h hl)
    · replace h:=z0q h
      obtain ⟨s,els,hk,hl,h⟩:=h
      exact Tr.rowLen hx hk hl fun hn=>hK _ _ (h hn)
    · exact h.elim
  · exact Tr.drop (hK _ _ h)
  · split at h
    · rename_i hn
      exact fun ρ w a ha=>hK _ _ h ρ w a (ha.putFr (z4b hn) fun v hv=>z8j hv)
    · exact hK _ _ h
  · replace h:=z0t h
    obtain ⟨cs,hk,h⟩:=h
    split at h
    · rename_i hn
      exact fun ρ w a ha=>hK _ _ (z11 (K:=fun l=>K fr ((_,some (.box l))::hp)) h) ρ w a (ha.boxSub hk (z4b hn) fun v hv=>z8j hv)
    · exact hK _ _ h
  · replace h:=z02 h
    obtain ⟨n,hn,hm,h⟩:=h
    obtain ⟨a,ha⟩:=z8a hn
    exact fun ρ w a' h'=>hK _ _ h ρ w a' (h'.putFr ha fun v hv=>zc8 hm hv)
  · replace h:=z0t h
    obtain ⟨cs,hk,h⟩:=h
    replace h:=z02 h
    obtain ⟨n,hn,h⟩:=h
    exact fun ρ w a ha=>hK _ _ (z11 (K:=fun l=>K fr ((_,some (.box l))::hp)) h) ρ w a (ha.boxSub hk (z8d hn) fun v hv=>hv.toSp)
def vghs (ks:List Nat):List Gh->Fr->Hp->(Fr->Hp->Prop)->Prop
  | [],fr,hp,K=>K fr hp
  | g::r,fr,hp,K=>vgh ks g fr hp fun fr hp=>vghs ks r fr hp K
theorem z91 {x:Code} {K:Fr->Hp->Prop} (hσ:∀ k,c.σ k≠none->k∈ks) (hK:∀ fr hp,K fr hp->Tr P c x fr (look hp) Q):∀ {gs:List Gh} {fr:Fr} {hp:Hp},vghs ks gs fr hp K->Tr P c x fr (look hp) Q
  | [],fr,hp,h=>hK _ _ h
  | g::r,fr,hp,h=>vgh_ok hσ (fun _ _ h=>z91 hσ hK (gs:=r) h) h
def ghAt:List (Nat × List Gh)->Nat->List Gh
  | [],_=>[]
  | (k,g)::r,id=>match Nat.beq k id with
    | true=>g
    | false=>ghAt r id
def idsF:Fr->List Nat
  | []=>[]
  | (t,_)::r=>t::idsF r
def z2s (ds:List Nat):Fr->Fr
  | []=>[]
  | (t,x)::r=>match nIn t ds with
    | true=>z2s ds r
    | false=>(t,x)::z2s (t::ds) r
def z2h (ds:List Nat):Hp->Hp
  | []=>[]
  | (k,o)::r=>match nIn k ds with
    | true=>z2h ds r
    | false=>match o with
      | some o=>(k,some o)::z2h (k::ds) r
      | none=>z2h (k::ds) r
theorem z2l {x:IV} {t:Nat}:∀ {fr:Fr} {ds:List Nat},(z2s ds fr).get t=some x->t∉ds/\fr.get t=some x
  | [],_,h=>by cases h
  | (u,y)::r,ds,h=>by
    simp only [z2s] at h
    split at h
    · rename_i hu
      obtain ⟨h1,h2⟩:=z2l h
      have:u≠t:=fun e=>h1 (e ▸ z13.1 hu)
      exact ⟨h1,by simp only [Fr.get,z1m this];exact h2⟩
    · rename_i hu
      simp only [Fr.get] at h ⊢
      cases hb:Nat.beq u t with
      | true =>
        obtain rfl:=Nat.eq_of_beq_eq_true hb
        rw [hb] at h
        exact ⟨z0m hu,h⟩
      | false =>
        rw [hb] at h
        obtain ⟨h1,h2⟩:=z2l h
        exact ⟨fun hm=>h1 (.tail _ hm),h2⟩
theorem z1i {o:HO} {k:Nat}:∀ {hp:Hp} {ds:List Nat},look (z2h ds hp) k=some o->k∉ds/\look hp k=some o
  | [],_,h=>by cases h
  | (j,q)::r,ds,h=>by
    simp only [z2h] at h
    split at h
    · rename_i hu
      obtain ⟨h1,h2⟩:=z1i h
      have:j≠k:=fun e=>h1 (e ▸ z13.1 hu)
      exact ⟨h1,by rw [z08 this];exact h2⟩
    · rename_i hu
      split at h
      · rename_i ob
        by_cases e:j=k
        · subst e
          rw [z0b] at h
          exact ⟨z0m hu,by rw [z0b];exact h⟩
        · rw [z08 e] at h
          obtain ⟨h1,h2⟩:=z1i h
          exact ⟨fun hm=>h1 (.tail _ hm),by rw [z08 e];exact h2⟩
      · obtain ⟨h1,h2⟩:=z1i h
        have e:j≠k:=fun e=>h1 (e ▸ .head _)
        exact ⟨fun hm=>h1 (.tail _ hm),by rw [z08 e];exact h2⟩
def frcL {α:Type}:List α -> (List α -> Prop)->Prop
  | [],K=>K []
  | x::r,K=>frcL r fun l=>K (x::l)
theorem z4n {α:Type}:∀ {l:List α} {K:List α -> Prop},frcL l K->K l
  | [],_,h=>h
  | _::r,K,h=>z4n (l:=r) (K:=fun l=>K (_::l)) h
def dstsO:List Oper->List Nat->List Nat
  | [],acc=>acc
  | o::r,acc=>match o.dst with
    | some d=>dstsO r (d::acc)
    | none=>dstsO r acc
def z72:Code->List Nat->List Nat
  | .region _ ops _,acc=>dstsO ops.toList acc
  | .seq a b,acc=>z72 a (z72 b acc)
  | .cond _ a b,acc=>z72 a (z72 b acc)
  | .block _ x,acc=>z72 x acc
  | .loop x,acc=>z72 x acc
  | _,acc=>acc
def subH (hp:Hp):List (Nat × HO)->Prop
  | []=>True
  | (k,o)::r=>look hp k=some o/\subH hp r
theorem z2m {k:Nat} {o:HO}:∀ {l:List (Nat × HO)},subH hp l->(k,o)∈l->look hp k=some o
  | (j,q)::r,h,hm=>by
    rcases List.mem_cons.1 hm with e | hm
    · cases e;exact h.1
    · exact z2m h.2 hm
inductive VNext {α:Type} (F:α -> Fr) (Hf:α -> List (Nat × HO)) (m:α -> Nat) (I:α -> Prop) (a:α) (bf:Fr) (bh:Hp) (fr':Fr) (hp':Hp):Prop
  | mk (b:α) (hm:m b<m a) (hI:I b) (hf:subB fr' (F b)) (hh:subH hp' (Hf b)) (tf:fr'.drop (fr'.length - bf.length)=bf) (df:disj (idsF (fr'.take (fr'.length - bf.length))) (idsF bf)=true)
    (th:hp'.drop (hp'.length - bh.length)=bh) (dh:disj (idsH (hp'.take (hp'.length - bh.length))) (idsH bh)=true)
def vround {α:Type} (f:Fr->Hp->(Exit->Fr->Hp->Prop)->Prop) (K:Exit->Fr->Hp->Prop) (F:α -> Fr) (Hf:α -> List (Nat × HO)) (m:α -> Nat) (I:α -> Prop) (bf:Fr) (bh:Hp) (a:α):Prop :=
  appH (F a) bf fun fr=>appH (up (Hf a)) bh fun hp=>f fr hp fun e fr' hp'=>match e with
    | .normal=>VNext F Hf m I a bf bh fr' hp'
    | e=>K e fr' hp'
inductive VLoop (f:Fr->Hp->(Exit->Fr->Hp->Prop)->Prop) (ds:List Nat) (fr:Fr) (hp:Hp) (K:Exit->Fr->Hp->Prop):Prop
  | mk (α:Type) (F:α -> Fr) (Hf:α -> List (Nat × HO)) (m:α -> Nat) (I:α -> Prop) (gone:List Nat) (a0:α) (hI:I a0) (hf:subB fr (F a0)) (hh:subH hp (Hf a0))
    (round:frcL (z2s (idsF (F a0)++ds) fr) fun bf=>frcL (z2h (gone++(Hf a0).map (·.1)) hp) fun bh=>∀ a,I a->vround f K F Hf m I bf bh a)
theorem z8b {t:Nat}:∀ {A B:Fr},t∉idsF A->(A++B).get t=B.get t
  | [],_,_=>rfl
  | (u,x)::A,B,h=>by
    simp only [idsF,List.mem_cons,not_or] at h
    simp only [List.cons_append,Fr.get,z1m (Ne.symm h.1)]
    exact z8b h.2
theorem z8c {t:Nat} {x:IV}:∀ {A:Fr},A.get t=some x->t∈idsF A
  | (u,y)::A,h=>by
    simp only [Fr.get] at h
    cases hb:Nat.beq u t with
    | true=>obtain rfl:=Nat.eq_of_beq_eq_true hb;exact .head _
    | false=>rw [hb] at h;exact .tail _ (z8c h)
theorem z2d {t:Nat} {x:IV}:∀ {A B:Fr},(A++B).get t=some x->A.get t=some x∨(t∉idsF A/\B.get t=some x)
  | [],B,h=>.inr ⟨by simp [idsF],h⟩
  | (u,y)::A,B,h=>by
    simp only [List.cons_append,Fr.get] at h ⊢
    cases hb:Nat.beq u t with
    | true=>rw [hb] at h;exact .inl h
    | false =>
      rw [hb] at h
      have hne:u≠t:=fun e=>by subst e;simp at hb
      rcases z2d h with h | ⟨h1,h2⟩
      · exact .inl h
      · exact .inr ⟨by simp only [idsF,List.mem_cons,not_or];exact ⟨Ne.symm hne,h1⟩,h2⟩
theorem z4e {t:Nat} {y:IV}:∀ {l:Fr},subB fr l->l.get t=some y->fr.get t=some y
  | (u,x)::r,h,hy=>by
    simp only [Fr.get] at hy
    cases hb:Nat.beq u t with
    | true=>obtain rfl:=Nat.eq_of_beq_eq_true hb;rw [hb] at hy;cases hy;exact h.1
    | false=>rw [hb] at hy;exact z4e h.2 hy
theorem z6h {k:Nat} {o:HO}:∀ {l:Hp},look l k=some o->k∈l.map (·.1)
  | (j,q)::r,h=>by
    by_cases e:j=k
    · subst e;simp
    · rw [z08 e] at h
      simp only [List.map_cons,List.mem_cons]
      exact .inr (z6h h)
theorem VLoop.ok {f:Fr->Hp->(Exit->Fr->Hp->Prop)->Prop} {x:Code} {ds:List Nat} {K:Exit->Fr->Hp->Prop} (hx:∀ fr hp K,f fr hp K->Tr P c x fr (look hp) (z1z K)) (h:VLoop f ds fr hp K):Tr P c (.loop x) fr (look hp) (z1z K):=by
  obtain ⟨α,F,Hf,m,I,gone,a0,hI,hf,hh,round⟩:=h
  replace round:=z4n (z4n round)
  have hsub0:Sub (look hp) fr (F a0++z2s (idsF (F a0)++ds) fr):=fun t y hy=>by
    rcases z2d hy with h | ⟨_,h⟩
    · exact ⟨y,z4e hf h,fun _ _ _ _ h=>h⟩
    · exact ⟨y,(z2l h).2,fun _ _ _ _ h=>h⟩
  generalize z2s (idsF (F a0)++ds) fr=bf at round hsub0
  have hheap0:∀ k o,look (up (Hf a0)++z2h (gone++(Hf a0).map (·.1)) hp) k=some o->look hp k=some o:=fun k o hk=>by
    rw [z0k] at hk
    split at hk
    · exact z2m hh (z0f hk)
    · exact (z1i hk).2
  generalize z2h (gone++(Hf a0).map (·.1)) hp=bh at round hheap0
  refine Tr.weak hsub0 hheap0 ?_
  refine Tr.loop (fun fr σ n=>∃ a,I a/\m a=n/\fr=F a++bf/\∀ k o,look (up (Hf a)++bh) k=some o -> σ k=some o) (n:=m a0) ⟨a0,hI,rfl,rfl,fun _ _ h=>h⟩ ?_
  rintro fr1 σ1 n ⟨a,hIa,rfl,rfl,hσ⟩
  have hr:=round a hIa
  replace hr:=z2c hr
  replace hr:=z2c hr
  have h1:=hx _ _ _ hr
  refine Tr.weak (fr':=F a++bf) (fun t y hy=>⟨y,hy,fun _ _ _ _ h=>h⟩) hσ (Tr.mono h1 fun e fr' σ' hq=>?_)
  obtain ⟨fr2,hp2,hs,hl,hk⟩:=hq
  cases e with
  | normal =>
    obtain ⟨b,hm,hIb,hf,hh,tf,df,th,dh⟩:=hk
    refine ⟨F b++bf,m b,hm,fun t y hy=>?_,b,hIb,rfl,rfl,fun k o hk=>?_⟩
    · have:fr2.get t=some y:=by
        rcases z2d hy with h | ⟨_,h⟩
        · exact z4e hf h
        · have h3:fr2=fr2.take (fr2.length - bf.length)++bf:=by
            conv=>lhs;rw [<- List.take_append_drop (fr2.length - bf.length) fr2]
            rw [tf]
          rw [h3,z8b fun hm=>z1o df hm (z8c h)]
          exact h
      obtain ⟨z,hz,hr⟩:=hs t y this
      exact ⟨z,hz,hr⟩
    · refine hl k o ?_
      rw [z0k] at hk
      split at hk
      · exact z2m hh (z0f hk)
      · have h3:hp2=hp2.take (hp2.length - bh.length)++bh:=by
          conv=>lhs;rw [<- List.take_append_drop (hp2.length - bh.length) hp2]
          rw [th]
        rw [h3,z0k,if_neg]
        · exact hk
        · intro hm
          rw [<- z2v] at hm
          exact z1o dh hm (by rw [z2v];exact z6h hk)
  | _=>exact ⟨fr2,hp2,hs,hl,hk⟩
inductive VJoin {α:Type} (F:α -> Fr) (Hf:α -> List (Nat × HO)) (I:α -> Prop) (bf:Fr) (bh:Hp) (fr':Fr) (hp':Hp):Prop
  | mk (b:α) (hI:I b) (hf:subB fr' (F b)) (hh:subH hp' (Hf b)) (tf:fr'.drop (fr'.length - bf.length)=bf) (df:disj (idsF (fr'.take (fr'.length - bf.length))) (idsF bf)=true)
    (th:hp'.drop (hp'.length - bh.length)=bh) (dh:disj (idsH (hp'.take (hp'.length - bh.length))) (idsH bh)=true)
def z3w (ds:List Nat):Fr->Fr
  | []=>[]
  | (t,x)::r=>match nIn t ds with
    | true=>(t,x)::z3w ds r
    | false=>z3w ds r
def z3x (ds:List Nat):Hp->Hp
  | []=>[]
  | (k,o)::r=>match nIn k ds with
    | true=>(k,o)::z3x ds r
    | false=>z3x ds r
theorem z3m {t:Nat} {ds:List Nat} {x:IV}:∀ {fr:Fr},(z3w ds fr).get t=some x->fr.get t=some x
  | (u,y)::r,h=>by
    simp only [z3w] at h
    split at h
    · simp only [Fr.get] at h ⊢
      cases hb:Nat.beq u t with
      | true=>rw [hb] at h;exact h
      | false=>rw [hb] at h;exact z3m h
    · rename_i hu
      have h2:=z3m h
      have ht:t∈ds:=by
        have key:∀ {l:Fr},(z3w ds l).get t=some x->t∈ds:=by
          intro l
          induction l with
          | nil=>intro h;cases h
          | cons p r ih =>
            obtain ⟨u,y⟩:=p
            intro h
            simp only [z3w] at h
            split at h
            · rename_i hu
              simp only [Fr.get] at h
              cases hb:Nat.beq u t with
              | true=>obtain rfl:=Nat.eq_of_beq_eq_true hb;exact z13.1 hu
              | false=>rw [hb] at h;exact ih h
            · exact ih h
        exact key h
      have:u≠t:=fun e=>z0m hu (e ▸ ht)
      simp only [Fr.get,z1m this]
      exact h2
theorem z2u {k:Nat} {ds:List Nat}:∀ {hp:Hp},k∈ds->look (z3x ds hp) k=look hp k
  | [],_=>rfl
  | (j,o)::r,hk=>by
    simp only [z3x]
    split
    · by_cases e:j=k
      · subst e;rw [z0b,z0b]
      · rw [z08 e,z08 e];exact z2u hk
    · rename_i hj
      have:j≠k:=fun e=>z0m hj (e ▸ hk)
      rw [z08 this];exact z2u hk
theorem z3n {k:Nat} {ds:List Nat}:∀ {hp:Hp},k∈(z3x ds hp).map (·.1)->k∈ds
  | (j,o)::r,h=>by
    simp only [z3x] at h
    split at h
    · rename_i hj
      simp only [List.map_cons,List.mem_cons] at h
      rcases h with rfl | h
      · exact z13.1 hj
      · exact z3n h
    · exact z3n h
inductive VCut (ds:List Nat) (x y:Fr->Hp->(Exit->Fr->Hp->Prop)->Prop) (fr:Fr) (hp:Hp) (K:Exit->Fr->Hp->Prop):Prop
  | mk (α:Type) (F:α -> Fr) (Hf:α -> List (Nat × HO)) (I:α -> Prop) (gone:List Nat)
    (h:frcL (z2s ds fr) fun bf=>frcL (z2h gone hp) fun bh=>appH (z3w ds fr) bf fun fr1=>appH (z3x gone hp) bh fun hp1=>(x fr1 hp1 fun e fr' hp'=>match e with
      | .normal=>VJoin F Hf I bf bh fr' hp'
      | e=>K e fr' hp')/\∀ b,I b->appH (F b) bf fun fr2=>appH (up (Hf b)) bh fun hp2=>y fr2 hp2 K)
theorem join_sub {α:Type} {F:α -> Fr} {b:α} {bf fr2:Fr} {σ:Heap'} {fr1:Fr} (hs:Sub σ fr1 fr2) (hf:subB fr2 (F b)) (tf:fr2.drop (fr2.length - bf.length)=bf) (df:disj (idsF (fr2.take (fr2.length - bf.length))) (idsF bf)=true):Sub σ fr1 (F b++bf):=fun t y hy=>by
  have:fr2.get t=some y:=by
    rcases z2d hy with h | ⟨_,h⟩
    · exact z4e hf h
    · have h3:fr2=fr2.take (fr2.length - bf.length)++bf:=by
        conv=>lhs;rw [<- List.take_append_drop (fr2.length - bf.length) fr2]
        rw [tf]
      rw [h3,z8b fun hm=>z1o df hm (z8c h)]
      exact h
  exact hs t y this
theorem zd2 {l:List (Nat × HO)} {bh hp2:Hp} (hh:subH hp2 l) (th:hp2.drop (hp2.length - bh.length)=bh) (dh:disj (idsH (hp2.take (hp2.length - bh.length))) (idsH bh)=true) (k:Nat) (o:HO) (hk:look (up l++bh) k=some o):look hp2 k=some o:=by
  rw [z0k] at hk
  split at hk
  · exact z2m hh (z0f hk)
  · have h3:hp2=hp2.take (hp2.length - bh.length)++bh:=by
      conv=>lhs;rw [<- List.take_append_drop (hp2.length - bh.length) hp2]
      rw [th]
    rw [h3,z0k,if_neg]
    · exact hk
    · intro hm
      rw [<- z2v] at hm
      exact z1o dh hm (by rw [z2v];exact z6h hk)
theorem VCut.ok {x y:Fr->Hp->(Exit->Fr->Hp->Prop)->Prop} {cx cy:Code} {ds:List Nat} {K:Exit->Fr->Hp->Prop} (hx:∀ fr hp K,x fr hp K->Tr P c cx fr (look hp) (z1z K)) (hy:∀ fr hp K,y fr hp K->Tr P c cy fr (look hp) (z1z K)) (h:VCut ds x y fr hp K):Tr P c (.seq cx cy) fr (look hp) (z1z K):=by
  obtain ⟨α,F,Hf,I,gone,h⟩:=h
  replace h:=z4n (z4n h)
  replace h:=z2c (z2c h)
  have hsub0:Sub (look hp) fr (z3w ds fr++z2s ds fr):=fun t y hy=>by
    rcases z2d hy with h | ⟨_,h⟩
    · exact ⟨y,z3m h,fun _ _ _ _ h=>h⟩
    · exact ⟨y,(z2l h).2,fun _ _ _ _ h=>h⟩
  generalize z2s ds fr=bf at h hsub0
  have hheap0:∀ k o,look (z3x gone hp++z2h gone hp) k=some o->look hp k=some o:=fun k o hk=>by
    rw [z0k] at hk
    split at hk
    · rename_i hm;rw [z2u (z3n hm)] at hk;exact hk
    · exact (z1i hk).2
  generalize z2h gone hp=bh at h hheap0
  obtain ⟨h1,h2⟩:=h
  refine Tr.weak hsub0 hheap0 ?_
  refine Tr.seq (Tr.mono (hx _ _ _ h1) fun e fr' σ' hq=>?_)
  obtain ⟨fr2,hp2,hs,hl,hk⟩:=hq
  cases e with
  | normal =>
    obtain ⟨b,hI,hf,hh,tf,df,th,dh⟩:=hk
    have h3:=h2 b hI
    replace h3:=z2c h3
    replace h3:=z2c h3
    exact Tr.weak (join_sub hs hf tf df) (fun k o hk=>hl k o (zd2 hh th dh k o hk)) (hy _ _ _ h3)
  | _=>exact ⟨fr2,hp2,hs,hl,hk⟩
def VcT:Type:=Fr->Hp->(Exit->Fr->Hp->Prop)->Prop
def vcNo:VcT:=fun _ _ _=>False
def vcSkip:VcT:=fun fr hp K=>K .normal fr hp
def vcReg (T:TB P) (H:Hn) (Rl ks:List Nat) (nt id:Nat) (ops:Array Oper) (draw:Bool):VcT:=fun fr hp K =>
  vghs ks (ghAt H.gh id) fr hp fun fr hp=>vops T H Rl ks nt id ops draw ops.toList 0 [] fr hp (K .normal)
def vcSeq (a b:VcT):VcT:=fun fr hp K=>a fr hp fun e fr hp=>match e with
  | .normal=>b fr hp K
  | e=>K e fr hp
def z4l:Code->Nat
  | .region id _ _=>id
  | .seq a _=>z4l a
  | .block _ x=>z4l x
  | .loop x=>z4l x
  | .cond _ _ _=>1000001
  | _=>1000000
def z9k (H:Hn) (ca cb:Code) (a b:VcT):VcT:=match nIn (z4l cb) H.jn with
  | true=>fun fr hp K=>VCut (z72 ca []) a b fr hp K
  | false=>vcSeq a b
def vcCond (x:Operand) (a b:VcT):VcT:=fun fr hp K=>vev fr x fun v=>match v with
  | .pv (.val (.bool t))=>bsel t (a fr hp K) (b fr hp K)
  | _=>False
def z90 (id:Nat) (x:VcT):VcT:=fun fr hp K=>x fr hp fun e fr hp=>match e with
  | .exit id'=>match Nat.beq id' id with
    | true=>K .normal fr hp
    | false=>K (.exit id') fr hp
  | e=>K e fr hp
def vcBlk (H:Hn) (ks:List Nat) (id:Nat) (x:VcT):VcT:=fun fr hp K=>vghs ks (ghAt H.gh (2000000+id)) fr hp fun fr hp=>z90 id x fr hp K
def vcLoop (c:Code) (x:VcT):VcT:=fun fr hp K=>VLoop x (z72 c []) fr hp K
def vcExit (id:Nat):VcT:=fun fr hp K=>K (.exit id) fr hp
def vcRet:VcT:=fun fr hp K=>K .ret fr hp
def vc (T:TB P) (H:Hn) (Rl ks:List Nat) (nt:Nat) (c:Code):VcT :=
  Code.rec (motive:=fun _=>VcT) vcSkip (fun id ops draw=>vcReg T H Rl ks nt id ops draw) (fun ca cb a b=>z9k H ca cb a b) (fun x _ _ a b=>vcCond x a b) (fun id _ x=>vcBlk H ks id x) (fun c x=>vcLoop c x)
    (fun _ _ _ _ _ _=>vcNo) (fun id=>vcExit id) (fun _ _=>vcNo) (fun _=>vcNo) (fun _=>vcNo) vcRet (fun _=>vcNo) c
theorem z49 (hn:c.n=nt) (hR:∀ k,c.R k->k∈Rl) (hσ:∀ k,c.σ k≠none->k∈ks):∀ (x:Code) {fr:Fr} {hp:Hp} {K:Exit->Fr->Hp->Prop},vc T H Rl ks nt x fr hp K->Tr P c x fr (look hp) (z1z K)
  | .skip,fr,hp,K,h=>tSk (z3a (fun _=>rfl) h)
  | .region id ops draw,fr,hp,K,h=>z91 hσ (fun fr hp h=>zf4 hn hR hσ (fun _ _ h=>h) h) h
  | .seq a b,fr,hp,K,h=>by
    replace h:z9k H a b (Go.Proofs.Ytnpiekoeammkgaa.vc T H Rl ks nt a) (Go.Proofs.Ytnpiekoeammkgaa.vc T H Rl ks nt b) fr hp K:=h
    cases hj:nIn (z4l b) H.jn with
    | true =>
      simp only [z9k,hj] at h
      exact VCut.ok (fun fr hp K h=>z49 hn hR hσ a h) (fun fr hp K h=>z49 hn hR hσ b h) h
    | false =>
    simp only [z9k,hj] at h
    refine Tr.seq (Tr.mono (z49 hn hR hσ a h) fun e fr' σ' hq=>?_)
    obtain ⟨fr2,hp2,hs,hl,hk⟩:=hq
    cases e with
    | normal=>exact Tr.weak hs hl (z49 hn hR hσ b hk)
    | _=>exact ⟨fr2,hp2,hs,hl,hk⟩
  | .cond x a b,fr,hp,K,h=>by
    obtain ⟨v,hv,h⟩:=z09 h
    split at h
    · rename_i t
      refine Tr.cond hv (fun ht=>?_) fun ht=>?_
      · subst ht;exact z49 hn hR hσ a h
      · subst ht;exact z49 hn hR hσ b h
    · exact h.elim
  | .block id x,fr,hp,K,h=>by
    refine z91 hσ (K:=fun fr hp=>z90 id (Go.Proofs.Ytnpiekoeammkgaa.vc T H Rl ks nt x) fr hp K) (fun fr hp h=>?_) h
    refine tBk (Tr.mono (z49 hn hR hσ x h) fun e fr' σ' hq=>?_)
    obtain ⟨fr2,hp2,hs,hl,hk⟩:=hq
    cases e with
    | exit id' =>
      simp only [z37]
      simp only at hk
      split at hk
      · rename_i hb;rw [hb];exact ⟨fr2,hp2,hs,hl,hk⟩
      · rename_i hb;rw [hb];exact ⟨fr2,hp2,hs,hl,hk⟩
    | _=>exact ⟨fr2,hp2,hs,hl,hk⟩
  | .loop x,fr,hp,K,h=>VLoop.ok (f:=Go.Proofs.Ytnpiekoeammkgaa.vc T H Rl ks nt x) (fun fr hp K h=>z49 hn hR hσ x h) h
  | .exit id,fr,hp,K,h=>tEx (z3a (fun _=>rfl) h)
  | .ret,fr,hp,K,h=>tRt (z3a (fun _=>rfl) h)
  | .scope _,_,_,_,h=>h.elim
  | .rangeFunc ..,_,_,_,h=>h.elim
  | .label _,_,_,_,h=>h.elim
  | .goto _,_,_,_,h=>h.elim
  | .refuse _,_,_,_,h=>h.elim
def SubI (x y:IV):Prop:=∀ F ρ σ w v,RepI F ρ σ w x v->RepI F ρ σ w y v
theorem sI {x:IV}:SubI x x:=fun _ _ _ _ _ h=>h
theorem sE {x y:IV} (h:x=y):SubI x y:=fun _ _ _ _ _ hv=>h ▸ hv
inductive VEnd (x r:IV) (post:List (Nat × HO)) (hp:Hp):Prop
  | mk (hr:SubI x r) (hh:subH hp post)
def vend (T:TB P) (rs:List ResultVar) (r:IV) (post:List (Nat × HO)) (fr:Fr) (hp:Hp):Prop:=match rs with
  | []=>VEnd (.tup []) r post hp
  | [.tmp t]=>vopt (fr.get t) fun x=>VEnd x r post hp
  | [.tmp t,.tmp u]=>vopt (fr.get t) fun x=>vopt (fr.get u) fun y=>VEnd (.tup [x,y]) r post hp
  | [.tmp t,.tmp u,.tmp v]=>vopt (fr.get t) fun x=>vopt (fr.get u) fun y=>vopt (fr.get v) fun z=>VEnd (.tup [x,y,z]) r post hp
  | [.cell q t]=>z8y T t fr hp (.tmp q) fun s=>match s with
    | ⟨x,_,_,_⟩=>VEnd x r post hp
  | [.cell q t,.tmp b]=>z8y T t fr hp (.tmp q) fun s=>match s with
    | ⟨x,_,_,_⟩=>vopt (fr.get b) fun y=>VEnd (.tup [x,y]) r post hp
  | [.tmp b,.cell q t]=>vopt (fr.get b) fun y=>z8y T t fr hp (.tmp q) fun s=>match s with
    | ⟨x,_,_,_⟩=>VEnd (.tup [y,x]) r post hp
  | [.cell q t,.tmp b,.tmp d]=>z8y T t fr hp (.tmp q) fun s=>match s with
    | ⟨x,_,_,_⟩=>vopt (fr.get b) fun y=>vopt (fr.get d) fun z=>VEnd (.tup [x,y,z]) r post hp
  | [.tmp t,.tmp u,.tmp v,.tmp q,.tmp b]=>vopt (fr.get t) fun x=>vopt (fr.get u) fun y=>vopt (fr.get v) fun z=>vopt (fr.get q) fun x1=>vopt (fr.get b) fun x2=>VEnd (.tup [x,y,z,x1,x2]) r post hp
  | _=>False
theorem tup_five {F:Nat->Prop} {ρ:Loc} {σ:Heap'} {w:World} {x y z x1 x2:IV} {u v t u1 u2:Value} (hx:RepI F ρ σ w x u) (hy:RepI F ρ σ w y v) (hz:RepI F ρ σ w z t) (h1:RepI F ρ σ w x1 u1) (h2:RepI F ρ σ w x2 u2):RepI F ρ σ w (.tup [x,y,z,x1,x2]) (.tuple #[u,v,t,u1,u2]):=by
  refine .tup _ _ (fun j=>if j=0 then u else if j=1 then v else if j=2 then t else if j=3 then u1 else u2) rfl (fun j z hj=>?_) fun j z hj=>?_
  · match j with
    | 0=>rfl
    | 1=>rfl
    | 2=>rfl
    | 3=>rfl
    | 4=>rfl
    | j+5=>simp at hj
  · match j with
    | 0=>cases hj;exact hx
    | 1=>cases hj;exact hy
    | 2=>cases hj;exact hz
    | 3=>cases hj;exact h1
    | 4=>cases hj;exact h2
    | j+5=>simp at hj
def vret (T:TB P) (rs:List ResultVar) (r:IV) (post:List (Nat × HO)):Exit->Fr->Hp->Prop
  | .ret,fr,hp=>vend T rs r post fr hp
  | .normal,fr,hp=>vend T rs r post fr hp
  | _,_,_=>False
theorem z3i {t:Nat} {y:Operand} {K:Stp->Prop} (h:z8y T t fr hp y K):∃ x rd,K ⟨x,[],rd,[]⟩/\∀ (c:Cx) (o:Oper),o.op = .load t y->OkV P c (fun _=>True) o fr (look hp) x:=by
  obtain ⟨a,ea,h⟩:=z09 h
  replace h:=z0a h
  obtain ⟨e,he,h⟩:=h
  obtain ⟨d,hd,hi⟩:=z0o he
  have hrow:=TI.is_row hi
  split at h
  · split at h
    · rename_i hr
      replace h:=z02 h
      obtain ⟨z,hz,h⟩:=h
      exact ⟨_,_,h,fun c o ho=>z4w ho ea hd (hrow.trans hr) hz⟩
    · rename_i hr
      replace h:=z01 h
      obtain ⟨hn,h⟩:=h
      exact ⟨_,_,z1p (K:=fun l=>K ⟨.pv (.agg l),[],[],[]⟩) h,fun c o ho=>lEA ho ea hd (hrow.trans hr) (z0g he) (Nat.le_of_ble_eq_true hn)⟩
  · replace h:=z0t h
    obtain ⟨cs,hk,h⟩:=h
    split at h
    · rename_i hr
      replace h:=z02 h
      obtain ⟨z,hz,h⟩:=h
      exact ⟨_,_,h,fun c o ho=>z4v ho ea hk hd (hrow.trans hr) hz trivial⟩
    · rename_i hr
      replace h:=z01 h
      obtain ⟨hn,h⟩:=h
      split at h
      · rename_i ps hps
        exact ⟨_,_,z1p (K:=fun l=>K ⟨.pv (.agg l),[],[_],[]⟩) h,fun c o ho=>lBP ho ea hk hd (hrow.trans hr) (z0g he) (Nat.le_of_ble_eq_true hn) hps trivial⟩
      · exact ⟨_,_,z11 (K:=fun l=>K ⟨.agg l,[],[_],[]⟩) h,fun c o ho=>z1g ho ea hk hd (hrow.trans hr) (z0g he) (Nat.le_of_ble_eq_true hn) trivial⟩
  · replace h:=z0q h
    obtain ⟨s,els,hk,h⟩:=h
    split at h
    · rename_i hr
      obtain ⟨hn,hoff,h1,h2,h⟩:=h
      exact ⟨_,_,h,fun c o ho=>lRw ho ea hk hn hoff h1 h2 hd (hrow.trans hr) trivial⟩
    · rename_i hr
      replace h:=z01 h
      obtain ⟨hq,h⟩:=h
      obtain ⟨hn,hoff,h1,h⟩:=h
      exact ⟨_,_,h,fun c o ho=>z2e ho ea hk hn hoff h1 hd (hrow.trans hr) (by rw [z0g he,Nat.eq_of_beq_eq_true hq]) trivial⟩
  · exact h.elim
theorem vend_ok {fn:Func} {r:IV} {post:List (Nat × HO)} (h:vend T fn.results.toList r post fr hp):(∀ k o,look (up post) k=some o->look hp k=some o)/\∀ (c:Cx) ρ w a,All c ρ (look hp) w fr a->∃ v,(results fn a.tmps).run P w = .ok v w/\RepI c.F ρ (look hp) w r v:=by
  have fin:∀ {x:IV},VEnd x r post hp->(∀ (c:Cx) ρ w a,All c ρ (look hp) w fr a->∃ v,(results fn a.tmps).run P w = .ok v w/\RepI c.F ρ (look hp) w x v)->(∀ k o,look (up post) k=some o->look hp k=some o)/\∀ (c:Cx) ρ w a,All c ρ (look hp) w fr a->∃ v,(results fn a.tmps).run P w = .ok v w/\RepI c.F ρ (look hp) w r v:=by
    rintro x ⟨hr,hh⟩ hx
    exact ⟨fun k o hk=>z2m hh (z0f hk),fun c ρ w a ha=>by
      obtain ⟨v,h1,h2⟩:=hx c ρ w a ha
      exact ⟨v,h1,hr _ _ _ _ _ h2⟩⟩
  have tmps:∀ {x:IV},z8s fn fr=some x->∀ (c:Cx) ρ w a,All c ρ (look hp) w fr a->∃ v,(results fn a.tmps).run P w = .ok v w/\RepI c.F ρ (look hp) w x v:=fun hx c ρ w a ha=>za4 (P:=P) ha hx
  have arr:∀ {l:List ResultVar},fn.results.toList=l->fn.results=l.toArray:=fun hl=>by rw [<- hl]
  unfold vend at h
  split at h
  · rename_i hl;exact fin h (tmps (by simp [z8s,hl]))
  · rename_i t hl
    obtain ⟨x,hx,h⟩:=z02 h
    exact fin h (tmps (by simp [z8s,hl,hx]))
  · rename_i t u hl
    obtain ⟨x,hx,h⟩:=z02 h
    obtain ⟨y,hy,h⟩:=z02 h
    exact fin h (tmps (by simp [z8s,hl,hx,hy]))
  · rename_i t u v hl
    obtain ⟨x,hx,h⟩:=z02 h
    obtain ⟨y,hy,h⟩:=z02 h
    obtain ⟨z,hz,h⟩:=z02 h
    exact fin h (tmps (by simp [z8s,hl,hx,hy,hz]))
  · rename_i q t hl
    obtain ⟨x,rd,h,hv⟩:=z3i h
    refine fin h fun c ρ w a ha=>?_
    obtain ⟨v,ad,h1,h2,h3⟩:=z6s ha (fun c o ho=>hv c o ho)
    refine ⟨v,?_,h3⟩
    simp [results,arr hl,h1,h2,Sem.run_bind]
  · rename_i q t b hl
    obtain ⟨x,rd,h,hv⟩:=z3i h
    obtain ⟨y,hy,h⟩:=z02 h
    refine fin h fun c ρ w a ha=>?_
    obtain ⟨v,ad,h1,h2,h3⟩:=z6s ha (fun c o ho=>hv c o ho)
    obtain ⟨v',hv',h1'⟩:=ha.fr b y hy
    refine ⟨.tuple #[v,v'],?_,z8v h3 h1'⟩
    simp [results,arr hl,h1,h2,hv',Sem.run_bind]
  · rename_i b q t hl
    obtain ⟨y,hy,h⟩:=z02 h
    obtain ⟨x,rd,h,hv⟩:=z3i h
    refine fin h fun c ρ w a ha=>?_
    obtain ⟨v,ad,h1,h2,h3⟩:=z6s ha (fun c o ho=>hv c o ho)
    obtain ⟨v',hv',h1'⟩:=ha.fr b y hy
    refine ⟨.tuple #[v',v],?_,z8v h1' h3⟩
    simp [results,arr hl,h1,h2,hv',Sem.run_bind]
  · rename_i q t b d hl
    obtain ⟨x,rd,h,hv⟩:=z3i h
    obtain ⟨y,hy,h⟩:=z02 h
    obtain ⟨z,hz,h⟩:=z02 h
    refine fin h fun c ρ w a ha=>?_
    obtain ⟨v,ad,h1,h2,h3⟩:=z6s ha (fun c o ho=>hv c o ho)
    obtain ⟨v',hv',h1'⟩:=ha.fr b y hy
    obtain ⟨v'',hv'',h1''⟩:=ha.fr d z hz
    refine ⟨.tuple #[v,v',v''],?_,z5c h3 h1' h1''⟩
    simp [results,arr hl,h1,h2,hv',hv'',Sem.run_bind]
  · rename_i t u v q b hl
    obtain ⟨x,hx,h⟩:=z02 h
    obtain ⟨y,hy,h⟩:=z02 h
    obtain ⟨z,hz,h⟩:=z02 h
    obtain ⟨y1,hy1,h⟩:=z02 h
    obtain ⟨y2,hy2,h⟩:=z02 h
    refine fin h fun c ρ w a ha=>?_
    obtain ⟨v1,e1,g1⟩:=ha.fr t x hx
    obtain ⟨v2,e2,g2⟩:=ha.fr u y hy
    obtain ⟨v3,e3,g3⟩:=ha.fr v z hz
    obtain ⟨v4,e4,g4⟩:=ha.fr q y1 hy1
    obtain ⟨v5,e5,g5⟩:=ha.fr b y2 hy2
    refine ⟨.tuple #[v1,v2,v3,v4,v5],?_,tup_five g1 g2 g3 g4 g5⟩
    simp [results,arr hl,e1,e2,e3,e4,e5]
  · exact h.elim
theorem zf7 {fn:Func} {r:IV} {post:List (Nat × HO)} {e:Exit} {fr:Fr} {σ:Heap'} (h:z1z (vret T fn.results.toList r post) e fr σ):(e = .ret∨e = .normal)/\(∀ k o,look (up post) k=some o -> σ k=some o)/\∀ (c:Cx) ρ w a,All c ρ σ w fr a->∃ v ρ',(results fn a.tmps).run P w = .ok v w/\All c ρ' (look (up post)) w fr a/\RepI c.F ρ' (look (up post)) w r v:=by
  obtain ⟨fr2,hp2,hs,hl,hk⟩:=h
  have key:vend T fn.results.toList r post fr2 hp2->(∀ k o,look (up post) k=some o -> σ k=some o)/\∀ (c:Cx) ρ w a,All c ρ σ w fr a->∃ v ρ',(results fn a.tmps).run P w = .ok v w/\All c ρ' (look (up post)) w fr a/\RepI c.F ρ' (look (up post)) w r v:=fun hk=>by
    obtain ⟨h1,h2⟩:=vend_ok hk
    refine ⟨fun k o hk=>hl k o (h1 k o hk),fun c ρ w a ha=>?_⟩
    obtain ⟨ρ1,ha1,keep1⟩:=ha.restrict hl
    obtain ⟨ρ2,ha2,keep2⟩:=ha1.restrict h1
    have hsub:All c ρ1 (look hp2) w fr2 a:=⟨ha1.rel,fun t y hy=>by
      obtain ⟨x,hx,hr⟩:=hs t y hy
      obtain ⟨v,hv,h3⟩:=ha.fr t x hx
      exact ⟨v,hv,keep1 _ _ (hr _ _ _ _ h3)⟩,ha1.tr,ha1.df,ha1.sz,ha1.kk⟩
    obtain ⟨v,hv,h4⟩:=h2 c ρ1 w a hsub
    exact ⟨v,ρ2,hv,ha2,keep2 _ _ h4⟩
  cases e with
  | ret=>exact ⟨.inl rfl,key hk⟩
  | normal=>exact ⟨.inr rfl,key hk⟩
  | _=>exact hk.elim
theorem SC.vc {f:FuncId} {fn:Func} {code:Code} {args:List IV} {pre post:List (Nat × HO)} {r:IV} (T:TB P) (H:Hn) (Rl:List Nat) (hf:P.funcs[f]? = some fn) (hb:fn.body=some code) (hn:Nat.ble args.length fn.ntmps=true)
    (h:Go.Proofs.Ytnpiekoeammkgaa.vc T H Rl (pre.map (·.1)) fn.ntmps code (frOf 0 args) (up pre) (vret T fn.results.toList r post)):SC P f args pre (fun k=>k∈Rl) r post:=by
  intro F ρ w vs hkept hrel hargs
  refine calls_of_wp hf hb ?_
  have ha:All ⟨F,fun k=>k∈Rl,ρ,look (up pre),w,fn.ntmps⟩ ρ (look (up pre)) w (frOf 0 args) { tmps:=vs.toArray++Array.replicate (fn.ntmps - vs.toArray.size) undef,defers:=[] }:=by
    refine ⟨hrel,fun t x hx=>?_,.refl _ _ _ _ _,rfl,?_,hkept⟩
    · obtain ⟨v,hv,hr⟩:=hargs.2 t x (by simpa using (z6b hx).2)
      refine ⟨v,?_,hr⟩
      rw [Array.getElem?_append_left (by simpa using (List.getElem?_eq_some_iff.1 hv).1)]
      simpa using hv
    · have:=hargs.1
      have:=Nat.le_of_ble_eq_true hn
      simp;omega
  have hσ:∀ k,look (up pre) k≠none->k∈pre.map (·.1):=fun k hk=>by
    refine Classical.byContradiction fun hn=>hk (z0n.2 hn)
  refine wp_mono (z49 (c:=⟨F,fun k=>k∈Rl,ρ,look (up pre),w,fn.ntmps⟩) rfl (fun _ h=>h) hσ code h ρ w _ ha) fun e a' w' hq=>?_
  obtain ⟨ρ',σ',fr',ha',hq⟩:=hq
  obtain ⟨he,_,hres⟩:=zf7 hq
  obtain ⟨v,ρ'',hv,ha'',h1⟩:=hres _ ρ' w' a' ha'
  rcases he with rfl | rfl
  · exact ⟨ha'.df,v,hv,ρ'',v,rfl,h1,ha''.rel,ha''.tr⟩
  · exact ⟨ha'.df,v,hv,ρ'',v,rfl,h1,ha''.rel,ha''.tr⟩
end
theorem slq {k m n:Nat} (h:m=n):some (IV.sl k m)=some (IV.sl k n):=h ▸ rfl
theorem rwq {s:RT} {a b:List (List PV)} (h:a=b):some (HO.row s a)=some (HO.row s b):=h ▸ rfl
theorem mpq {a b:List (Value × PV)} (h:a=b):some (HO.map a)=some (HO.map b):=h ▸ rfl
theorem boq {a b:List IV} (h:a=b):some (HO.box a)=some (HO.box b):=h ▸ rfl
theorem ivq {a b:Int} (h:a=b):some (iInt a)=some (iInt b):=h ▸ rfl
theorem z43 {α:Type} {l:List α} {k:Nat} (h:k<l.length):∃ x,l[k]? = some x/\l.take (k+1)=l.take k++[x]/\l.drop k=x::l.drop (k+1)/\x∈l :=
  ⟨l[k],List.getElem?_eq_getElem h,by rw [List.take_append_getElem],List.drop_eq_getElem_cons h,List.getElem_mem h⟩
theorem z6i {l:List (List PV)} {α:Type} {f:α -> List PV} {a:List α} {k:Nat} (hl:l=a.map f) (h:decide ((k:Int)<l.length)=true):k<a.length:=by subst hl;simpa using h
theorem z6c {l:List (List PV)} {α:Type} {f:α -> List PV} {a:List α} {k:Nat} (hl:l=a.map f) (h:decide ((k:Int)<l.length)=false):a.length<=k:=by subst hl;simpa using h
theorem z0d {n k:Nat} (h:k<n):n - (k+1)<n - k:=by omega
theorem sN:SubI (.pv (.val (.slice none 0 0))) (.pv (.seq [])):=fun _ _ _ _ _ h=>z8j h
theorem SubA.cons {x y:IV} {xs ys:List IV} (h:SubI x y) (hs:SubA xs ys):SubA (x::xs) (y::ys):=fun σ=>Subs.cons (fun _ _ _ _ hv=>h _ _ _ _ _ hv) (hs σ)
theorem SubA.same {x:IV} {xs ys:List IV} (hs:SubA xs ys):SubA (x::xs) (x::ys):=SubA.cons sI hs
theorem SubA.nil:SubA [] []:=sR
theorem sT2 {x x' y:IV} (h:SubI x x'):SubI (.tup [x,y]) (.tup [x',y]):=fun _ _ _ _ _ hv=>tup2_sub (fun v hv=>h _ _ _ _ v hv) hv
def tabE:List (Nat × TE):=[(2,⟨.int .i64,1,8,[.int .i64]⟩),
  (3,⟨.int .i64,1,8,[.int .i64]⟩),
  (4,⟨.bool,1,1,[.bool]⟩),
  (5,⟨.int .u8,1,1,[.int .u8]⟩),
  (6,⟨.int .u8,1,1,[.int .u8]⟩),
  (7,⟨.struct [(0,2),(1,3),(2,4),(3,6)],4,24,[.int .i64,.int .i64,.bool,.int .u8]⟩),
  (8,⟨.struct [(0,2),(1,3),(2,4),(3,6)],4,24,[.int .i64,.int .i64,.bool,.int .u8]⟩),
  (9,⟨.str,1,16,[.str]⟩),
  (10,⟨.str,1,16,[.str]⟩),
  (11,⟨.str,1,16,[.str]⟩),
  (12,⟨.int .u64,1,8,[.int .u64]⟩),
  (13,⟨.struct [(0,9),(1,12)],2,24,[.str,.int .u64]⟩),
  (14,⟨.struct [(0,9),(1,12)],2,24,[.str,.int .u64]⟩),
  (15,⟨.ptr 79,1,8,[.ptr]⟩),
  (16,⟨.ptr 82,1,8,[.ptr]⟩),
  (17,⟨.ptr 91,1,8,[.ptr]⟩),
  (18,⟨.struct [(0,17)],1,8,[.ptr]⟩),
  (19,⟨.struct [(0,17)],1,8,[.ptr]⟩),
  (21,⟨.int .i32,1,4,[.int .i32]⟩),
  (22,⟨.slice 24,1,24,[.slice]⟩),
  (23,⟨.struct [(0,3),(1,3)],2,16,[.int .i64,.int .i64]⟩),
  (24,⟨.struct [(0,3),(1,3)],2,16,[.int .i64,.int .i64]⟩),
  (29,⟨.int .i64,1,8,[.int .i64]⟩),
  (34,⟨.ptr 38,1,8,[.ptr]⟩),
  (35,⟨.map 3 3,1,8,[.map]⟩),
  (36,⟨.slice 3,1,24,[.slice]⟩),
  (37,⟨.struct [(0,35),(1,35),(2,36),(3,22)],4,64,[.map,.map,.slice,.slice]⟩),
  (38,⟨.struct [(0,35),(1,35),(2,36),(3,22)],4,64,[.map,.map,.slice,.slice]⟩),
  (55,⟨.int .u64,1,8,[.int .u64]⟩),
  (57,⟨.int .i64,1,8,[.int .i64]⟩),
  (65,⟨.int .u32,1,4,[.int .u32]⟩),
  (67,⟨.int .u64,1,8,[.int .u64]⟩),
  (68,⟨.int .u64,1,8,[.int .u64]⟩),
  (72,⟨.ptr 3,1,8,[.ptr]⟩),
  (74,⟨.ptr 68,1,8,[.ptr]⟩),
  (78,⟨.struct [(0,17),(1,17),(2,17),(3,9)],4,40,[.ptr,.ptr,.ptr,.str]⟩),
  (79,⟨.struct [(0,17),(1,17),(2,17),(3,9)],4,40,[.ptr,.ptr,.ptr,.str]⟩),
  (80,⟨.arr 0 16,0,0,[]⟩),
  (81,⟨.struct [(0,80)],0,0,[]⟩),
  (82,⟨.struct [(0,80)],0,0,[]⟩),
  (84,⟨.int .u8,1,1,[.int .u8]⟩),
  (85,⟨.int .u8,1,1,[.int .u8]⟩),
  (87,⟨.ptr 5,1,8,[.ptr]⟩),
  (88,⟨.int .i32,1,4,[.int .i32]⟩),
  (89,⟨.int .i32,1,4,[.int .i32]⟩),
  (90,⟨.struct [(0,12),(1,12),(2,65),(3,84),(4,5),(5,5),(6,85),(7,86),(8,87),(9,88),(10,89)],11,48,[.int .u64,.int .u64,.int .u32,.int .u8,.int .u8,.int .u8,.int .u8,.fn,.ptr,.int .i32,.int .i32]⟩),
  (91,⟨.struct [(0,12),(1,12),(2,65),(3,84),(4,5),(5,5),(6,85),(7,86),(8,87),(9,88),(10,89)],11,48,[.int .u64,.int .u64,.int .u32,.int .u8,.int .u8,.int .u8,.int .u8,.fn,.ptr,.int .i32,.int .i32]⟩)]
def tabN:List Nat:=[2,3,4,5,6,7,8,9,10,11,12,13,14,15,16,17,18,19,21,22,23,24,25,26,27,28,29,30,31,32,33,34,35,36,37,38,39,40,41,42,43,44,45]
theorem tabE_ok:tAll Try.prog tabE=true:=by kernel_rfl
theorem tabN_ok:z73 Try.prog tabN=true:=by kernel_rfl
def tb:TB Try.prog:=mkTB Try.prog tabE tabN tabE_ok tabN_ok kR0
def inEs (l:OT):List (Value × PV):=l.map fun e=>(vKey e.1,vInt e.2)
def mvE (e:Int × Int):List PV:=[vInt e.1,vInt e.2]
def mvs (l:OT):PV:=.seq (l.map mvE)
def inRt:RT:=⟨3,1⟩
def mvRt:RT:=⟨24,2⟩
def odH (s:Od):List (Nat × HO) :=
  [(1,.box [.mp 2,.mp 3,.sp 4 (s.rdy.map eInt).length ((s.rdy++s.jk).map eInt).length,.sl 5 (s.out.map mvE).length]),(2,.map (inEs s.fr)),(3,.map (inEs s.ask)),(4,.row inRt ((s.rdy++s.jk).map eInt)),(5,.row mvRt (s.out.map mvE))]
theorem z0h (l:OT):∀ e∈inEs l,z0l (.int .i64) e.1=true:=fun e he=>by
  obtain ⟨x,_,rfl⟩:=List.mem_map.1 he
  rfl
theorem z8e (a b:Int):keyB (vKey a) (vKey b)=decide (a=b):=by
  show (a==b)=_
  by_cases h:a=b<;>simp [h]
theorem z76 (v:Int):∀ l:OT,z20 (vKey v) (inEs l)=(oGet v l).map vInt
  | []=>rfl
  | (a,b)::r=>by
    have ih:=z76 v r
    unfold inEs at ih ⊢
    simp only [List.map_cons,z20,oGet,z8e,decide_eq_true_eq]
    by_cases h:v=a
    · rw [if_pos h,if_pos h];rfl
    · rw [if_neg h,if_neg h];exact ih
theorem z14 (k v:Int):∀ l:OT,mput (vKey k) (vInt v) (inEs l)=inEs (oPut k v l)
  | []=>rfl
  | (a,b)::r=>by
    have ih:=z14 k v r
    unfold inEs at ih ⊢
    simp only [List.map_cons,mput,oPut,z8e,decide_eq_true_eq]
    by_cases h:k=a
    · rw [if_pos h,if_pos h];rfl
    · rw [if_neg h,if_neg h,ih];rfl
theorem z6e (k:Int):∀ l:OT,mdel (vKey k) (inEs l)=inEs (oDel k l)
  | []=>rfl
  | (a,b)::r=>by
    have ih:=z6e k r
    unfold inEs at ih ⊢
    simp only [List.map_cons,mdel,oDel,z8e,decide_eq_true_eq]
    by_cases h:k=a
    · rw [if_pos h,if_pos h]
    · rw [if_neg h,if_neg h,ih];rfl
theorem z18 (v:Int) (l:OT):((z20 (vKey v) (inEs l)).getD (.val (.int .i64 0)),(z20 (vKey v) (inEs l)).isSome)=(vInt (aN v l),(oGet v l).isSome):=by
  rw [z76]
  unfold aN
  cases oGet v l<;>rfl
theorem z4o (x:Int):∀ l:List Int,(insI x l).Perm (x::l)
  | []=>List.Perm.refl _
  | a::r=>by
    unfold insI
    split
    · exact List.Perm.refl _
    · exact ((z4o x r).cons a).trans (List.Perm.swap x a r)
theorem z4p (x:Int):∀ {l:List Int},l.Pairwise (· <= ·)->(insI x l).Pairwise (· <= ·)
  | [],_=>by simp [insI]
  | a::r,h=>by
    unfold insI
    obtain ⟨h1,h2⟩:=List.pairwise_cons.1 h
    split
    · rename_i c
      refine List.pairwise_cons.2 ⟨fun y hy=>?_,h⟩
      rcases List.mem_cons.1 hy with rfl | hy
      · exact c
      · exact Int.le_trans c (h1 y hy)
    · rename_i c
      refine List.pairwise_cons.2 ⟨fun y hy=>?_,z4p x h2⟩
      rcases List.mem_cons.1 ((z4o x r).mem_iff.1 hy) with rfl | hy
      · omega
      · exact h1 y hy
theorem z3u:∀ l:List Int,(z3t l).Perm l
  | []=>List.Perm.refl _
  | a::r=>(z4o a _).trans ((z3u r).cons a)
theorem z42:∀ l:List Int,(z3t l).Pairwise (· <= ·)
  | []=>List.Pairwise.nil
  | a::r=>z4p a (z42 r)
theorem sortI_eq {ss l:List Int} (h:ss.Perm l):(ss.mergeSort fun x y=>decide (x<=y))=z3t l:=by
  refine List.Perm.eq_of_pairwise (le:=(· <= ·)) (fun a b _ _ h1 h2=>Int.le_antisymm h1 h2) ?_ (z42 l) (((List.mergeSort_perm ss _).trans h).trans (z3u l).symm)
  have:=List.pairwise_mergeSort (le:=fun (x y:Int)=>decide (x<=y)) (fun a b c h1 h2=>by simp only [decide_eq_true_eq] at h1 h2 ⊢;omega) (fun a b=>by simp only [Bool.or_eq_true,decide_eq_true_eq];omega) ss
  exact this.imp fun h=>by simpa using h
theorem z58 (l:List Int):(z3t l).length=l.length:=(z3u l).length_eq
theorem keysI_es (l:OT):(inEs l).map (·.1)=(z0y l).map vKey:=by unfold inEs z0y;rw [List.map_map,List.map_map];rfl
section
open Go Go.Proofs Go.RowKit Go.Maps Go.Sort Go.Shelf
def z5r:Go.Shelf.Ren:=⟨fun | 7=>13 | 10=>22 | n=>n,fun | 23=>35 | 26=>3 | 3=>3 | 28=>43 | 0=>0 | 27=>42 | 33=>50 | 4=>4 | n=>n,fun | n=>n⟩
theorem keys13:Go.Proofs.SlLaysZI.n7 Try.prog z5r where
  mixed:=by kernel_rfl
  f7:=⟨"maps.Keys[map[int]int,int,int]", by decide,Try.func13.trans (congrArg some kR0)⟩
  f10:=⟨"maps.Keys[map[int]int,int,int]$1", by decide,Try.func22.trans (congrArg some kR0)⟩
  t0:=Try.underlying0
  a0:=Try.isAgg0
  z0:=Try.sizeOf0
  v0:=Try.zeroValue0
  t4:=Try.underlying4
  a4:=Try.isAgg4
  z4:=Try.sizeOf4
  v4:=Try.zeroValue4
  t23:=Try.underlying35
  a23:=Try.isAgg35
  z23:=Try.sizeOf35
  v23:=Try.zeroValue35
  t26:=Try.underlying3
  a26:=Try.isAgg3
  z26:=Try.sizeOf3
  v26:=Try.zeroValue3
  t27:=Try.underlying42
  a27:=Try.isAgg42
  z27:=Try.sizeOf42
  v27:=Try.zeroValue42
  t28:=Try.underlying43
  a28:=Try.isAgg43
  z28:=Try.sizeOf43
  v28:=Try.zeroValue43
  t33:=Try.underlying50
  a33:=Try.isAgg50
  z33:=Try.sizeOf50
  v33:=Try.zeroValue50
def z2j:Go.Shelf.Ren:=⟨fun | 6=>12 | 8=>17 | 9=>21 | 11=>25 | 13=>27 | 12=>26 | 23=>37 | 24=>38 | 14=>28 | 15=>29 | 16=>30 | 17=>31 | 18=>32 | 19=>33 | 20=>34 | 21=>35 | 22=>36 | 25=>39 | 26=>40 | 27=>41 | 28=>42 | 29=>43 | 30=>44 | 31=>45 | n=>n,fun | 26=>3 | 28=>43 | 24=>36 | 0=>0 | 3=>3 | 37=>55 | 48=>65 | 50=>67 | 4=>4 | 40=>58 | 39=>57 | 45=>39 | 5=>5 | 9=>9 | 51=>68 | 55=>72 | 57=>74 | 58=>75 | 33=>50 | n=>n,fun | n=>n⟩
theorem z9g:Go.Proofs.SlLaysZI.n6 Try.prog z2j where
  mixed:=by kernel_rfl
  f6:=⟨"slices.Sorted[int]", by decide,Try.func12.trans (congrArg some kR0)⟩
  f8:=⟨"slices.Collect[int]", by decide,Try.func17.trans (congrArg some kR0)⟩
  f11:=⟨"slices.AppendSeq[[]int,int]", by decide,Try.func25.trans (congrArg some kR0)⟩
  t0:=Try.underlying0
  a0:=Try.isAgg0
  z0:=Try.sizeOf0
  v0:=Try.zeroValue0
  t24:=Try.underlying36
  a24:=Try.isAgg36
  z24:=Try.sizeOf36
  v24:=Try.zeroValue36
  t26:=Try.underlying3
  a26:=Try.isAgg3
  z26:=Try.sizeOf3
  v26:=Try.zeroValue3
  t28:=Try.underlying43
  a28:=Try.isAgg43
  z28:=Try.sizeOf43
  v28:=Try.zeroValue43
  i26:=by kernel_rfl
def za7:Go.Shelf.Ren:=⟨fun | 5=>21 | 8=>27 | 7=>26 | 19=>37 | 20=>38 | 10=>28 | 11=>29 | 12=>30 | 13=>31 | 14=>32 | 15=>33 | 16=>34 | 17=>35 | 18=>36 | 30=>39 | 31=>40 | 32=>41 | 33=>42 | 34=>43 | 35=>44 | 40=>45 | n=>n,fun | 23=>36 | 25=>3 | 3=>3 | 32=>55 | 22=>36 | 0=>0 | 44=>65 | 46=>67 | 4=>4 | 36=>58 | 35=>57 | 41=>39 | 5=>5 | 9=>9 | 53=>68 | 57=>72 | 63=>74 | 64=>75 | n=>n,fun | n=>n⟩
theorem sort21:Go.Proofs.SlLaysM.n5 Try.prog za7 where
  mixed:=by kernel_rfl
  f5:=⟨"slices.Sort[[]int,int]", by decide,Try.func21.trans (congrArg some kR0)⟩
  f7:=⟨"slices.pdqsortOrdered[int]", by decide,Try.func26.trans (congrArg some kR0)⟩
  f8:=Try.func27.trans (congrArg some kR0)
  f10:=⟨"slices.insertionSortOrdered[int]", by decide,Try.func28.trans (congrArg some kR0)⟩
  f11:=⟨"slices.heapSortOrdered[int]", by decide,Try.func29.trans (congrArg some kR0)⟩
  f12:=⟨"slices.breakPatternsOrdered[int]", by decide,Try.func30.trans (congrArg some kR0)⟩
  f13:=⟨"slices.choosePivotOrdered[int]", by decide,Try.func31.trans (congrArg some kR0)⟩
  f14:=⟨"slices.reverseRangeOrdered[int]", by decide,Try.func32.trans (congrArg some kR0)⟩
  f15:=⟨"slices.partialInsertionSortOrdered[int]", by decide,Try.func33.trans (congrArg some kR0)⟩
  f16:=⟨"cmp.Less[int]", by decide,Try.func34.trans (congrArg some kR0)⟩
  f17:=⟨"slices.partitionEqualOrdered[int]", by decide,Try.func35.trans (congrArg some kR0)⟩
  f18:=⟨"slices.partitionOrdered[int]", by decide,Try.func36.trans (congrArg some kR0)⟩
  f19:=Try.func37.trans (congrArg some kR0)
  f20:=Try.func38.trans (congrArg some kR0)
  f30:=⟨"slices.siftDownOrdered[int]", by decide,Try.func39.trans (congrArg some kR0)⟩
  f31:=Try.func40.trans (congrArg some kR0)
  f32:=Try.func41.trans (congrArg some kR0)
  f33:=⟨"slices.medianAdjacentOrdered[int]", by decide,Try.func42.trans (congrArg some kR0)⟩
  f34:=⟨"slices.medianOrdered[int]", by decide,Try.func43.trans (congrArg some kR0)⟩
  f35:=⟨"cmp.isNaN[int]", by decide,Try.func44.trans (congrArg some kR0)⟩
  f40:=⟨"slices.order2Ordered[int]", by decide,Try.func45.trans (congrArg some kR0)⟩
  t0:=Try.underlying0
  a0:=Try.isAgg0
  z0:=Try.sizeOf0
  v0:=Try.zeroValue0
  t3:=Try.underlying3
  a3:=Try.isAgg3
  z3:=Try.sizeOf3
  v3:=Try.zeroValue3
  t4:=Try.underlying4
  a4:=Try.isAgg4
  z4:=Try.sizeOf4
  v4:=Try.zeroValue4
  t5:=Try.underlying5
  a5:=Try.isAgg5
  z5:=Try.sizeOf5
  v5:=Try.zeroValue5
  t9:=Try.underlying9
  a9:=Try.isAgg9
  z9:=Try.sizeOf9
  v9:=Try.zeroValue9
  t22:=Try.underlying36
  a22:=Try.isAgg36
  z22:=Try.sizeOf36
  v22:=Try.zeroValue36
  t23:=Try.underlying36
  a23:=Try.isAgg36
  z23:=Try.sizeOf36
  v23:=Try.zeroValue36
  t25:=Try.underlying3
  a25:=Try.isAgg3
  z25:=Try.sizeOf3
  v25:=Try.zeroValue3
  t32:=Try.underlying55
  a32:=Try.isAgg55
  z32:=Try.sizeOf55
  v32:=Try.zeroValue55
  t35:=Try.underlying57
  a35:=Try.isAgg57
  z35:=Try.sizeOf57
  v35:=Try.zeroValue57
  t36:=Try.underlying58
  a36:=Try.isAgg58
  z36:=Try.sizeOf58
  v36:=Try.zeroValue58
  t41:=Try.underlying39
  a41:=Try.isAgg39
  z41:=Try.sizeOf39
  v41:=Try.zeroValue39
  t44:=Try.underlying65
  a44:=Try.isAgg65
  z44:=Try.sizeOf65
  v44:=Try.zeroValue65
  t46:=Try.underlying67
  a46:=Try.isAgg67
  z46:=Try.sizeOf67
  v46:=Try.zeroValue67
  t53:=Try.underlying68
  a53:=Try.isAgg68
  z53:=Try.sizeOf68
  v53:=Try.zeroValue68
  t57:=Try.underlying72
  a57:=Try.isAgg72
  z57:=Try.sizeOf72
  v57:=Try.zeroValue72
  t63:=Try.underlying74
  a63:=Try.isAgg74
  z63:=Try.sizeOf74
  v63:=Try.zeroValue74
  t64:=Try.underlying75
  a64:=Try.isAgg75
  z64:=Try.sizeOf75
  v64:=Try.zeroValue75
theorem sorts12 (m:Nat):AnyZI.SortsIn Try.prog z2j Fence.wide m :=
  ⟨fun blk off cap ss W hH hblk hsz=>callsIn_wide.2 (AnyM.slices_Sort_int sort21 blk off cap ss W hH hblk hsz),
   fun p cap W=>callsIn_wide.2 (AnyM.slices_Sort_int_none sort21 p cap W)⟩
theorem z5n {F:Nat->Prop} {ρ:Loc} {σ:Heap'} {w w':World} (h:RelH F ρ σ w) (hb:Go.RowKit.Below w.heap.size w w') (R:Nat->Prop):RelH F ρ σ w'/\Trans F R ρ σ w ρ σ w':=by
  have t:Trans F R ρ σ w ρ σ w':=⟨hb.os,hb.tape,hb.output,hb.size,fun b hlt _=>hb.block b hlt,fun _ _ _ hi _=>.inl hi,fun _ _ _ _ _=>rfl,fun _ _ _ _ _=>rfl,fun _ _ _ _ _ _ _ _=>rfl,
    fun k s s' els els' h1 h2=>by rw [h1] at h2;cases h2;exact Nat.le_refl _,fun k cs h1=>.inr ⟨cs,h1⟩,fun k es h1=>.inr ⟨es,h1⟩,fun k s els h1=>.inr ⟨els,h1⟩⟩
  refine ⟨⟨h.inj,h.apart,fun b hF=>Nat.lt_of_lt_of_le (h.old b hF) hb.size,fun k b c hk=>?_,h.real⟩,t⟩
  obtain ⟨o,h1,h2⟩:=h.obj k b c hk
  refine ⟨o,h1,h2.keep t (hb.block b (h.lt hk)) fun x _ hn=>?_⟩
  obtain ⟨k,hk⟩:=hn.some
  exact hk.2 hk.1
theorem z8t (es:List (Value × PV)):SC Try.prog 13 [.mp 2] [(2,.map es)] (fun k=>k∈[2]) (.fn (.func 22) [] [.ptr 77 0]) [(77,.box [.mp 2]),(2,.map es)]:=by
  intro F ρ w vs hkept hrel hargs
  have ha:All ⟨F,fun k=>k∈[2],ρ,look (up [(2,.map es)]),w,vs.length⟩ ρ (look (up [(2,.map es)])) w [(0,.mp 2)] { tmps:=vs.toArray,defers:=[] }:=by
    refine ⟨hrel,fun t x hx=>?_,.refl _ _ _ _ _,rfl,by simp,hkept⟩
    match t,hx with
    | 0,hx=>cases hx;obtain ⟨v,h1,h2⟩:=hargs.2 0 _ rfl;exact ⟨v,by simpa using h1,h2⟩
    | t+1,hx=>cases hx
  obtain ⟨b,cc,r,ck,u,hv,hρ,h3,h4,h5,h6⟩:=ha.mapAt (x:=.tmp 0) rfl rfl
  have hvs:vs.toArray = #[.map (some b)]:=by
    match vs,hargs.1,hv with
    | [v],_,hv=>simp [Act.eval] at hv;rw [hv]
  rw [hvs]
  refine (callsIn_wide.1 (AnyZI.keys_in keys13 Fence.wide 5 trivial rfl (some b) w)).mono ?_
  rintro e w' ⟨rfl,rfl⟩
  have hn:=ha.alloc (k:=77) (o:=.box [.mp 2]) rfl rfl rfl rfl 1 (.cells #[.map (some b)] 35) fun keepI _=>.box [.mp 2] 35 #[.map (some b)] (fun _=>.map (some b)) (z0j w _) sI0 (fun j x hj=>by
      match j,hj with
      | 0,_=>rfl) (fun j x hj=>by
      match j,hj with
      | 0,hj=>cases hj;exact keepI _ _ (.mp _ _ fun es' _=>⟨b,cc,hρ,rfl⟩) rfl)
  refine ⟨_,_,rfl,.fn _ _ _ _ _ (fun _=>.pointer none) (fun _=>.pointer (some ⟨w.heap.size,0,none⟩)) rfl (fun j c hj=>by cases hj) (fun j c hj=>by cases hj) rfl (fun j c hj=>?_) (fun j c hj=>?_),hn.rel,hn.tr⟩
  · match j,hj with
    | 0,_=>rfl
  · match j,hj with
    | 0,hj=>cases hj;exact .ptr _ _ _ fun cs _=>⟨w.heap.size,1,z00,rfl⟩
theorem keys_map {r:Array MapEntry} {es:List (Value × PV)} {u:Nat->Value} (h4:r.size=es.length) (h5:∀ i k p,es[i]? = some (k,p)->∃ m:MapEntry,r[i]? = some m/\m.key=k/\m.val=u i):r.toList.map (·.key)=es.map (·.1):=by
  refine List.ext_getElem? fun i=>?_
  rw [List.getElem?_map,List.getElem?_map,Array.getElem?_toList]
  cases he:es[i]? with
  | none =>
    have:=List.getElem?_eq_none_iff.1 he
    rw [Array.getElem?_eq_none oM0];rfl
  | some e =>
    obtain ⟨m,h1,h2,_⟩:=h5 i e.1 e.2 he
    rw [h1];simp [h2]
abbrev rd0:Value->Option (DataW Unit × List MemPlace):=fun _=>some (.nil,[])
def SmK (l:OT):Prop:=∀ e∈l,smI e.1=true
theorem keyOf_sm {k:Int} (h:smI k=true):keyOf Try.prog 3 (vKey k)=some (.int .i64 k):=by
  have h:-1000<=k/\k<=1000:=by simpa [smI] using h
  have hm:IntKind.i64.min = -9223372036854775808:=rfl
  simp [keyOf,mapKey,Try.underlying3,vKey,Lit.wf]
  omega
theorem z94 {F:Nat->Prop} {ρ:Loc} {σ:Heap'} {w:World} {v:Value} {l:OT} (hrel:RelH F ρ σ w) (hB:σ 77=some (.box [.mp 2])) (hM:σ 2=some (.map (inEs l))) (hs:SmK l) (hl:l.length<=1073741824) (r0:RepI F ρ σ w (.fn (.func 22) [] [.ptr 77 0]) v) :
    ∃ B,v = .func (.func 22) #[] #[.pointer (some ⟨B,0,none⟩)]/\SeqGives Fence.wide 2 Try.prog 22 #[.pointer (some ⟨B,0,none⟩)] encZ (fun ss=>ss.Perm (z0y l)) l.length w:=by
  have hv1:∃ b c,ρ 77=some (b,c)/\v = .func (.func 22) #[] #[.pointer (some ⟨b,0,none⟩)]:=by
    cases r0 with
    | fn _ _ _ vs ws u t hl hv hr hl' hv' hr' =>
      have q:=hr' 0 _ rfl
      have q2:=hv' 0 _ rfl
      cases q with
      | ptr _ _ _ h =>
        obtain ⟨b,c,h1,h2⟩:=h _ hB
        refine ⟨b,c,h1,?_⟩
        have e1:vs = #[]:=Array.eq_empty_of_size_eq_zero hl
        subst e1
        have e2:ws = #[.pointer (some ⟨b,0,none⟩)]:=by
          apply Array.ext
          · simpa using hl'
          · intro i h1' h2'
            have:i=0:=by simp at h2';omega
            subst this
            rw [Array.getElem?_eq_getElem h1'] at q2
            exact (Option.some.inj q2).trans h2
        rw [e2]
  obtain ⟨B,cB,hBρ,rfl⟩:=hv1
  obtain ⟨o1,q1,q2⟩:=hrel.obj 77 B cB hBρ
  rw [hB] at q1
  cases q1
  obtain ⟨eB,a,uB,g1,g2,g3,g4⟩:=q2.inv_box
  have g5:=g4 0 _ rfl
  have g6:=g3 0 _ rfl
  have hmp:∃ b c,ρ 2=some (b,c)/\uB 0 = .map (some b):=by
    generalize uB 0=x at g5
    cases g5 with
    | mp _ _ h=>exact h _ hM
  obtain ⟨b,cc,hρ,hu⟩:=hmp
  obtain ⟨o2,q3,q4⟩:=hrel.obj 2 b cc hρ
  rw [hM] at q3
  cases q3
  obtain ⟨r,ck,u,h3,h4,h5,h6⟩:=q4.inv_map
  have hst:=q4.stamped h3
  have hkm:=keys_map h4 h5
  rw [keysI_es] at hkm
  have hrd:∀ x∈r.toList,∃ k,x.key=vKey k/\Go.WideElems.rg Try.prog 3 rd0 x=(.int .i64 k,.nil)/\∃ y,Go.WideElems.rd Try.prog 3 rd0 x=some y:=by
    intro x hx
    have hm:x.key∈(z0y l).map vKey:=hkm ▸ List.mem_map_of_mem hx
    obtain ⟨k,hk,hxe⟩:=List.mem_map.1 hm
    obtain ⟨e,he,rfl⟩:=List.mem_map.1 hk
    have hko:=keyOf_sm (hs e he)
    have:Go.WideElems.rd Try.prog 3 rd0 x=some (.int .i64 e.1,.nil):=by simp [Go.WideElems.rd,<- hxe,hko]
    exact ⟨_,hxe.symm,Go.WideElems.rg_of this,_,this⟩
  have hown:w.ownsMap Try.prog 3 rd0 b r.size (.map ((r.toList.map (Go.WideElems.rg Try.prog 3 rd0)).foldr DataW.insert [])):=⟨r,ck,h3,⟨by rw [h4];unfold inEs;rw [List.length_map];exact Nat.le_trans hl dC0,hst,fun x hx=>(hrd x hx).elim fun _ h=>h.2.2⟩,Nat.le_refl _,rfl⟩
  have hperm:(intKeys (.map ((r.toList.map (Go.WideElems.rg Try.prog 3 rd0)).foldr DataW.insert []))).Perm (z0y l):=by
    refine ((Go.WideShapes.sorted_perm _).map _).trans ?_
    rw [List.map_map]
    have:r.toList.map ((fun p=>_root_.Go.intOf p.1) ∘ Go.WideElems.rg Try.prog 3 rd0)=(r.toList.map (·.key)).map fun k=>match k with | .int _ n=>n | _=>0:=by
      rw [List.map_map]
      refine List.map_congr_left fun x hx=>?_
      obtain ⟨k,h1,h2,_⟩:=hrd x hx
      simp only [Function.comp,h2,h1,_root_.Go.intOf,vKey]
    rw [this,hkm,List.map_map]
    have:(fun k=>match k with | Value.int _ n=>n | _=>0) ∘ vKey=id:=rfl
    rw [this,List.map_id]
  have hBlt:=hrel.lt hBρ
  have hsize:Maps.size (.map ((r.toList.map (Go.WideElems.rg Try.prog 3 rd0)).foldr DataW.insert []))=l.length:=by
    simp only [Maps.size,length_sorted,List.length_map,Array.length_toList,h4,inEs]
  have hseq:SeqGives Fence.wide 2 Try.prog 22 #[.pointer (some ⟨B,0,none⟩)] encZ (fun ss=>ss.Perm (intKeys (.map ((r.toList.map (Go.WideElems.rg Try.prog 3 rd0)).foldr DataW.insert [])))) (Maps.size (.map ((r.toList.map (Go.WideElems.rg Try.prog 3 rd0)).foldr DataW.insert []))) w :=
    AnyZI.keys_gives (ρ:=z5r) { keys13 with } Fence.wide _ trivial rfl oM0 B b r.size _ w hBlt (by
      simp only [World.cell?,g1]
      simpa [hu] using g6) hown
  rw [hsize] at hseq
  refine ⟨B,rfl,?_⟩
  have hP:(fun ss:List Int=>ss.Perm (intKeys (.map ((r.toList.map (Go.WideElems.rg Try.prog 3 rd0)).foldr DataW.insert []))))=fun ss=>ss.Perm (z0y l):=funext fun ss=>propext ⟨fun h=>h.trans hperm,fun h=>h.trans hperm.symm⟩
  rw [hP] at hseq
  exact hseq
theorem z9f {F:Nat->Prop} {ρ:Loc} {σ:Heap'} {w w':World} {v:Value} {xs:List Int} {m:Nat} (hrel:RelH F ρ σ w) (hrow:w'.ownsRow w.heap.size 3 1 v m (xs.map encZ)) (hm:xs.length=m):RepP (owned F ρ) w' (ints xs) v:=by
  subst hm
  show RepP _ _ (.seq (xs.map eInt)) v
  have hlen:xs.length=(xs.map eInt).length:=by simp
  rcases hrow.2 with ⟨rfl,hz⟩ | ⟨g,cap,cur,rfl,t1,t2,t3,t4,t5,t6⟩
  · have he:xs.map eInt=[]:=List.eq_nil_of_length_eq_zero (hlen ▸ hz)
    rw [he]
    exact .seq [] none 0 0 0 (fun _ _=>.bool false) (fun h=>absurd rfl h) (fun h=>absurd rfl h) (Nat.le_refl _) (Nat.zero_le _) (fun i el h=>by cases h) (fun i el h=>by cases h)
  · have hat:∀ (i:Nat) (el:List PV),(xs.map eInt)[i]? = some el->∃ s:Int,el=[PV.val (.int .i64 s)]/\cur[i]? = some (Value.int .i64 s):=by
      intro i el hi
      rw [List.getElem?_map] at hi
      cases hm:xs[i]? with
      | none=>rw [hm] at hi;cases hi
      | some x =>
        rw [hm] at hi;cases hi
        refine ⟨x,rfl,?_⟩
        have:(cur.toList.take (xs.length*1))[i]? = some (encZ x):=by rw [t6,List.getElem?_map,hm,Option.map_some]
        rw [List.getElem?_take] at this
        split at this
        · rw [Array.getElem?_toList] at this
          exact this
        · cases this
    rw [hlen]
    refine .seq _ _ cap g 0 (fun i _=>cur.getD i (.bool false)) (fun _=>rfl) (fun _=>⟨fun ho=>?_,?_⟩) (hlen ▸ t3) t4 (fun i el hi j c hj=>?_) fun i el hi j c hj=>?_
    · have:=hrel.own_lt ho;omega
    · rcases Nat.lt_or_ge g w'.heap.size with h | h
      · exact h
      · rw [Array.getElem?_eq_none h] at t2;cases t2
    · obtain ⟨s,rfl,hs⟩:=hat i el hi
      match j,hj with
      | 0,hj=>simp only [World.cell?,t2];simp [hs]
    · obtain ⟨s,rfl,hs⟩:=hat i el hi
      match j,hj with
      | 0,hj=>cases hj;simp [hs];exact .val _
theorem z7w (l:OT) (hs:SmK l) (hl:l.length<=1073741824):SC Try.prog 12 [.fn (.func 22) [] [.ptr 77 0]] [(77,.box [.mp 2]),(2,.map (inEs l))] (fun k=>k∈[77,2]) (.pv (ints (z3t (z0y l)))) [(77,.box [.mp 2]),(2,.map (inEs l))]:=by
  intro F ρ w vs hkept hrel hargs
  obtain ⟨v0,e0,r0⟩:=hargs.2 0 _ rfl
  obtain ⟨B,rfl,hseq⟩:=z94 hrel rfl rfl hs hl r0
  have hvs:vs=[.func (.func 22) #[] #[.pointer (some ⟨B,0,none⟩)]]:=by
    match vs,hargs.1,e0 with
    | [x],_,e0=>cases e0;rfl
  subst hvs
  refine (callsIn_wide.1 (AnyZI.sorted_in z9g Fence.wide 5 trivial trivial trivial trivial rfl oM0 (sorts12 _) (enters_of Try.func21 kR0 rfl) 22 #[.pointer (some ⟨B,0,none⟩)] trivial (enters_of Try.func22 kR0 rfl) _ _ (Nat.le_trans hl dC0) oM0 _ hseq)).mono ?_
  rintro e w' ⟨v,ss,rfl,hS,hrow,hnil,hb⟩
  obtain ⟨k1,k2⟩:=z5n hrel hb (fun k=>k∈[77,2])
  rw [sortI_eq hS] at hrow
  exact ⟨ρ,v,rfl,.pv _ _ (z9f hrel hrow (by rw [z58];exact hS.length_eq.symm)),k1,k2⟩
theorem All.below {c:Cx} {ρ:Loc} {σ:Heap'} {fr:Fr} {w w':World} {a:Act} (h:All c ρ σ w fr a) (hb:Go.RowKit.Below w.heap.size w w'):All c ρ σ w' fr a:=by
  obtain ⟨k1,k2⟩:=z5n h.rel hb c.R
  exact h.step k2 (fun _ h=>h) k1 (fun k e1 e2=>absurd e1 e2) fun x _ _ hn=>by
    obtain ⟨k,hk⟩:=hn.some
    exact hk.2 hk.1
theorem WL.collect {c:Cx} {ops:Array Oper} {Q:Exit->Fr->Heap'->Prop} {o:Oper} {fr:Fr} {hp:Hp} {rest:List Oper} {d:Nat} {y:Operand} {tys:Array TypeId} {l:OT} (hg:o.guard=none) (hd:o.dst=some d) (hn:Nat.blt d c.n=true)
    (ho:o.op = .call { callee:=.value (.func 17),args:=#[y],argTypes:=tys }) (hy:fr.ev y=some (.fn (.func 22) [] [.ptr 77 0])) (hB:look hp 77=some (.box [.mp 2])) (hM:look hp 2=some (.map (inEs l))) (hs:SmK l) (hl:l.length<=1073741824)
    (h:∀ ss:List Int,ss.Perm (z0y l)->WL Try.prog c ops Q rest ((d,.pv (ints ss))::fr) (look hp)):WL Try.prog c ops Q (o::rest) fr (look hp):=by
  intro ρ w a ha
  refine wpList_plain hg fun K hK=>?_
  obtain ⟨B,hv,hseq⟩:=z94 ha.rel hB hM hs hl (ha.ev hy)
  have hrun:(execOp a.eval o).run Try.prog w = .ok (.enter 17 #[.func (.func 22) #[] #[.pointer (some ⟨B,0,none⟩)]]) w:=by
    have hcall:=enters_of Try.func17 kR0 rfl #[.func (.func 22) #[] #[.pointer (some ⟨B,0,none⟩)]] w
    simp only [execOp,ho,resolve,Act.eval,Deferred.ofValue,Sem.run_bind,Sem.run_pure,Result.andThen_ok,invoke]
    rw [<- hcall,<- hv]
    congr 2
    simp
  unfold Oper.wp
  rw [hrun,Oper.upon_enter]
  refine (callsIn_wide.1 (AnyZI.collect_in (ρ:=z2j) { z9g with } Fence.wide 4 trivial trivial rfl oM0 22 #[.pointer (some ⟨B,0,none⟩)] trivial (enters_of Try.func22 kR0 rfl) _ _ (Nat.le_trans hl dC0) oM0 _ hseq)).mono ?_
  rintro e w' ⟨v,ss,rfl,hS,hrow,hnil,hb⟩
  have hp2:=z9f ha.rel hrow rfl
  have hA:=ha.below hb
  refine hK _ _ (h ss hS ρ w' _ ?_)
  have:=hA.put (d:=o.dst) (.pv _ _ hp2) (by rw [hd];intro t ht;cases ht;simpa using hn)
  rwa [hd] at this ⊢
set_option maxRecDepth 100000 in
set_option maxHeartbeats 4000000 in
theorem z70 (b:Nat) (r:Array MapEntry) (ck:Nat) (w:World) (hb:w.heap[b]? = some (.map r ck)) :
    Calls Try.prog 11 #[.map (some b)] w fun e w'=>e = .returned (.map (some w.heap.size))/\w'=w.alloc (.map r ck):=by
  have hq:=fun w=>run_eql_map_nil_sl (P:=Try.prog) w 35 _ _ (some b) Try.underlying35
  go_enter Try.func11,Try.ntmps11
  go_wp2
  rw [run_callFunc_extern Try.func20 kR0 kR0 kR0 (e:=Extern.MapsClone.clone) kR0,run_maps_clone_sl w 35 hb]
  simp only [Result.andThen]
  rw [Oper.upon_value]
  go_wp2
  rw [run_typeAssert_map_sl _ 35 20 _ _ _ Try.underlying35]
  simp only [Result.andThen]
  rw [Oper.upon_value]
  go_wp2
  go_ret
  exact ⟨rfl,rfl⟩
theorem sc_clone (es:List (Value × PV)):SC Try.prog 11 [.mp 2] [(2,.map es)] (fun k=>k∈[2]) (.mp 8) [(8,.map es),(2,.map es)]:=by
  intro F ρ w vs hkept hrel hargs
  have ha:All ⟨F,fun k=>k∈[2],ρ,look (up [(2,.map es)]),w,vs.length⟩ ρ (look (up [(2,.map es)])) w [(0,.mp 2)] { tmps:=vs.toArray,defers:=[] }:=by
    refine ⟨hrel,fun t x hx=>?_,.refl _ _ _ _ _,rfl,by simp,hkept⟩
    match t,hx with
    | 0,hx=>cases hx;obtain ⟨v,h1,h2⟩:=hargs.2 0 _ rfl;exact ⟨v,by simpa using h1,h2⟩
    | t+1,hx=>cases hx
  obtain ⟨b,cc,r,ck,u,hv,hρ,h3,h4,h5,h6⟩:=ha.mapAt (x:=.tmp 0) rfl rfl
  have hst:=ha.stamped hρ rfl h3
  have hvs:vs.toArray = #[.map (some b)]:=by
    match vs,hargs.1,hv with
    | [v],_,hv=>simp [Act.eval] at hv;rw [hv]
  rw [hvs]
  refine (z70 b r ck w h3).mono ?_
  rintro e w' ⟨rfl,rfl⟩
  have hn:=ha.alloc (k:=8) (o:=.map es) rfl rfl rfl rfl 1 (.map r ck) fun _ keepP=>.map es r ck u (z0j w _) h4 h5 fun i k p hi=>keepP _ _ (h6 i k p hi)
  exact ⟨_,_,rfl,.mp _ _ fun es' _=>⟨w.heap.size,1,z00,rfl⟩,hn.rel,hn.tr⟩
end
set_option maxRecDepth 20000
set_option maxHeartbeats 4000000
theorem z7v (s:Od) (to f:Int) (ho:s.out.length<=1000):SC Try.prog 24 [.ptr 1 0,iInt to,iInt f] (odH s) (fun k=>k∈[]) (.tup []) (odH { s with out:=s.out++[(to,f)] }):=by
  refine SC.vc tb {} [] Try.func24 rfl rfl ?_
  exact ⟨rfl,z75 rfl,by simp;omega,by simp,sI,boq sI0,rfl,rfl,rfl,rwq (by simp [mvE]),trivial⟩
theorem ok_del {Rl:List Nat} {o:Oper} {fr:Fr} {hp:Hp} {x y:Operand} {k:Nat} {l:OT} {kv:Int} (ho:o.op = .call { callee:=.builtin .delete,args:=#[x,y],argTypes:=#[35,3] }) (hk:look hp k=some (.map (inEs l)))
    (hR:k∉Rl) (hex:∀ {fr2},agr fr2 fr (z05 o.op)->fr2.ev x=some (.mp k)/\fr2.ev y=some (iInt kv)):OkF Try.prog Rl o fr hp ⟨.tup [],[(k,some (.map (inEs (oDel kv l))))],[k],[]⟩:=by
  intro c fr2 hp2 hc _ hg hh _
  have:=z7e (c:=c) ho (hex hg).1 (hex hg).2 (hh.at hk (.head _)) (fun h=>hR (hc k h)) Try.underlying35 Try.underlying3 rfl (z0h l)
  rw [show mdel (Value.int .i64 kv) (inEs l)=inEs (oDel kv l) from z6e kv l] at this
  exact this
theorem zg1 (s:Od) (t:Int) (hg:odAt s t=true) (hp1:s.jk≠[]):SC Try.prog 23 [.ptr 1 0,iInt t] (odH s) (fun k=>k∈[]) (.tup []) (odH (z5w s t)):=by
  obtain ⟨fr,ask,rdy,jk,out⟩:=s
  simp only [odAt,odGd,smI,Bool.and_eq_true,decide_eq_true_eq] at hg
  obtain ⟨⟨⟨g1,g2⟩,_⟩,g3,g4⟩:=hg
  dsimp only at hp1
  refine SC.vc tb { an:=[1005] } [] Try.func23 rfl rfl ?_
  have hgd:=z18 t fr
  have hM:=z7v ⟨oDel t fr,ask,rdy,jk,out⟩ t (aN t fr) g2
  unfold z5w
  dsimp only
  generalize aN t fr=f at hgd hM g3 g4 ⊢
  have hga:=z18 f (oPut f (aN f ask - 1) ask)
  rw [<- z14] at hga
  have hgk:=z0h (oPut f (aN f ask - 1) ask)
  rw [<- z14] at hgk
  refine ⟨rfl,z0h _,hgd,ok_del (l:=fr) (kv:=t) (k:=2) rfl rfl dC0 fun h=>⟨h.ev rfl (by simp [Op.operands,Call.operands]),h.ev rfl (by simp [Op.operands,Call.operands])⟩,?_⟩
  refine ⟨[],hM,sR,⟨rfl,rfl,rfl,rfl,rfl,trivial⟩,rfl,rfl,z0h _,z18 f ask,z6d (z:=aN f ask - 1) rfl oM0,rfl,z0h _,rfl,z0h _,z18 f (oDel t fr),?_⟩
  refine z0p (fun h1=>?_) fun h1=>?_
  · have e1:(oGet f (oDel t fr)).isSome=true:=h1
    refine ⟨rfl,hgk,hga,z0p (fun h2=>?_) fun h2=>?_⟩
    · have e2:(aN f (oPut f (aN f ask - 1) ask)==0)=true:=h2
      rw [if_pos (by rw [e1,e2];rfl)]
      obtain ⟨x,q,rfl⟩:=List.exists_cons_of_ne_nil hp1
      refine VApp1.mk (m':=((rdy++[f]++q).map eInt).length) (els':=(rdy++[f]++q).map eInt) rfl (z75 rfl) (by simp at g1 ⊢;omega) (.inl ⟨by simp,by simp [eInt,List.map_set],by simp⟩) ?_
      exact ⟨rfl,sI,boq (by simp [z3q]),rfl,mpq (z14 _ _ _),rfl,rfl,trivial⟩
    · have e2:(aN f (oPut f (aN f ask - 1) ask)==0)=false:=h2
      rw [if_neg (by rw [e1,e2];decide)]
      exact ⟨sI,rfl,rfl,mpq (z14 _ _ _),rfl,rfl,trivial⟩
  · have e1:(oGet f (oDel t fr)).isSome=false:=h1
    rw [if_neg (by rw [e1,Bool.false_and];decide)]
    exact ⟨sI,rfl,rfl,mpq (z14 _ _ _),rfl,rfl,trivial⟩
theorem z62:∀ (N:Nat) (s r:Od),z1f N s=some r->SC Try.prog 14 [.ptr 1 0] (odH s) (fun k=>k∈[]) (.tup []) (odH r):=by
  intro N s r hr
  refine SC.vc tb {} [] Try.func14 rfl rfl ?_
  refine ⟨Nat × Od,fun _=>[],fun a=>odH a.2,fun a=>a.1,fun a=>z1f a.1 a.2=some r,[],(N,s),hr,trivial,⟨rfl,rfl,rfl,rfl,rfl,trivial⟩,?_⟩
  rintro ⟨n,s⟩ hs
  dsimp only at hs ⊢
  refine ⟨rfl,z0p (fun hc=>?_) fun hc=>?_⟩
  · obtain ⟨q,t,hq⟩:∃ q t,s.rdy=q++[t]:=by
      rcases List.eq_nil_or_concat s.rdy with h | ⟨q,t,h⟩
      · rw [h] at hc;exact absurd hc dC0
      · exact ⟨q,t,by simpa using h⟩
    obtain ⟨fr,ask,rdy,jk,out⟩:=s
    dsimp only at hq
    subst hq
    cases n with
    | zero=>cases hs
    | succ n =>
      unfold z1f at hs
      simp only [List.reverse_append,List.reverse_cons,List.reverse_nil,List.nil_append,List.singleton_append,List.reverse_reverse] at hs
      split at hs
      · rename_i c
        have hD:=zg1 ⟨fr,ask,q,t::jk,out⟩ t (by simpa [odAt,odGd,Nat.add_assoc,Nat.add_comm 1] using c) sI0
        refine ⟨rfl,z6d (z:=(q.length:Int)) sI0 (by simp only [odAt,odGd,Bool.and_eq_true,decide_eq_true_eq,List.length_append,List.length_cons,List.length_nil] at c;omega),?_⟩
        refine ⟨rfl,VIdR.mk (i:=q.length) sI0 rfl (VRow.mk (i:=q.length) (j:=0) (el:=[vInt t]) rfl rfl (by simp [eInt]) rfl ?_)⟩
        refine ⟨rfl,q.length,rfl,by simp,rfl,[],hD,sR,⟨boq sI0,rfl,rfl,rwq sI0,rfl,trivial⟩,rfl,?_⟩
        exact ⟨(n,_),Nat.lt_succ_self _,hs,trivial,⟨rfl,rfl,rfl,rfl,rfl,trivial⟩,rfl,rfl,rfl,rfl⟩
      · cases hs
  · have hr0:s.rdy=[]:=List.eq_nil_of_length_eq_zero (by simpa using hc)
    cases n with
    | zero=>cases hs
    | succ n =>
      unfold z1f at hs
      rw [hr0] at hs
      cases hs
      exact ⟨sI,rfl,rfl,rfl,rfl,rfl,trivial⟩
set_option maxRecDepth 20000
set_option maxHeartbeats 4000000
theorem z3z (ks:List Int) (x t spare:Int) (fr:OT):z1s (ks++[x]) t spare fr=if aN x (z1s ks t spare fr)==t then oPut x spare (z1s ks t spare fr) else z1s ks t spare fr:=by unfold z1s;rw [List.foldl_append];rfl
theorem tail_app {α:Type} (a b:List α) (x:α):(b=[]/\a++[x]++b.drop 1=a++b++[x])∨(b≠[]/\a++[x]++b.drop 1=(a++b).set a.length x):=by
  cases b with
  | nil=>exact .inl ⟨rfl,by simp⟩
  | cons y r=>exact .inr ⟨by simp,by simp⟩
theorem zg2 (s:Od) (t spare:Int) (hg:odGd s=true):SC Try.prog 15 [.ptr 1 0,iInt t,iInt spare] (odH s) (fun k=>k∈[]) (.tup []) (odH (z5y s t spare)):=by
  obtain ⟨fr,ask,rdy,jk,out⟩:=s
  simp only [odGd,Bool.and_eq_true,decide_eq_true_eq] at hg
  obtain ⟨⟨g1,g2⟩,g3,g4⟩:=hg
  have hs:SmK fr:=fun e he=>List.all_eq_true.1 g4 e he
  have hM:=z7v ⟨fr,ask,rdy,jk,out⟩ spare t g2
  have hK:=z8t (inEs fr)
  have hS:=z7w fr hs oM0
  have hlen:(z3t (z0y fr)).length=fr.length:=by rw [z58];simp [z0y]
  unfold z5y
  dsimp only
  generalize z3t (z0y fr)=ks at hS hlen ⊢
  refine SC.vc tb { ids:=[(16,77)] } [] Try.func15 rfl rfl ?_
  refine ⟨[],hM,sR,⟨rfl,rfl,rfl,rfl,rfl,trivial⟩,rfl,[2],hK,sR,⟨rfl,rfl,trivial⟩,rfl,[77,2],hS,sR,⟨rfl,rfl,rfl,rfl,trivial⟩,rfl,?_⟩
  refine ⟨Nat,fun i=>[(19,iInt ((i:Nat):Int))],fun i=>[(2,.map (inEs (z1s (ks.take i) t spare fr)))],fun i=>ks.length - i,fun i=>i<=ks.length,[],0,Nat.zero_le _,⟨rfl,trivial⟩,⟨rfl,trivial⟩,?_⟩
  intro i hi
  refine z0p (fun hc=>?_) fun hc=>?_
  · have hlt:i<ks.length:=z6i (f:=eInt) rfl hc
    obtain ⟨x,x1,x2,x3,x4⟩:=z43 hlt
    have hgd:=z18 x (z1s (ks.take i) t spare fr)
    refine ⟨z0c (f:=eInt) x1,rfl,rfl,z0h _,hgd,z0p (fun h2=>?_) fun h2=>?_⟩
    · have h2:(aN x (z1s (ks.take i) t spare fr)==t)=true:=h2
      exact ⟨rfl,z0h _,z07 rfl oM0,i+1,z0d hlt,hlt,⟨rfl,trivial⟩,⟨mpq (by rw [x2,z3z,if_pos h2,<- z14];rfl),trivial⟩,rfl,rfl,rfl,rfl⟩
    · have h2:(aN x (z1s (ks.take i) t spare fr)==t)=false:=h2
      exact ⟨z07 rfl oM0,i+1,z0d hlt,hlt,⟨rfl,trivial⟩,⟨mpq (by rw [x2,z3z,if_neg (by rw [h2];decide)]),trivial⟩,rfl,rfl,rfl,rfl⟩
  · have hge:ks.length<=i:=z6c (f:=eInt) rfl hc
    rw [List.take_of_length_le hge]
    refine ⟨rfl,z0h _,?_⟩
    refine VApp1.mk (m':=((rdy++[t]++jk.drop 1).map eInt).length) (els':=(rdy++[t]++jk.drop 1).map eInt) rfl (z75 rfl) (by simp;omega) ?_ ?_
    · rcases tail_app rdy jk t with ⟨h1,h2⟩ | ⟨h1,h2⟩
      · rw [h2,h1];exact .inr ⟨by simp,by simp [eInt],by simp⟩
      · have:=List.length_pos_iff.2 h1
        rw [h2];exact .inl ⟨by simp;omega,by simp [List.map_set];rfl,by simp⟩
    · exact ⟨rfl,sI,boq (by simp [z3q]),rfl,mpq (z14 _ _ _),rfl,rfl,trivial⟩
set_option maxRecDepth 20000
set_option maxHeartbeats 4000000
theorem ok_min {P:Program} {c:Cx} {fr:Fr} {R1:Nat->Prop} {o:Oper} {σ:Heap'} {t:TypeId} {x y:Operand} {k:IntKind} {m n:Int} (ho:o.op = .call { callee:=.builtin .min,args:=#[x,y],argTypes:=#[t,t] }) (hx:fr.ev x=some (.pv (.val (.int k m)))) (hy:fr.ev y=some (.pv (.val (.int k n)))) :
    OkV P c R1 o fr σ (.pv (.val (.int k (if n<m then n else m)))):=by
  intro ρ w a h
  refine ⟨.int k (if n<m then n else m),fun w2 _=>?_,z0r _⟩
  simp [execOp,ho,z03 h hx,z03 h hy,resolve,invoke,builtin,Builtin.min_,Builtin.min2]
theorem okf_min {P:Program} {Rl:List Nat} {fr:Fr} {hp:Hp} {o:Oper} {t:TypeId} {x y:Operand} {m n:Int} (ho:o.op = .call { callee:=.builtin .min,args:=#[x,y],argTypes:=#[t,t] }) (hx:∀ {fr2},agr fr2 fr (z05 o.op)->fr2.ev x=some (iInt m)/\fr2.ev y=some (iInt n)) :
    OkF P Rl o fr hp ⟨iInt (if n<m then n else m),[],[],[]⟩:=.pure fun c R1 fr2 hp2 hg hh hR=>ok_min ho (hx hg).1 (hx hg).2
def minF (m:Int) (l:List Int):Int:=l.foldl (fun m x=>if x<m then x else m) m
theorem zd7 (m:Int) (l:List Int) (x:Int):minF m (l++[x])=if x<minF m l then x else minF m l:=by unfold minF;rw [List.foldl_append];rfl
theorem zd5:∀ (l:List Int) (m:Int),minF m l<=m/\(∀ x∈l,minF m l<=x)/\(minF m l=m∨minF m l∈l)
  | [],m=>⟨Int.le_refl _,fun x hx=>by simp at hx,.inl rfl⟩
  | a::r,m=>by
    obtain ⟨h1,h2,h3⟩:=zd5 r (if a<m then a else m)
    have e:minF m (a::r)=minF (if a<m then a else m) r:=rfl
    rw [e]
    have h4:(if a<m then a else m)<=m/\(if a<m then a else m)<=a:=by split<;>omega
    refine ⟨Int.le_trans h1 h4.1,fun x hx=>?_,?_⟩
    · rcases List.mem_cons.1 hx with rfl | hx
      · exact Int.le_trans h1 h4.2
      · exact h2 x hx
    · rcases h3 with h3 | h3
      · rw [h3];split
        · exact .inr (.head _)
        · exact .inl rfl
      · exact .inr (.tail _ h3)
theorem zd8:∀ (a:Int) (r:List Int),(∀ x∈a::r,minI (a::r)<=x)/\minI (a::r)∈a::r
  | a,[]=>⟨fun x hx=>by rw [List.mem_singleton.1 hx];exact Int.le_refl _,.head _⟩
  | a,b::r=>by
    obtain ⟨h1,h2⟩:=zd8 b r
    have e:minI (a::b::r)=min a (minI (b::r)):=rfl
    rw [e]
    refine ⟨fun x hx=>?_,?_⟩
    · rcases List.mem_cons.1 hx with rfl | hx
      · exact Int.min_le_left _ _
      · exact Int.le_trans (Int.min_le_right _ _) (h1 x hx)
    · rcases Int.le_total a (minI (b::r)) with h | h
      · rw [Int.min_eq_left h];exact .head _
      · rw [Int.min_eq_right h];exact .tail _ h2
theorem zd6 {a:Int} {r l:List Int} (h:(a::r).Perm l):minF a r=minI l:=by
  obtain ⟨h1,h2,h3⟩:=zd5 r a
  have hm:minF a r∈l:=h.mem_iff.1 (h3.elim (fun e=>by rw [e];exact .head _) fun e=>.tail _ e)
  match l,h,hm with
  | b::q,h,hm =>
    obtain ⟨g1,g2⟩:=zd8 b q
    have e1:=g1 _ hm
    have e2:minF a r<=minI (b::q):=by
      rcases List.mem_cons.1 (h.mem_iff.2 g2) with e | e
      · rw [e];exact h1
      · exact h2 _ e
    omega
theorem sc_min (a:Int) (r:List Int) (hl:r.length<=1073741824):SC Try.prog 16 [.pv (ints (a::r))] [] (fun k=>k∈[]) (iInt (minF a r)) []:=by
  refine SC.vc tb { an:=[7005] } [] Try.func16 rfl rfl ?_
  refine ⟨rfl,rfl,?_⟩
  refine ⟨Nat,fun i=>[(4,iInt ((i:Nat)+1:Int)),(3,iInt (minF a (r.take i)))],fun _=>[],fun i=>r.length - i,fun i=>i<=r.length,[],0,Nat.zero_le _,⟨rfl,rfl,trivial⟩,trivial,?_⟩
  intro i hi
  refine z0p (fun hc=>?_) fun hc=>?_
  · have hlt:i<r.length:=by simpa using hc
    obtain ⟨x,x1,x2,x3,x4⟩:=z43 hlt
    have hx:(a::r)[i+1]? = some x:=x1
    refine ⟨z0c (f:=eInt) hx,rfl,okf_min (m:=minF a (r.take i)) (n:=x) rfl fun h=>⟨h.ev rfl (by simp [Op.operands,Call.operands]),h.ev rfl (by simp [Op.operands,Call.operands])⟩,?_⟩
    exact ⟨z07 rfl oM0,i+1,z0d hlt,hlt,⟨rfl,ivq (by rw [x2,zd7]),trivial⟩,trivial,rfl,rfl,rfl,rfl⟩
  · have hge:r.length<=i:=by simpa using hc
    exact ⟨sE (by rw [List.take_of_length_le hge]),trivial⟩
section
variable {P:Program} {T:TB P} {H:Hn} {Rl ks:List Nat} {nt:Nat} {c:Cx} {fr:Fr} {hp:Hp} {ops:Array Oper} {o:Oper} {Q:Exit->Fr->Heap'->Prop}
theorem Tr.vcThen {a b:Code} {K:Exit->Fr->Hp->Prop} (hn:c.n=nt) (hR:∀ k,c.R k->k∈Rl) (hσ:∀ k,c.σ k≠none->k∈ks)
    (h:vc T H Rl ks nt a fr hp fun e fr hp=>match e with | .normal=>Tr P c b fr (look hp) (z1z K) | e=>K e fr hp):Tr P c (.seq a b) fr (look hp) (z1z K):=by
  refine Tr.seq (Tr.mono (z49 hn hR hσ a h) fun e fr' σ' hq=>?_)
  obtain ⟨fr2,hp2,hs,hl,hk⟩:=hq
  cases e with
  | normal=>exact Tr.weak hs hl hk
  | _=>exact ⟨fr2,hp2,hs,hl,hk⟩
theorem SC.tr {f:FuncId} {fn:Func} {code:Code} {args:List IV} {pre post:List (Nat × HO)} {r:IV} (T:TB P) (Rl:List Nat) (hf:P.funcs[f]? = some fn) (hb:fn.body=some code) (hn:Nat.ble args.length fn.ntmps=true)
    (h:∀ F ρ w,Tr P ⟨F,fun k=>k∈Rl,ρ,look (up pre),w,fn.ntmps⟩ code (frOf 0 args) (look (up pre)) (z1z (vret T fn.results.toList r post))):SC P f args pre (fun k=>k∈Rl) r post:=by
  intro F ρ w vs hkept hrel hargs
  refine calls_of_wp hf hb ?_
  have ha:All ⟨F,fun k=>k∈Rl,ρ,look (up pre),w,fn.ntmps⟩ ρ (look (up pre)) w (frOf 0 args) { tmps:=vs.toArray++Array.replicate (fn.ntmps - vs.toArray.size) undef,defers:=[] }:=by
    refine ⟨hrel,fun t x hx=>?_,.refl _ _ _ _ _,rfl,?_,hkept⟩
    · obtain ⟨v,hv,hr⟩:=hargs.2 t x (by simpa using (z6b hx).2)
      refine ⟨v,?_,hr⟩
      rw [Array.getElem?_append_left (by simpa using (List.getElem?_eq_some_iff.1 hv).1)]
      simpa using hv
    · have:=hargs.1
      have:=Nat.le_of_ble_eq_true hn
      simp;omega
  refine wp_mono (h F ρ w ρ w _ ha) fun e a' w' hq=>?_
  obtain ⟨ρ',σ',fr',ha',hq⟩:=hq
  obtain ⟨he,_,hres⟩:=zf7 hq
  obtain ⟨v,ρ'',hv,ha'',h1⟩:=hres _ ρ' w' a' ha'
  rcases he with rfl | rfl
  · exact ⟨ha'.df,v,hv,ρ'',v,rfl,h1,ha''.rel,ha''.tr⟩
  · exact ⟨ha'.df,v,hv,ρ'',v,rfl,h1,ha''.rel,ha''.tr⟩
theorem zc7 {K:Stp->Prop} (hR:∀ k,c.R k->k∈Rl) (hσ:∀ k,c.σ k=none) (h:Does P Rl o fr hp fun s=>lAll (newB [] fr hp) s.nw=true/\K s):∃ s,K s/\Ok P c o fr (look hp) s.x (look (s.wr++hp)):=by
  obtain ⟨s,⟨h1,h2⟩,hok⟩:=h
  exact ⟨s,h2,hok c fr hp hR (fun k _=>hσ k) (fun _ _=>rfl) (fun _ _=>rfl) fun k hk=>(z8i (z3o h1 k hk)).2⟩
theorem z92 {K:Stp->Prop} (hR:∀ k,c.R k->k∈Rl) (h:Does P Rl o fr hp fun s=>s.nw=[]/\K s):∃ s,K s/\Ok P c o fr (look hp) s.x (look (s.wr++hp)):=by
  obtain ⟨s,⟨h1,h2⟩,hok⟩:=h
  exact ⟨s,h2,hok c fr hp hR (fun k hk=>by rw [h1] at hk;cases hk) (fun _ _=>rfl) (fun _ _=>rfl) fun k hk=>by rw [h1] at hk;cases hk⟩
theorem WL.stp {rest:List Oper} {d key:Nat} (hR:∀ k,c.R k->k∈Rl) (hσ:∀ k,c.σ k=none) (hg:o.guard=none) (hd:o.dst=some d) (hlt:Nat.blt d c.n=true)
    (h:vop T H Rl key o fr hp fun s=>lAll (newB [] fr hp) s.nw=true/\WL P c ops Q rest ((d,s.x)::fr) (look (s.wr++hp))):WL P c ops Q (o::rest) fr (look hp):=by
  obtain ⟨s,h1,h2⟩:=zc7 hR hσ (z85 h)
  exact WL.cons hg hd hlt h2 h1
theorem WL.stp0 {rest:List Oper} {d key:Nat} (hR:∀ k,c.R k->k∈Rl) (hg:o.guard=none) (hd:o.dst=some d) (hlt:Nat.blt d c.n=true)
    (h:vop T H Rl key o fr hp fun s=>s.nw=[]/\WL P c ops Q rest ((d,s.x)::fr) (look (s.wr++hp))):WL P c ops Q (o::rest) fr (look hp):=by
  obtain ⟨s,h1,h2⟩:=z92 hR (z85 h)
  exact WL.cons hg hd hlt h2 h1
theorem WL.stpN {rest:List Oper} {key:Nat} (hR:∀ k,c.R k->k∈Rl) (hg:o.guard=none) (hd:o.dst=none)
    (h:vop T H Rl key o fr hp fun s=>s.nw=[]/\WL P c ops Q rest fr (look (s.wr++hp))):WL P c ops Q (o::rest) fr (look hp):=by
  obtain ⟨s,h1,h2⟩:=z92 hR (z85 h)
  exact WL.cons0 hg hd h2 h1
theorem WLr.stp {rest:List Oper} {d key:Nat} {fr1:Fr} {σ1:Heap'} (hR:∀ k,c.R k->k∈Rl) (hσ:∀ k,c.σ k=none) (hg:o.guard=none) (hd:o.dst=some d) (hlt:Nat.blt d c.n=true)
    (h:vop T H Rl key o fr hp fun s=>lAll (newB [] fr hp) s.nw=true/\WLr P c ops rest ((d,s.x)::fr) (look (s.wr++hp)) fr1 σ1):WLr P c ops (o::rest) fr (look hp) fr1 σ1:=by
  obtain ⟨s,h1,h2⟩:=zc7 hR hσ (z85 h)
  exact WLr.cons hg hd hlt h2 h1
theorem WL.weak {l:List Oper} {fr':Fr} {hp':Hp} {σ:Heap'} (hs:Sub σ fr fr') (hh:∀ k o,look hp' k=some o -> σ k=some o) (h:WL P c ops Q l fr' (look hp')):WL P c ops Q l fr σ:=by
  intro ρ w a ha
  obtain ⟨ρ',ha',_⟩:=(ha.sub hs).restrict hh
  exact h ρ' w a ha'
theorem Tr.mapRangeV {id1 i2 i3 bid nid d1 e1 e2 e3:Nat} {ops1 ops2 ops3:Array Oper} {l1 more:List Oper} {g nx ex en:Oper} {x0:Operand} {ty kt et:TypeId} {body b:Code} {k0:Nat} {es:List (Value × PV)} {σ:Heap'} {K:Exit->Fr->Hp->Prop}
    (frI:Fr) (hpI:List (Value × PV)->Hp) (hkI:∀ ds,look (hpI ds) k0=some (.map es)) (hc:∀ k,c.σ k=none)
    (h1:ops1.toList.reverse=g::l1) (hpre:∃ fr1 hp1,WLr P c ops1 l1.reverse fr σ fr1 (look hp1)/\fr1.ev x0=some (.mp k0)/\subB fr1 frI/\(∀ k o,look (hpI []) k=some o->look hp1 k=some o))
    (hgo:g.op = .range ty x0) (hgd:g.dst=some d1) (hgg:g.guard=none) (hty:P.underlying ty=some (.map kt et))
    (h2:ops2.toList=[nx,ex]) (hno:nx.op = .next (.tmp d1) false) (hnd:nx.dst=some e1) (hng:nx.guard=none) (heo:ex.op = .extract (.tmp e1) 0) (hed:ex.dst=some e2) (heg:ex.guard=none)
    (h3:ops3.toList=en::more) (hen:en.op = .entry (.tmp d1)) (hend:en.dst=some e3) (heng:en.guard=none)
    (hb1:Nat.blt d1 c.n=true) (hb2:Nat.blt e1 c.n=true) (hb3:Nat.blt e2 c.n=true) (hb4:Nat.blt e3 c.n=true) (hne1:Nat.beq e1 d1=false) (hne2:Nat.beq e2 d1=false)
    (hdone:∀ b0 ds,ds.Perm es->Tr P c b ((e2,iBool false)::(e1,.tup [iBool false])::(d1,itv b0)::frI) (look (hpI ds)) (z1z K))
    (round:∀ c' b0 ds e,c'.n=c.n->(∀ k,c'.R k->c.R k∨k=k0)->(∃ r,(ds++e::r).Perm es) ->
      WL P c' ops3 (zg6 P c' body (z37 nid (fun ex fr3 σ3=>match ex with
        | .normal=>∃ fr'',Sub σ3 fr3 ((d1,itv b0)::fr'')/\fr''=frI/\∀ k o,look (hpI (ds++[e])) k=some o -> σ3 k=some o
        | .exit _=>False
        | x=>zg6 P c b (z1z K) x fr3 σ3))) more
        ((e3,.tup [.pv (.val e.1),.pv e.2])::(e2,iBool true)::(e1,.tup [iBool true,.pv (.val e.1),.pv e.2])::(d1,itv b0)::frI) (look (hpI ds))) :
    Tr P c (.seq (.seq (.region id1 ops1 false) (.block bid (.loop (.seq (.region i2 ops2 false) (.seq (.cond (.tmp e2) .skip (.exit bid)) (.block nid (.seq (.region i3 ops3 false) body))))))) b) fr σ (z1z K):=by
  obtain ⟨fr1,hp1,hw,hx0,hsb,hh⟩:=hpre
  have h1':ops1.toList=l1.reverse++[g]:=by
    rw [<- List.reverse_reverse ops1.toList,h1,List.reverse_cons]
  refine Tr.seq (Tr.mapRange (I:=fun ds fr' σ'=>fr'=frI/\∀ k o,look (hpI ds) k=some o -> σ' k=some o) h1' hw hgo hgd hgg hx0 hty h2 hno hnd hng heo hed heg h3 hen hend heng hb1 hb2 hb3 hb4 hne1 hne2 (hh k0 _ (hkI [])) ⟨frI,Sub.of hsb,rfl,hh⟩ (fun ds fr' σ' hI=>⟨hI.2 k0 _ (hkI ds),fun k _=>hc k⟩) (fun b0 ds fr' σ' hp hI=>?_) fun ρ2 σ2 w2 b0 ds e fr' hr hI=>?_)
  · obtain ⟨rfl,hI⟩:=hI
    exact Tr.weak Sub.rfl' hI (hdone b0 ds hp)
  · obtain ⟨rfl,hI⟩:=hI
    refine WL.weak Sub.rfl' hI ?_
    exact round ⟨c.F,fun k=>c.R k∨k=k0,ρ2,σ2,w2,c.n⟩ b0 ds e rfl (fun _ h=>h) hr
end
section
section
variable {P:Program} {T:TB P} {H:Hn} {Rl ks:List Nat} {nt:Nat} {c:Cx} {fr:Fr} {hp:Hp}
def Sound (P:Program) (c:Cx) (x:Code) (f:VcT):Prop:=∀ fr hp K,f fr hp K->Tr P c x fr (look hp) (z1z K)
def trF (P:Program) (c:Cx) (x:Code):VcT:=fun fr hp K=>Tr P c x fr (look hp) (z1z K)
theorem Sound.tr {x:Code}:Sound P c x (trF P c x):=fun _ _ _ h=>h
theorem Sound.vc {x:Code} (hn:c.n=nt) (hR:∀ k,c.R k->k∈Rl) (hσ:∀ k,c.σ k≠none->k∈ks):Sound P c x (Go.Proofs.Ytnpiekoeammkgaa.vc T H Rl ks nt x):=fun _ _ _ h=>z49 hn hR hσ x h
theorem Sound.seq {a b:Code} {f g:VcT} (ha:Sound P c a f) (hb:Sound P c b g):Sound P c (.seq a b) (vcSeq f g):=fun fr hp K h=>by
  refine Tr.seq (Tr.mono (ha _ _ _ h) fun e fr' σ' hq=>?_)
  obtain ⟨fr2,hp2,hs,hl,hk⟩:=hq
  cases e with
  | normal=>exact Tr.weak hs hl (hb _ _ _ hk)
  | _=>exact ⟨fr2,hp2,hs,hl,hk⟩
theorem Sound.block {id:Nat} {x:Code} {f:VcT} (hx:Sound P c x f):Sound P c (.block id x) (z90 id f):=fun fr hp K h=>by
  refine tBk (Tr.mono (hx _ _ _ h) fun e fr' σ' hq=>?_)
  obtain ⟨fr2,hp2,hs,hl,hk⟩:=hq
  cases e with
  | exit id' =>
    simp only [z37]
    simp only at hk
    split at hk
    · rename_i hb;rw [hb];exact ⟨fr2,hp2,hs,hl,hk⟩
    · rename_i hb;rw [hb];exact ⟨fr2,hp2,hs,hl,hk⟩
  | _=>exact ⟨fr2,hp2,hs,hl,hk⟩
theorem Sound.loop {x:Code} {f:VcT} {ds:List Nat} (hx:Sound P c x f):Sound P c (.loop x) fun fr hp K=>VLoop f ds fr hp K:=fun fr hp K h=>VLoop.ok (f:=f) (fun fr hp K h=>hx fr hp K h) h
theorem Sound.thn {a b:Code} {f:VcT} {K:Exit->Fr->Hp->Prop} (ha:Sound P c a f)
    (h:f fr hp fun e fr hp=>match e with | .normal=>Tr P c b fr (look hp) (z1z K) | e=>K e fr hp):Tr P c (.seq a b) fr (look hp) (z1z K):=by
  refine Tr.seq (Tr.mono (ha _ _ _ h) fun e fr' σ' hq=>?_)
  obtain ⟨fr2,hp2,hs,hl,hk⟩:=hq
  cases e with
  | normal=>exact Tr.weak hs hl hk
  | _=>exact ⟨fr2,hp2,hs,hl,hk⟩
theorem z59 {l:List (Nat × HO)} (h:subH hp l):∀ k o,look (up l) k=some o->look hp k=some o:=fun _ _ hk=>z2m h (z0f hk)
end
def decE (e:Value × PV):Int × Int:=(match e.1 with | .int _ n=>n | _=>0,match e.2 with | .val (.int _ n)=>n | _=>0)
theorem dec_es (l:OT):(inEs l).map decE=l:=by
  unfold inEs
  rw [List.map_map]
  exact List.map_id _
theorem mem_es {l:OT} {e:Value × PV} (h:e∈inEs l):∃ x∈l,e=(vKey x.1,vInt x.2)/\decE e=x:=by
  obtain ⟨x,hx,rfl⟩:=List.mem_map.1 h
  exact ⟨x,hx,rfl,rfl⟩
def frD (l ds:OT):OT:=l.filter fun e=>!(e.1==e.2) || !(ds.any fun x=>x.1==e.1)
theorem frD_nil (l:OT):frD l []=l:=List.filter_eq_self.2 fun e _=>by simp
theorem frD_all {l ds:OT} (h:ds.Perm l):frD l ds=z3d l:=List.filter_congr fun e he=>by
  have:(ds.any fun x=>x.1==e.1)=true:=List.any_eq_true.2 ⟨e,h.mem_iff.2 he,by simp⟩
  rw [this];simp
theorem frD_self {l ds:OT} {t:Int} (h:Apart l):oDel t (frD l ds)=frD l (ds++[(t,t)]) ∨ ¬ (t,t)∈l:=by
  by_cases hm:(t,t)∈l
  · left
    unfold frD
    rw [z4q t (h.filter _),List.filter_filter]
    refine List.filter_congr fun e he=>?_
    rw [List.any_append]
    by_cases q:e.1=t
    · obtain rfl:e=(t,t):=zd3 h he hm q
      simp
    · rw [show (e.1==t)=false by simpa using q]
      have:([((t,t):Int × Int)].any fun x=>x.1==e.1)=false:=by simp;exact fun q'=>q q'.symm
      rw [this]
      simp
  · exact .inr hm
theorem frD_step {l ds:OT} {x:Int × Int} (h:Apart l) (hm:x∈l) (hx:(x.1==x.2)=false):frD l (ds++[x])=frD l ds:=by
  unfold frD
  refine List.filter_congr fun e he=>?_
  rw [List.any_append]
  by_cases q:x.1=e.1
  · obtain rfl:x=e:=zd3 h hm he q
    rw [hx];simp
  · have:([x].any fun y=>y.1==e.1)=false:=by simpa using q
    rw [this,Bool.or_false]
theorem z5v (ds:OT) (x:Int × Int):z2y (ds++[x])=if x.1==x.2 then z2y ds else oPut x.2 (aN x.2 (z2y ds)+1) (z2y ds):=by unfold z2y;rw [List.foldl_append];rfl
theorem zb9 {k:Int} {l m:OT} (h:l.Perm m):asks k l=asks k m:=by unfold asks;rw [(h.filter _).length_eq]
theorem ask_perm {l m:OT} (h:l.Perm m) (k:Int):aN k (z2y l)=aN k (z2y m):=by rw [z3p,z3p,zb9 h]
theorem asks_le (k:Int) (l:OT):0<=asks k l/\asks k l<=l.length:=by
  have:=List.length_filter_le (fun e:Int × Int=>!(e.1==e.2)&&e.2==k) l
  unfold asks;omega
theorem z93 (fr ask:OT):∀ (l r:List Int),l.foldl z3q ⟨fr,ask,r,[],[]⟩=⟨fr,ask,r++l,[],[]⟩
  | [],r=>by simp
  | x::l,r=>by
    rw [List.foldl_cons]
    have:z3q ⟨fr,ask,r,[],[]⟩ x=⟨fr,ask,r++[x],[],[]⟩:=rfl
    rw [this,z93 fr ask l]
    simp
theorem z9q (fr ask:OT):z2z fr ask=⟨fr,ask,(z3t (z0y fr)).filter fun k=>aN k ask==0,[],[]⟩:=by unfold z2z;rw [z93];rfl
theorem z9c {spare:Int}:∀ {l fr r:OT},odIn spare l fr=some r->r.length=l.length+fr.length
  | [],_,_,h=>by cases h;simp
  | (t,f)::l,fr,r,h=>by
    unfold odIn at h
    split at h
    · cases h
    · rename_i c
      simp only [Bool.or_eq_true,not_or,Bool.not_eq_true] at c
      rw [z9c h,z4d c.1.1];simp;omega
theorem z7b {spare:Int}:∀ {l fr r:OT},odIn spare l fr=some r->(∀ e∈l,smI e.1=true)->(∀ e∈fr,smI e.1=true)->∀ e∈r,smI e.1=true
  | [],_,_,h,_,h2=>by cases h;exact h2
  | (t,f)::l,fr,r,h,h1,h2=>by
    unfold odIn at h
    split at h
    · cases h
    · rename_i c
      simp only [Bool.or_eq_true,not_or,Bool.not_eq_true] at c
      refine z7b h (fun e he=>h1 e (.tail _ he)) ?_
      rw [z4d c.1.1]
      intro e he
      rcases List.mem_append.1 he with he | he
      · exact h2 e he
      · rw [List.mem_singleton.1 he];exact h1 (t,f) (.head _)
end
set_option maxRecDepth 20000
set_option maxHeartbeats 8000000
def hpD (fr:OT) (ds:List (Value × PV)):Hp:=up [(8,.map (inEs fr)),(1,.box [.mp 2,.mp 3,.sp 4 0 0,.sl 5 0]),(2,.map (inEs (frD fr (ds.map decE)))),(3,.map (inEs (z2y (ds.map decE)))),(4,.row inRt []),(5,.row mvRt [])]
theorem z6t (l:OT) (spare:Int) (m:OT) (e:Int) (h:z5s l spare=some (m,e)):SC Try.prog 7 [.pv (mvs l),iInt spare] [] (fun k=>k∈[]) (.tup [.pv (mvs m),iInt e]) []:=by
  unfold z5s at h
  split at h
  rotate_left
  · cases h
  rename_i hl
  simp only [Bool.and_eq_true,decide_eq_true_eq] at hl
  obtain ⟨hl,hsm⟩:=hl
  have hret:odIn spare l []=none->SubI (.tup [.pv (.val (.slice none 0 0)),iInt 1]) (.tup [.pv (mvs m),iInt e]):=fun hn=>by
    rw [hn] at h
    cases h
    exact sT2 sN
  refine SC.tr tb [] Try.func7 rfl rfl fun F ρ w=>?_
  have hR:∀ k,(Cx.mk F (fun k=>k∈[]) ρ (look (up [])) w Try.f7.ntmps).R k->k∈([]:List Nat):=fun _ h=>h
  have hσ:∀ k,(Cx.mk F (fun k=>k∈[]) ρ (look (up [])) w Try.f7.ntmps).σ k≠none->k∈([]:List Nat):=fun k h=>absurd rfl h
  refine Tr.vcThen (T:=tb) (H:={}) rfl hR hσ ?_
  refine Tr.vcThen (T:=tb) (H:={ ids:=[(15,2),(16,3),(18,1)] }) rfl hR hσ ?_
  refine Tr.vcThen (T:=tb) (H:={ gh:=[(2,[.growC 1 2 4 3 1,.spC 1 2 4,.growC 1 3 5 24 2])] }) rfl hR hσ ?_
  refine ⟨Nat × OT,fun a=>[(21,iInt ((a.1:Nat):Int))],fun a=>[(2,.map (inEs a.2))],fun a=>l.length - a.1,fun a=>a.1<=l.length/\odIn spare l []=odIn spare (l.drop a.1) a.2,[],(0,[]),⟨Nat.zero_le _,rfl⟩,⟨rfl,trivial⟩,⟨rfl,trivial⟩,?_⟩
  rintro ⟨i,fr⟩ ⟨hi,hin⟩
  dsimp only at hi hin
  refine z0p (fun hc=>?_) fun hc=>?_
  · have hlt:i<l.length:=z6i (f:=mvE) rfl hc
    obtain ⟨x,x1,x2,x3,x4⟩:=z43 hlt
    obtain ⟨t,f⟩:=x
    rw [x3,odIn] at hin
    have hgd:=z18 t fr
    refine ⟨z0c (f:=mvE) x1,rfl,rfl,z0h _,hgd,?_⟩
    refine z0p (fun h1=>?_) fun h1=>?_
    · have e1:(oGet t fr).isSome=true:=h1
      exact ⟨hret (by rw [hin,if_pos (by rw [e1];simp)]),trivial⟩
    have e1:(oGet t fr).isSome=false:=h1
    refine z0p (fun h2=>?_) fun h2=>?_
    · have e2:(t==spare)=true:=h2
      exact ⟨hret (by rw [hin,if_pos (by rw [e2];simp)]),trivial⟩
    have e2:(t==spare)=false:=h2
    refine z0p (fun h3=>?_) fun h3=>?_
    · have e3:(f==spare)=true:=h3
      exact ⟨hret (by rw [hin,if_pos (by rw [e3];simp)]),trivial⟩
    have e3:(f==spare)=false:=h3
    rw [if_neg (by rw [e1,e2,e3];decide)] at hin
    exact ⟨rfl,z0h _,z07 rfl oM0,(i+1,oPut t f fr),z0d hlt,⟨hlt,hin⟩,⟨rfl,trivial⟩,⟨mpq (z14 _ _ _),trivial⟩,rfl,rfl,rfl,rfl⟩
  · have hge:l.length<=i:=z6c (f:=mvE) rfl hc
    rw [List.drop_eq_nil_of_le hge,odIn] at hin
    rw [hin] at h
    dsimp only at h
    obtain ⟨z,hz,hme⟩:=Option.map_eq_some_iff.1 h
    have hap:Apart fr:=z5x (by simp [Apart,z0y]) hin
    have hlen:fr.length<=100:=by have:=z9c hin;simp at this;omega
    have hks:SmK fr:=z7b hin (fun e he=>List.all_eq_true.1 hsm e he) sI0
    cases hme
    clear hc hin hi h hret hsm
    refine Tr.mapRangeV (frI:=[(6,.ptr 1 0),(1,iInt spare)]) (hpI:=hpD fr) (k0:=8) (es:=inEs fr) (fun ds=>rfl) (fun k=>rfl) rfl
      ⟨_,_,WLr.stp (T:=tb) (H:={}) (Rl:=[]) (key:=0) hR (fun _=>rfl) rfl rfl rfl ⟨rfl,WLr.stp (T:=tb) (H:={}) (Rl:=[]) (key:=0) hR (fun _=>rfl) rfl rfl rfl ⟨rfl,WLr.stp (T:=tb) (H:={}) (Rl:=[]) (key:=0) hR (fun _=>rfl) rfl rfl rfl ⟨rfl,WLr.stp (T:=tb) (H:={}) (Rl:=[]) (key:=0) hR (fun _=>rfl) rfl rfl rfl ⟨rfl,
        WLr.stp (T:=tb) (H:={}) (Rl:=[]) (key:=0) hR (fun _=>rfl) rfl rfl rfl ⟨[2],sc_clone (inEs fr),sR,⟨rfl,rfl,trivial⟩,rfl,rfl,WLr.nil⟩⟩⟩⟩⟩,rfl,⟨rfl,rfl,trivial⟩,z59 ⟨rfl,rfl,mpq (congrArg inEs (frD_nil fr).symm),rfl,rfl,rfl,trivial⟩⟩
      rfl rfl rfl Try.underlying35 rfl rfl rfl rfl rfl rfl rfl rfl rfl rfl rfl rfl rfl rfl rfl rfl rfl (fun b0 ds hp=>?_) (fun c' b0 ds e hn hR' hr=>?_)
    · have hP:(ds.map decE).Perm fr:=by have:=hp.map decE;rwa [dec_es] at this
      have hhp:hpD fr ds=up [(8,.map (inEs fr)),(1,.box [.mp 2,.mp 3,.sp 4 0 0,.sl 5 0]),(2,.map (inEs (z3d fr))),(3,.map (inEs (z2y (ds.map decE)))),(4,.row inRt []),(5,.row mvRt [])]:=by unfold hpD;rw [frD_all hP]
      rw [hhp]
      obtain ⟨d,r',hd1,hd2,hd3⟩:=odEnd_R (fun k=>(ask_perm hP k).symm) hz
      have hll:(z3d fr).length<=100:=Nat.le_trans (List.length_filter_le _ _) hlen
      have hkl:SmK (z3d fr):=fun e he=>hks e (List.mem_filter.1 he).1
      have hS:=z7w (z3d fr) hkl oM0
      have hkn:(z3t (z0y (z3d fr))).length<=100:=by rw [z58];simpa [z0y] using hll
      rw [z9q] at hd1
      generalize z2y (ds.map decE)=A at hd1 ⊢
      generalize z3t (z0y (z3d fr))=kl at hS hd1 hkn
      refine Tr.vcThen (T:=tb) (H:={ ids:=[(87,77)] }) rfl hR hσ ?_
      refine ⟨[2],z8t (inEs (z3d fr)),sR,⟨rfl,rfl,trivial⟩,rfl,[77,2],hS,sR,⟨rfl,rfl,rfl,rfl,trivial⟩,rfl,?_⟩
      refine ⟨Nat,fun i=>[(90,iInt ((i:Nat):Int))],fun i=>[(1,.box [.mp 2,.mp 3,.sp 4 (((kl.take i).filter fun k=>aN k A==0).map eInt).length (((kl.take i).filter fun k=>aN k A==0).map eInt).length,.sl 5 0]),(4,.row inRt (((kl.take i).filter fun k=>aN k A==0).map eInt))],fun i=>kl.length - i,fun i=>i<=kl.length,[],0,Nat.zero_le _,⟨rfl,trivial⟩,⟨rfl,rfl,trivial⟩,?_⟩
      intro i hi
      refine z0p (fun hc=>?_) fun hc=>?_
      · have hlt:i<kl.length:=z6i (f:=eInt) rfl hc
        obtain ⟨x,x1,x2,x3,x4⟩:=z43 hlt
        have hfl:((kl.take i).filter fun k=>aN k A==0).length<=100:=Nat.le_trans (List.length_filter_le _ _) (by rw [List.length_take];omega)
        refine ⟨z0c (f:=eInt) x1,rfl,rfl,z0h _,z18 x A,z0p (fun h2=>?_) fun h2=>?_⟩
        · have e2:(kl.take (i+1)).filter (fun k=>aN k A==0)=(kl.take i).filter (fun k=>aN k A==0)++[x]:=by
            rw [x2,List.filter_append,List.filter_cons_of_pos (p:=fun k=>aN k A==0) h2];rfl
          refine VApp1.mk (m':=(((kl.take i).filter fun k=>aN k A==0).map eInt).length+1) (els':=((kl.take i).filter fun k=>aN k A==0).map eInt++[eInt x]) rfl (z75 rfl) (by simp;omega) (.inr ⟨rfl,rfl,rfl⟩) ?_
          exact ⟨by simp,z07 rfl oM0,i+1,z0d hlt,hlt,⟨rfl,trivial⟩,⟨boq (by rw [e2];simp),rwq (by rw [e2];simp),trivial⟩,rfl,rfl,rfl,rfl⟩
        · have e2:(kl.take (i+1)).filter (fun k=>aN k A==0)=(kl.take i).filter (fun k=>aN k A==0):=by
            rw [x2,List.filter_append,List.filter_cons_of_neg (p:=fun k=>aN k A==0) (by show ¬ (aN x A==0)=true;rw [show (aN x A==0)=false from h2];decide)];simp
          exact ⟨z07 rfl oM0,i+1,z0d hlt,hlt,⟨rfl,trivial⟩,⟨boq (by rw [e2]),rwq (by rw [e2]),trivial⟩,rfl,rfl,rfl,rfl⟩
      · have hge:kl.length<=i:=z6c (f:=eInt) rfl hc
        rw [List.take_of_length_le hge]
        refine Sound.thn (Sound.seq (Sound.vc (T:=tb) (H:={ gh:=[(22,[.drop 77])] }) (Rl:=[]) (ks:=[]) rfl hR hσ) (Sound.block (Sound.loop (ds:=[87,114,115,116,117,118,119,120,121,122,123,124,125,126,127,128,129,130,131]) (Sound.seq (Sound.vc (T:=tb) (H:={}) (Rl:=[]) (ks:=[]) rfl hR hσ) (Sound.seq Sound.tr (Sound.vc (T:=tb) (H:={}) (Rl:=[]) (ks:=[]) rfl hR hσ)))))) ?_
        refine ⟨[],z62 64 _ d hd1,sR,⟨boq sI0,rfl,rfl,rwq sI0,rfl,trivial⟩,rfl,?_⟩
        refine ⟨Nat × Od,fun _=>[],fun a=>odH a.2,fun a=>a.1,fun a=>z3e a.1 spare a.2=some r',[],(64,d),hd2,trivial,⟨rfl,rfl,rfl,rfl,rfl,trivial⟩,?_⟩
        rintro ⟨n,s⟩ hs
        dsimp only at hs
        refine z0p (fun hc=>?_) fun hc=>?_
        · have hne:s.fr.isEmpty=false:=by
            have:0<(inEs s.fr).length:=by simpa using hc
            unfold inEs at this
            rw [List.length_map] at this
            cases hq:s.fr with
            | nil=>rw [hq] at this;exact absurd this dC0
            | cons _ _=>rfl
          cases n with
          | zero=>cases hs
          | succ n =>
            unfold z3e at hs
            rw [if_neg (by rw [hne];decide)] at hs
            split at hs
            rotate_left
            · cases hs
            rename_i hgd
            split at hs
            · cases hs
            rename_i s2 h2
            have hring:=zg2 s (minI (z0y s.fr)) spare hgd
            have hg2:=hgd
            simp only [odGd,Bool.and_eq_true,decide_eq_true_eq] at hg2
            have hsk:SmK s.fr:=fun e he=>List.all_eq_true.1 hg2.2.2 e he
            have hsl:=hg2.2.1
            refine tBk (Tr.region rfl ?_)
            refine WL.stp (T:=tb) (H:={}) (Rl:=[]) (key:=0) hR (fun _=>rfl) rfl rfl rfl ⟨rfl,WL.stp (T:=tb) (H:={}) (Rl:=[]) (key:=0) hR (fun _=>rfl) rfl rfl rfl ⟨rfl,WL.stp (T:=tb) (H:={}) (Rl:=[]) (key:=0) hR (fun _=>rfl) rfl rfl rfl ⟨rfl,WL.stp (T:=tb) (H:={}) (Rl:=[]) (key:=0) hR (fun _=>rfl) rfl rfl rfl ⟨rfl,WL.stp (T:=tb) (H:={}) (Rl:=[]) (key:=0) hR (fun _=>rfl) rfl rfl rfl ⟨rfl,WL.stp (T:=tb) (H:={}) (Rl:=[]) (key:=0) hR (fun _=>rfl) rfl rfl rfl ⟨[2],z8t (inEs s.fr),sR,⟨rfl,rfl,trivial⟩,rfl,rfl,?_⟩⟩⟩⟩⟩⟩
            refine WL.collect (l:=s.fr) rfl rfl rfl rfl rfl rfl rfl hsk oM0 fun ss hss=>?_
            have hsn:ss.length=s.fr.length:=by rw [hss.length_eq];simp [z0y]
            obtain ⟨a,r,rfl⟩:∃ a r,ss=a::r:=by
              cases ss with
              | nil=>cases hq:s.fr with
                | nil=>rw [hq] at hne;cases hne
                | cons _ _=>rw [hq] at hsn;cases hsn
              | cons a r=>exact ⟨a,r,rfl⟩
            rw [<- zd6 hss] at hring h2
            refine WL.stp (T:=tb) (H:={}) (Rl:=[]) (key:=0) hR (fun _=>rfl) rfl rfl rfl ⟨[],sc_min a r (by simp at hsn;omega),sR,trivial,rfl,rfl,?_⟩
            refine WL.stp (T:=tb) (H:={}) (Rl:=[]) (key:=0) hR (fun _=>rfl) rfl rfl rfl ⟨rfl,WL.stp (T:=tb) (H:={}) (Rl:=[]) (key:=0) hR (fun _=>rfl) rfl rfl rfl ⟨[],hring,sR,⟨rfl,rfl,rfl,rfl,rfl,trivial⟩,rfl,rfl,WL.nil ?_⟩⟩
            refine ⟨_,_,Sub.rfl',fun _ _ h=>h,?_⟩
            exact ⟨[],z62 64 _ s2 h2,sR,⟨rfl,rfl,rfl,rfl,rfl,trivial⟩,rfl,(n,s2),Nat.lt_succ_self _,hs,trivial,⟨rfl,rfl,rfl,rfl,rfl,trivial⟩,rfl,rfl,rfl,rfl⟩
        · have hnil:s.fr=[]:=by
            have:(inEs s.fr).length=0:=by simpa using hc
            unfold inEs at this
            rw [List.length_map] at this
            exact List.eq_nil_of_length_eq_zero this
          cases n with
          | zero=>cases hs
          | succ n =>
            unfold z3e at hs
            rw [if_pos (by rw [hnil];rfl)] at hs
            cases hs
            refine z49 (T:=tb) (H:={ gh:=[(26,[.fzC 1 3 5])] }) (Rl:=[]) (ks:=[]) rfl hR hσ _ ?_
            exact ⟨rfl,sE (by rw [<- hd3];rfl),trivial⟩
    · obtain ⟨F',R',ρ',σ',w',n'⟩:=c'
      dsimp only at hn hR'
      subst hn
      have hR8:∀ k,(Cx.mk F' R' ρ' σ' w' Try.f7.ntmps).R k->k∈[8]:=fun k hk=>(hR' k hk).elim (fun h=>absurd h List.not_mem_nil) fun h=>h ▸ .head _
      obtain ⟨r,hr⟩:=hr
      obtain ⟨⟨t,f⟩,hx,rfl,hd⟩:=mem_es (hr.mem_iff.1 (List.mem_append_right _ (.head _)))
      have hD:(ds++[(vKey t,vInt f)]).map decE=ds.map decE++[(t,f)]:=by rw [List.map_append];rfl
      have hlD:(ds.map decE).length<=100:=by
        have:=hr.length_eq
        simp only [inEs,List.length_append,List.length_map,List.length_cons] at this ⊢
        omega
      dsimp only
      refine WL.stp0 (T:=tb) (H:={}) (Rl:=[8]) (key:=0) hR8 rfl rfl rfl ⟨rfl,WL.stp0 (T:=tb) (H:={}) (Rl:=[8]) (key:=0) hR8 rfl rfl rfl ⟨rfl,WL.stp0 (T:=tb) (H:={}) (Rl:=[8]) (key:=0) hR8 rfl rfl rfl ⟨rfl,WL.stp0 (T:=tb) (H:={}) (Rl:=[8]) (key:=0) hR8 rfl rfl rfl ⟨rfl,WL.nil ?_⟩⟩⟩⟩
      refine Tr.seq (Tr.seq (Tr.region rfl (WL.stp0 (T:=tb) (H:={}) (Rl:=[8]) (key:=0) hR8 rfl rfl rfl ⟨rfl,WL.stp0 (T:=tb) (H:={}) (Rl:=[8]) (key:=0) hR8 rfl rfl rfl ⟨rfl,WL.stp0 (T:=tb) (H:={}) (Rl:=[8]) (key:=0) hR8 rfl rfl rfl ⟨rfl,WL.nil (Tr.cond (t:=t==f) rfl (fun ht=>?_) fun hf=>?_)⟩⟩⟩)))
      · have et:t=f:=by simpa using ht
        refine Tr.seq (Tr.region rfl (WL.stp0 (T:=tb) (H:={}) (Rl:=[8]) (key:=0) hR8 rfl rfl rfl ⟨rfl,WL.stp0 (T:=tb) (H:={}) (Rl:=[8]) (key:=0) hR8 rfl rfl rfl ⟨rfl,WL.stp0 (T:=tb) (H:={}) (Rl:=[8]) (key:=0) hR8 rfl rfl rfl ⟨rfl,WL.stp0 (T:=tb) (H:={}) (Rl:=[8]) (key:=0) hR8 rfl rfl rfl ⟨rfl,WL.stp0 (T:=tb) (H:={}) (Rl:=[8]) (key:=0) hR8 rfl rfl rfl ⟨rfl,WL.cons0 rfl rfl (z7e (kv:=vKey t) (k:=2) (es:=inEs (frD fr (ds.map decE))) rfl rfl rfl rfl (fun h=>absurd (hR8 _ h) dC0) Try.underlying35 Try.underlying3 rfl (z0h _)) (WL.nil (tEx ?_))⟩⟩⟩⟩⟩))
        refine ⟨[(6,.ptr 1 0),(1,iInt spare)],Sub.of ⟨rfl,rfl,rfl,trivial⟩,rfl,z59 ⟨rfl,rfl,mpq ?_,mpq ?_,rfl,rfl,trivial⟩⟩
        · rw [hD,z6e]
          subst et
          exact congrArg inEs ((frD_self hap).resolve_right fun h=>h hx)
        · rw [hD,z5v,if_pos ht]
      · have hb:=asks_le f (ds.map decE)
        rw [<- z3p] at hb
        refine tSk (Tr.region rfl (WL.stp0 (T:=tb) (H:={}) (Rl:=[8]) (key:=0) hR8 rfl rfl rfl ⟨rfl,WL.stp0 (T:=tb) (H:={}) (Rl:=[8]) (key:=0) hR8 rfl rfl rfl ⟨rfl,WL.stp0 (T:=tb) (H:={}) (Rl:=[8]) (key:=0) hR8 rfl rfl rfl ⟨rfl,WL.stp0 (T:=tb) (H:={}) (Rl:=[8]) (key:=0) hR8 rfl rfl rfl ⟨rfl,WL.stp0 (T:=tb) (H:={}) (Rl:=[8]) (key:=0) hR8 rfl rfl rfl ⟨rfl,WL.stp0 (T:=tb) (H:={}) (Rl:=[8]) (key:=0) hR8 rfl rfl rfl ⟨rfl,z0h _,z18 f (z2y (ds.map decE)),rfl,WL.stp0 (T:=tb) (H:={}) (Rl:=[8]) (key:=0) hR8 rfl rfl rfl ⟨z07 (z:=aN f (z2y (ds.map decE))+1) rfl oM0,rfl,WL.stpN (T:=tb) (H:={}) (Rl:=[8]) (key:=0) hR8 rfl rfl ⟨rfl,z0h _,rfl,WL.nil ?_⟩⟩⟩⟩⟩⟩⟩⟩))
        refine ⟨[(6,.ptr 1 0),(1,iInt spare)],Sub.of ⟨rfl,rfl,rfl,trivial⟩,rfl,z59 ⟨rfl,rfl,mpq ?_,mpq ?_,rfl,rfl,trivial⟩⟩
        · rw [hD,frD_step hap hx hf]
        · rw [hD,z5v,if_neg (by rw [hf];decide)]
          exact z14 _ _ _
set_option maxRecDepth 20000
set_option maxHeartbeats 4000000
theorem z9p (e:Int × Int) (r:OT) (p:Int):z45 (e::r) p=if e.1==p then e.2 else z45 r p:=by
  obtain ⟨t,f⟩:=e
  unfold z45
  rw [oGet]
  by_cases h:p=t
  · subst h;simp
  · rw [if_neg h,if_neg (by simpa using fun q=>h q.symm)]
theorem zg0 (l:OT) (p:Int) (hl:l.length<=1000):SC Try.prog 19 [.pv (mvs l),iInt p] [] (fun k=>k∈[]) (iInt (z45 l p)) []:=by
  refine SC.vc tb {} [] Try.func19 rfl rfl ?_
  refine ⟨Nat,fun i=>[(5,iInt ((i:Nat):Int))],fun _=>[],fun i=>l.length - i,fun i=>i<=l.length/\z45 l p=z45 (l.drop i) p,[],0,⟨Nat.zero_le _,rfl⟩,⟨rfl,trivial⟩,trivial,?_⟩
  rintro i ⟨hi,hin⟩
  refine z0p (fun hc=>?_) fun hc=>?_
  · have hlt:i<l.length:=z6i (f:=mvE) rfl hc
    obtain ⟨x,x1,x2,x3,x4⟩:=z43 hlt
    rw [x3,z9p] at hin
    refine ⟨z0c (f:=mvE) x1,rfl,z0p (fun h1=>?_) fun h1=>?_⟩
    · rw [if_pos h1] at hin
      exact ⟨z0c (f:=mvE) x1,rfl,sE (by rw [hin]),trivial⟩
    · rw [if_neg (by rw [show (x.1==p)=false from h1];decide)] at hin
      exact ⟨z07 rfl oM0,i+1,z0d hlt,⟨hlt,hin⟩,⟨rfl,trivial⟩,trivial,rfl,rfl,rfl,rfl⟩
  · have hge:l.length<=i:=z6c (f:=mvE) rfl hc
    rw [List.drop_eq_nil_of_le hge] at hin
    exact ⟨sE (by rw [hin];rfl),trivial⟩
theorem mvs_take (l:OT) (j:Nat):PV.seq (((l.map mvE).take j).drop 0)=mvs (l.take j):=by unfold mvs;rw [List.drop_zero,List.map_take]
theorem zg3:∀ (n:Nat) (l:OT) (p:Int),l.length<n->n<=1000->SC Try.prog 18 [.pv (mvs l),iInt p] [] (fun k=>k∈[]) (iInt (oSrc l p)) []:=by
  intro n
  induction n with
  | zero=>intro l p h;exact absurd h (Nat.not_lt_zero _)
  | succ n ih =>
    intro l p hl hn
    refine SC.vc tb {} [] Try.func18 rfl rfl ?_
    refine ⟨z6d rfl (by simp;omega),?_⟩
    refine ⟨Nat,fun j=>[(5,iInt ((j:Nat) - 1:Int))],fun _=>[],fun j=>j,fun j=>j<=l.length/\oSrc l p=oSrc (l.take j) p,[],l.length,⟨Nat.le_refl _,by rw [List.take_length]⟩,⟨ivq sI0,trivial⟩,trivial,?_⟩
    rintro j ⟨hi,hin⟩
    refine z0p (fun hc=>?_) fun hc=>?_
    · obtain ⟨j,rfl⟩:∃ k,j=k+1:=⟨j - 1,by simp at hc;omega⟩
      obtain ⟨x,x1,x2,x3,x4⟩:=z43 (show j<l.length by omega)
      rw [x2] at hin
      unfold oSrc at hin
      rw [List.reverse_append] at hin
      refine ⟨z0c (f:=mvE) x1,by omega,z0p (fun h1=>?_) fun h1=>?_⟩
      · have:z2x ([x].reverse++(l.take j).reverse) p=z2x (l.take j).reverse x.2:=by
          obtain ⟨t,f⟩:=x
          show (if t==p then _ else _)=_
          rw [if_pos h1]
          rfl
        rw [this] at hin
        have hS:=ih (l.take j) x.2 (by rw [List.length_take];omega) oM0
        refine ⟨j,by omega,Nat.zero_le _,by simp;omega,fun el hel=>by obtain ⟨y,_,rfl⟩:=List.mem_map.1 hel;rfl,z0c (f:=mvE) x1,by omega,?_⟩
        exact ⟨[],hS,SubA.cons (sE (congrArg IV.pv (mvs_take l j))) (SubA.same SubA.nil),trivial,rfl,sE (by unfold oSrc;rw [hin]),trivial⟩
      · have:z2x ([x].reverse++(l.take j).reverse) p=z2x (l.take j).reverse p:=by
          obtain ⟨t,f⟩:=x
          show (if t==p then _ else _)=_
          rw [if_neg (by rw [show (t==p)=false from h1];decide)]
          rfl
        rw [this] at hin
        exact ⟨z6d (z:=(j:Int) - 1) oM0 oM0,j,Nat.lt_succ_self _,⟨by omega,hin⟩,⟨rfl,trivial⟩,trivial,rfl,rfl,rfl,rfl⟩
    · have:j=0:=by simp at hc;omega
      subst this
      exact ⟨sE (by rw [hin];rfl),trivial⟩
set_option maxRecDepth 20000
set_option maxHeartbeats 4000000
theorem sc_right (l:OT) (spare:Int) (hl:l.length<=1000):SC Try.prog 9 [.pv (mvs l),iInt spare] [] (fun k=>k∈[]) (iBool (z4r spare [] l)) []:=by
  refine SC.vc tb {} [] Try.func9 rfl rfl ?_
  refine ⟨Nat,fun i=>[(5,iInt ((i:Nat):Int))],fun _=>[],fun i=>l.length - i,fun i=>i<=l.length/\z4r spare [] l=z4r spare (l.take i) (l.drop i),[],0,⟨Nat.zero_le _,rfl⟩,⟨rfl,trivial⟩,trivial,?_⟩
  rintro i ⟨hi,hin⟩
  refine z0p (fun hc=>?_) fun hc=>?_
  · have hlt:i<l.length:=z6i (f:=mvE) rfl hc
    obtain ⟨⟨t,f⟩,x1,x2,x3,x4⟩:=z43 hlt
    rw [x3,z4r,<- x2] at hin
    refine ⟨z0c (f:=mvE) x1,rfl,z0p (fun h1=>?_) fun h1=>?_⟩
    · rw [show (t==spare)=true from h1] at hin
      exact ⟨sE (by rw [hin];rfl),trivial⟩
    rw [show (t==spare)=false from h1] at hin
    refine ⟨z0c (f:=mvE) x1,rfl,z0p (fun h2=>?_) fun h2=>?_⟩
    · rw [show (f==spare)=true from h2] at hin
      exact ⟨sE (by rw [hin];rfl),trivial⟩
    rw [show (f==spare)=false from h2] at hin
    refine ⟨Nat,fun k=>[(6,iInt ((k:Nat):Int))],fun _=>[],fun k=>i - k,fun k=>k<=i/\((l.take i).any fun e=>e.1==t)=((l.take i).drop k).any fun e=>e.1==t,[],0,⟨Nat.zero_le _,rfl⟩,⟨rfl,trivial⟩,trivial,?_⟩
    rintro k ⟨hk,hkn⟩
    refine z0p (fun hd=>?_) fun hd=>?_
    · have hkl:k<i:=by simpa using hd
      obtain ⟨⟨t2,f2⟩,y1,y2,y3,y4⟩:=z43 (show k<l.length by omega)
      have hdr:(l.take i).drop k=(t2,f2)::(l.take i).drop (k+1):=by
        rw [List.drop_eq_getElem_cons (by rw [List.length_take];omega)]
        congr 1
        rw [List.getElem_take]
        exact Option.some.inj ((List.getElem?_eq_getElem _).symm.trans y1)
      rw [hdr,List.any_cons] at hkn
      refine ⟨z0c (f:=mvE) y1,rfl,z0c (f:=mvE) x1,rfl,z0p (fun h3=>?_) fun h3=>?_⟩
      · rw [show (t2==t)=true from h3,Bool.true_or] at hkn
        rw [hkn] at hin
        exact ⟨sE (by rw [hin];rfl),trivial⟩
      · rw [show (t2==t)=false from h3,Bool.false_or] at hkn
        exact ⟨z07 rfl oM0,k+1,z0d hkl,⟨hkl,hkn⟩,⟨rfl,trivial⟩,trivial,rfl,rfl,rfl,rfl⟩
    · have hge:i<=k:=by simpa using hd
      rw [List.drop_eq_nil_of_le (by rw [List.length_take];omega)] at hkn
      rw [hkn] at hin
      exact ⟨z07 rfl oM0,i+1,z0d hlt,⟨hlt,hin⟩,⟨rfl,trivial⟩,trivial,rfl,rfl,rfl,rfl⟩
  · have hge:l.length<=i:=z6c (f:=mvE) rfl hc
    rw [List.drop_eq_nil_of_le hge] at hin
    exact ⟨sE (by rw [hin];rfl),trivial⟩
theorem zf9 (o l:OT) (spare:Int) (ho:o.length<1000) (hl:l.length<=1000):SC Try.prog 8 [.pv (mvs o),.pv (mvs l),iInt spare] [] (fun k=>k∈[]) (iBool (z78 o l spare)) []:=by
  have hS:=fun p=>zg3 1000 o p ho oM0
  have hF:=fun p=>zg0 l p hl
  refine SC.vc tb {} [] Try.func8 rfl rfl ?_
  refine ⟨Nat,fun i=>[(7,iInt ((i:Nat):Int))],fun _=>[],fun i=>o.length - i,fun i=>i<=o.length/\(o.all fun e=>e.1==spare||oSrc o e.1==z45 l e.1)=(o.drop i).all fun e=>e.1==spare||oSrc o e.1==z45 l e.1,[],0,⟨Nat.zero_le _,rfl⟩,⟨rfl,trivial⟩,trivial,?_⟩
  rintro i ⟨hi,hin⟩
  refine z0p (fun hc=>?_) fun hc=>?_
  · have hlt:i<o.length:=z6i (f:=mvE) rfl hc
    obtain ⟨⟨t,f⟩,x1,x2,x3,x4⟩:=z43 hlt
    rw [x3,List.all_cons] at hin
    refine ⟨z0c (f:=mvE) x1,rfl,z0p (fun h1=>?_) fun h1=>?_⟩
    · have e1:(t==spare)=false:=by simpa using h1
      rw [e1,Bool.false_or] at hin
      refine ⟨z0c (f:=mvE) x1,rfl,[],hS t,sR,trivial,rfl,z0c (f:=mvE) x1,rfl,[],hF t,sR,trivial,rfl,z0p (fun h2=>?_) fun h2=>?_⟩
      · have e2:(oSrc o t==z45 l t)=false:=by simpa using h2
        rw [e2,Bool.false_and] at hin
        exact ⟨sE (by unfold z78;rw [hin];rfl),trivial⟩
      · have e2:(oSrc o t==z45 l t)=true:=by simpa using h2
        rw [e2,Bool.true_and] at hin
        exact ⟨z07 rfl oM0,i+1,z0d hlt,⟨hlt,hin⟩,⟨rfl,trivial⟩,trivial,rfl,rfl,rfl,rfl⟩
    · have e1:(t==spare)=true:=by simpa using h1
      rw [e1,Bool.true_or,Bool.true_and] at hin
      exact ⟨z07 rfl oM0,i+1,z0d hlt,⟨hlt,hin⟩,⟨rfl,trivial⟩,trivial,rfl,rfl,rfl,rfl⟩
  · have hge:o.length<=i:=z6c (f:=mvE) rfl hc
    rw [List.drop_eq_nil_of_le hge,List.all_nil] at hin
    refine ⟨Nat,fun i=>[(8,iInt ((i:Nat):Int))],fun _=>[],fun i=>l.length - i,fun i=>i<=l.length/\(l.all fun e=>oSrc o e.1==e.2)=(l.drop i).all fun e=>oSrc o e.1==e.2,[],0,⟨Nat.zero_le _,rfl⟩,⟨rfl,trivial⟩,trivial,?_⟩
    rintro k ⟨hk,hkn⟩
    refine z0p (fun hd=>?_) fun hd=>?_
    · have hlt:k<l.length:=z6i (f:=mvE) rfl hd
      obtain ⟨⟨t,f⟩,x1,x2,x3,x4⟩:=z43 hlt
      rw [x3,List.all_cons] at hkn
      refine ⟨z0c (f:=mvE) x1,rfl,[],hS t,sR,trivial,rfl,z0c (f:=mvE) x1,rfl,z0p (fun h2=>?_) fun h2=>?_⟩
      · have e2:(oSrc o t==f)=false:=by simpa using h2
        rw [e2,Bool.false_and] at hkn
        exact ⟨sE (by unfold z78;rw [hin,hkn];rfl),trivial⟩
      · have e2:(oSrc o t==f)=true:=by simpa using h2
        rw [e2,Bool.true_and] at hkn
        exact ⟨z07 rfl oM0,k+1,z0d hlt,⟨hlt,hkn⟩,⟨rfl,trivial⟩,trivial,rfl,rfl,rfl,rfl⟩
    · have hge:l.length<=k:=z6c (f:=mvE) rfl hd
      rw [List.drop_eq_nil_of_le hge,List.all_nil] at hkn
      exact ⟨sE (by unfold z78;rw [hin,hkn];rfl),trivial⟩
set_option maxRecDepth 20000
set_option maxHeartbeats 4000000
def oSum (l:OT) (i:Nat):Int:=((l.take i).map (z1r l)).foldl (· + ·) 0
theorem z7a {l:OT} {i:Nat} {x:Int × Int} (h:l.take (i+1)=l.take i++[x]):oSum l (i+1)=oSum l i+z1r l x:=by
  unfold oSum
  rw [h,List.map_append,List.foldl_append]
  rfl
theorem ze0 (l:OT) (x:Int × Int):0<=z1r l x/\z1r l x<=2:=by
  unfold z1r
  split
  · omega
  · dsimp only;split<;>omega
theorem ze1 (l:OT):∀ i,i<=l.length->0<=oSum l i/\oSum l i<=2*i
  | 0,_=>by simp [oSum]
  | i+1,h=>by
    obtain ⟨x,_,x2,_,_⟩:=z43 (show i<l.length by omega)
    rw [z7a x2]
    have:=ze1 l i oM0
    have:=ze0 l x
    omega
theorem sc_least (l:OT) (hl:l.length<=1000):SC Try.prog 10 [.pv (mvs l)] [] (fun k=>k∈[]) (iInt (z3y l)) []:=by
  have hF:=fun p=>zg0 l p hl
  refine SC.vc tb {} [] Try.func10 rfl rfl ?_
  refine ⟨Nat,fun i=>[(4,iInt ((i:Nat):Int)),(3,iInt (oSum l i))],fun _=>[],fun i=>l.length - i,fun i=>i<=l.length,[],0,Nat.zero_le _,⟨rfl,rfl,trivial⟩,trivial,?_⟩
  intro i hi
  have hb:=ze1 l i hi
  refine z0p (fun hc=>?_) fun hc=>?_
  · have hlt:i<l.length:=z6i (f:=mvE) rfl hc
    obtain ⟨⟨t,f⟩,x1,x2,x3,x4⟩:=z43 hlt
    have hs:=z7a x2
    refine ⟨z0c (f:=mvE) x1,rfl,z0c (f:=mvE) x1,rfl,z0p (fun h1=>?_) fun h1=>?_⟩
    · have:z1r l (t,f)=0:=by unfold z1r;rw [if_pos h1]
      rw [this,Int.add_zero] at hs
      exact ⟨z07 rfl oM0,i+1,z0d hlt,hlt,⟨rfl,ivq hs.symm,trivial⟩,trivial,rfl,rfl,rfl,rfl⟩
    have e1:z1r l (t,f)=if (z3c l t l.length true f).2==t&&(z3c l t l.length true f).1 then 2 else 1:=by unfold z1r;rw [if_neg (by rw [show (t==f)=false from h1];decide)]
    refine ⟨z07 (z:=oSum l i+1) rfl oM0,z0c (f:=mvE) x1,rfl,?_⟩
    refine ⟨Nat × Bool × Int,fun a=>[(7,iInt ((a.1:Nat):Int)),(5,iBool a.2.1),(6,iInt a.2.2)],fun _=>[],fun a=>l.length - a.1,fun a=>a.1<=l.length/\z3c l t l.length true f=z3c l t (l.length - a.1) a.2.1 a.2.2,[],(0,true,f),⟨Nat.zero_le _,rfl⟩,⟨rfl,rfl,rfl,trivial⟩,trivial,?_⟩
    rintro ⟨k,b,p⟩ ⟨hk,hkn⟩
    dsimp only at hk hkn
    have fin:z3c l t l.length true f=(b,p)->oSum l (i+1)=if p==t&&b then oSum l i+1+1 else oSum l i+1:=fun h=>by
      rw [hs,e1,h]
      dsimp only
      split<;>omega
    refine z0p (fun hd=>?_) fun hd=>?_
    · have hkl:k<l.length:=z6i (f:=mvE) rfl hd
      obtain ⟨n,hn⟩:∃ n,l.length - k=n+1:=⟨l.length - k - 1,by omega⟩
      rw [hn,z3c] at hkn
      refine ⟨z0c (f:=mvE) x1,rfl,z0p (fun h2=>?_) fun h2=>?_⟩
      · have e2:(p==t)=false:=by simpa using h2
        rw [if_neg (by rw [e2];decide),show n=l.length - (k+1) by omega] at hkn
        cases b with
        | true=>exact ⟨z0c (f:=mvE) x1,rfl,[],hF p,sR,trivial,rfl,z07 rfl oM0,(k+1,_,_),z0d hkl,⟨hkl,hkn⟩,⟨rfl,rfl,rfl,trivial⟩,trivial,rfl,rfl,rfl,rfl⟩
        | false=>exact ⟨[],hF p,sR,trivial,rfl,z07 rfl oM0,(k+1,_,_),z0d hkl,⟨hkl,hkn⟩,⟨rfl,rfl,rfl,trivial⟩,trivial,rfl,rfl,rfl,rfl⟩
      · have e2:(p==t)=true:=by simpa using h2
        rw [if_pos e2] at hkn
        have hf:=fin hkn
        cases b with
        | true =>
          refine ⟨z0c (f:=mvE) x1,rfl,z0p (fun h3=>?_) fun h3=>?_⟩
          · rw [show (p==t)=true from h3] at hf
            exact ⟨z07 (z:=oSum l i+1+1) rfl oM0,z07 rfl oM0,i+1,z0d hlt,hlt,⟨rfl,ivq hf.symm,trivial⟩,trivial,rfl,rfl,rfl,rfl⟩
          · rw [show (p==t)=false from h3] at hf
            exact ⟨z07 rfl oM0,i+1,z0d hlt,hlt,⟨rfl,ivq hf.symm,trivial⟩,trivial,rfl,rfl,rfl,rfl⟩
        | false =>
          rw [Bool.and_false] at hf
          refine ⟨z0c (f:=mvE) x1,rfl,z0p (fun h3=>?_) fun h3=>?_⟩
          · exact ⟨z07 rfl oM0,i+1,z0d hlt,hlt,⟨rfl,ivq hf.symm,trivial⟩,trivial,rfl,rfl,rfl,rfl⟩
          · exact ⟨z07 rfl oM0,i+1,z0d hlt,hlt,⟨rfl,ivq hf.symm,trivial⟩,trivial,rfl,rfl,rfl,rfl⟩
    · have hge:l.length<=k:=z6c (f:=mvE) rfl hd
      rw [show l.length - k=0 by omega,z3c] at hkn
      have hf:=fin hkn
      cases b with
      | true =>
        refine ⟨z0c (f:=mvE) x1,rfl,z0p (fun h3=>?_) fun h3=>?_⟩
        · rw [show (p==t)=true from h3] at hf
          exact ⟨z07 (z:=oSum l i+1+1) rfl oM0,z07 rfl oM0,i+1,z0d hlt,hlt,⟨rfl,ivq hf.symm,trivial⟩,trivial,rfl,rfl,rfl,rfl⟩
        · rw [show (p==t)=false from h3] at hf
          exact ⟨z07 rfl oM0,i+1,z0d hlt,hlt,⟨rfl,ivq hf.symm,trivial⟩,trivial,rfl,rfl,rfl,rfl⟩
      | false =>
        rw [Bool.and_false] at hf
        refine ⟨z0c (f:=mvE) x1,rfl,z0p (fun h3=>?_) fun h3=>?_⟩
        · exact ⟨z07 rfl oM0,i+1,z0d hlt,hlt,⟨rfl,ivq hf.symm,trivial⟩,trivial,rfl,rfl,rfl,rfl⟩
        · exact ⟨z07 rfl oM0,i+1,z0d hlt,hlt,⟨rfl,ivq hf.symm,trivial⟩,trivial,rfl,rfl,rfl,rfl⟩
  · have hge:l.length<=i:=z6c (f:=mvE) rfl hc
    exact ⟨sE (by unfold oSum z3y;rw [List.take_of_length_le hge]),trivial⟩
set_option maxRecDepth 20000
set_option maxHeartbeats 4000000
theorem sc_fine (l:OT) (spare:Int) (hl:l.length<=100) (hf:oFine l spare=true):SC Try.prog 6 [.pv (mvs l),iInt spare] [] (fun k=>k∈[]) (iBool true) []:=by
  unfold oFine at hf
  split at hf
  · cases hf
  rename_i m e hm
  have hO:=z6t l spare m e hm
  have hRt:=sc_right l spare oM0
  refine SC.vc tb {} [] Try.func6 rfl rfl ?_
  refine ⟨[],hO,sR,trivial,rfl,[],hRt,sR,trivial,rfl,?_⟩
  generalize z4r spare [] l=b at hf
  cases b with
  | false =>
    obtain ⟨h1,h2⟩:=Bool.and_eq_true_iff.1 (show (e==1&&m.length==0)=true from hf)
    obtain rfl:e=1:=by simpa using h1
    obtain rfl:m=[]:=List.eq_nil_of_length_eq_zero (by simpa using h2)
    exact ⟨sI,trivial⟩
  | true =>
    obtain ⟨h1,h3⟩:=Bool.and_eq_true_iff.1 (show (e==0&&(m.length:Int)==z3y l&&z78 m l spare)=true from hf)
    obtain ⟨h1,h2⟩:=Bool.and_eq_true_iff.1 h1
    obtain rfl:e=0:=by simpa using h1
    have e2:(m.length:Int)=z3y l:=by simpa using h2
    have hb:=ze1 l l.length (Nat.le_refl _)
    rw [show oSum l l.length=z3y l by unfold oSum z3y;rw [List.take_length]] at hb
    have hD:=zf9 m l spare oM0 oM0
    rw [h3] at hD
    refine ⟨[],sc_least l oM0,sR,trivial,rfl,z0p (fun h4=>?_) fun h4=>?_⟩
    · exact ⟨[],hD,sR,trivial,rfl,sI,trivial⟩
    · exact absurd (show ((m.map mvE).length:Int)=z3y l by simpa using e2) (by simpa using h4)
theorem z9m:∃ m,z5s [(1,2),(2,1)] 9=some (m,0)/\m.length=3/\z78 m [(1,2),(2,1)] 9=true:=by
  have h:(match z5s [(1,2),(2,1)] 9 with | some (m,e)=>e==0&&m.length==3&&z78 m [(1,2),(2,1)] 9 | none=>false)=true:=by decide +kernel
  split at h
  · rename_i m e hm
    simp only [Bool.and_eq_true,beq_iff_eq] at h
    exact ⟨m,by rw [hm,h.1.1],h.1.2,h.2⟩
  · cases h
theorem zc0:z5s [(1,2),(2,1)] 2=some ([],1):=by decide +kernel
theorem sc_awake:SC Try.prog 5 [] [] (fun k=>k∈[]) (iBool true) []:=by
  obtain ⟨m,h1,h2,h3⟩:=z9m
  have hO:=z6t _ _ _ _ h1
  have hO2:=z6t _ _ _ _ zc0
  have hD:=zf9 m [(1,2),(2,1)] 9 oM0 dC0
  rw [h3] at hD
  refine SC.vc tb {} [] Try.func5 rfl rfl ?_
  refine ⟨[],hO,sR,trivial,rfl,[],hO2,sR,trivial,rfl,z0p (fun h4=>?_) fun h4=>?_⟩
  · exact ⟨[],hD,sR,trivial,rfl,sI,trivial⟩
  · exact absurd (show ((m.map mvE).length:Int)=3 by simp [h2]) (by simpa using h4)
set_option maxRecDepth 20000
set_option maxHeartbeats 4000000
theorem i64_w {n:Int} (h:0<=n/\n<=255):IntKind.i64.wrap n=n:=IntWalk.i64_in n oM0
theorem rem_w {n m z:Int} (h:0<=n/\n<=255) (hm:0<m) (hz:z=n % m):z1t .rem .i64 (IntKind.i64.wrap n) m=some (.int .i64 z):=by
  rw [i64_w h]
  have e:n.tmod m=n % m:=Int.tmod_eq_emod_of_nonneg h.1
  simp only [z1t]
  rw [if_neg oM0,e,<- hz]
set_option maxRecDepth 20000
set_option maxHeartbeats 4000000
def chE (back:Bool) (i:Nat):Int × Int:=if back then (((i+1:Nat):Int),(i:Int)) else ((i:Int),((i+1:Nat):Int))
def chM (n:Nat) (i:Nat):Int × Int:=(((20+i:Nat):Int),(n:Int))
theorem z5m (n:Int) (back:Bool) (many:Int) (hn:0<=n/\n<=255) (hm:0<=many/\many<=255):SC Try.prog 4 [.pv (.val (.int .u8 n)),.pv (.val (.bool back)),.pv (.val (.int .u8 many))] [] (fun k=>k∈[]) (iBool true) []:=by
  have hk:0<=n % 8/\n % 8<8:=⟨Int.emod_nonneg _ dC0,Int.emod_lt_of_pos _ dC0⟩
  have hk5:0<=many % 5/\many % 5<5:=⟨Int.emod_nonneg _ dC0,Int.emod_lt_of_pos _ dC0⟩
  obtain ⟨a,ha⟩:∃ a:Nat,n % 8=a:=Int.eq_ofNat_of_zero_le hk.1
  obtain ⟨b,hb⟩:∃ b:Nat,many % 5=b:=Int.eq_ofNat_of_zero_le hk5.1
  have hra:z1t .rem .i64 (IntKind.i64.wrap n) 8=some (.int .i64 (a:Int)):=rem_w hn dC0 ha.symm
  have hrb:z1t .rem .i64 (IntKind.i64.wrap many) 5=some (.int .i64 (b:Int)):=rem_w hm dC0 hb.symm
  refine SC.vc tb { gh:=[(2,[.grow 7 101 24 2]),(13,[.fz 7 101])] } [] Try.func4 rfl rfl ?_
  refine ⟨Nat,fun i=>[(8,iInt ((i:Nat):Int)),(7,.sl 101 (((List.range i).map (chE back)).map mvE).length)],fun i=>[(101,.row mvRt (((List.range i).map (chE back)).map mvE))],fun i=>a - i,fun i=>i<=a,[],0,Nat.zero_le _,⟨rfl,rfl,trivial⟩,⟨rfl,trivial⟩,?_⟩
  intro i hi
  have hsn:(List.range (i+1)).map (chE back)=(List.range i).map (chE back)++[chE back i]:=by rw [List.range_succ,List.map_append];rfl
  refine ⟨hra,z0p (fun hc=>?_) fun hc=>?_⟩
  · have hlt:i<a:=by simp at hc;omega
    refine ⟨z07 (z:=((i+1:Nat):Int)) sI0 oM0,?_⟩
    cases back with
    | true =>
      exact ⟨z07 (z:=((i+1:Nat):Int)) sI0 oM0,rfl,z75 rfl,by simp;omega,z07 rfl oM0,i+1,z0d hlt,hlt,⟨rfl,slq (by rw [hsn];simp),trivial⟩,⟨rwq (by rw [hsn];simp [mvE,chE]),trivial⟩,rfl,rfl,rfl,rfl⟩
    | false =>
      exact ⟨rfl,z75 rfl,by simp;omega,z07 rfl oM0,i+1,z0d hlt,hlt,⟨rfl,slq (by rw [hsn];simp),trivial⟩,⟨rwq (by rw [hsn];simp [mvE,chE]),trivial⟩,rfl,rfl,rfl,rfl⟩
  · have hge:i=a:=by simp at hc;omega
    subst hge
    refine ⟨Nat,fun j=>[(10,iInt ((j:Nat):Int)),(7,.sl 101 (((List.range i).map (chE back)++(List.range j).map (chM i)).map mvE).length)],fun j=>[(101,.row mvRt (((List.range i).map (chE back)++(List.range j).map (chM i)).map mvE))],fun j=>b - j,fun j=>j<=b,[],0,Nat.zero_le _,⟨rfl,slq sI0,trivial⟩,⟨rwq sI0,trivial⟩,?_⟩
    intro j hj
    have hsj:(List.range (j+1)).map (chM i)=(List.range j).map (chM i)++[chM i j]:=by rw [List.range_succ,List.map_append];rfl
    refine ⟨hrb,z0p (fun hd=>?_) fun hd=>?_⟩
    · have hlt:j<b:=by simp at hd;omega
      exact ⟨z07 (z:=((20+j:Nat):Int)) sI0 oM0,hra,rfl,z75 rfl,by simp;omega,z07 rfl oM0,j+1,z0d hlt,hlt,⟨rfl,slq (by rw [hsj];simp;omega),trivial⟩,⟨rwq (by rw [hsj];simp [mvE,chM]),trivial⟩,rfl,rfl,rfl,rfl⟩
    · have hge:j=b:=by simp at hd;omega
      subst hge
      have hF:SC Try.prog 6 [.pv (mvs ((List.range i).map (chE back)++(List.range j).map (chM i))),iInt 50] [] (fun k=>k∈[]) (iBool true) [] :=
        sc_fine (zc2 i back j) 50 (by simp [zc2];omega) (z89 i oM0 back j oM0)
      exact ⟨rfl,[],sc_awake,sR,trivial,rfl,[],hF,sR,trivial,rfl,sI,trivial⟩
section
open Go Go.ChangeShapes Go.WideShapes Go.ChangeAt Go.RowKit Go.Deep
theorem Try.own:ownKnob Try.prog.godebug=none:=by kernel_rfl
theorem Try.laidOut:laidOutB Try.prog=true:=by kernel_rfl
section
variable {H:Type} {enc:TypeId × Value->H} {P:Program}
theorem zf8 {W W':World} {p:MemPlace} (h:W'.heap[p.block]? = W.heap[p.block]?):W.sameAt W' p:=by
  cases p<;>simp_all [World.sameAt,MemPlace.block,World.cell?]
theorem z3h (hl:laidOutB P=true) {W W':World} (hb:∀ b,b<W.heap.size->W'.heap[b]? = W.heap[b]?):∀ (ts:List TypeId) (vs:List Value) (ds:List (DataW H)) (ps:List MemPlace),
    (∀ t∈ts,P.readableRec t=true/\t<P.types.size)->DataW.TrodAll enc P W 0 (fun _=>true) true ts vs ds ps->(∀ x∈ps,x.block<W.heap.size) ->
    DataW.TrodAll enc P W' 0 (fun b=>decide (b<W.heap.size)) true ts vs ds ps
  | [],vs,ds,ps,_,h,_=>by
    obtain ⟨rfl,rfl,rfl⟩:=trodAll_nil h
    exact trodAll_mk0
  | t::ts,vs,ds,ps,hr,h,hp=>by
    obtain ⟨v,vs',d,ds',p,q,rfl,rfl,rfl,h1,h2⟩:=trodAll_cons h
    have ht:=hr t (.head _)
    refine ⟨p,q,?_,z3h hl hb ts vs' ds' q (fun t' h'=>hr t' (.tail _ h')) h2 (fun x hx=>hp x (List.mem_append_right _ hx)),rfl⟩
    refine WideElems.Trod_stays hl ht.1 ht.2 h1 (fun x hx=>?_) (fun x hx=>by simpa using hp x (List.mem_append_left _ hx))
    exact zf8 (hb _ (hp x (List.mem_append_left _ hx)))
theorem z9o {W W':World} (may:MemPlace->Prop) (hos:W'.os=W.os) (hout:W'.output=W.output) (hb:∀ b,b<W.heap.size->W'.heap[b]? = W.heap[b]?):W.keptBut W' may:=by
  refine ⟨hos,hout,fun i hi=>?_⟩
  rw [hb i hi]
  rcases h:W.heap[i]? with _ | o
  · trivial
  · cases o with
    | cells c t fr=>exact ⟨rfl,rfl,rfl,fun _ _=>rfl⟩
    | map es clock=>exact .inr ⟨rfl,rfl⟩
    | _=>rfl
theorem zf3 {f:Func} {s:ChangeSpec} {apart fresh handsOn:Bool} {W W':World} {args:Array Value} {ds gs:List (DataW H)} {before:List MemPlace} {tb:TypeId} (hl:laidOutB P=true) (hv0:s.vars=[])
    (hW:DataW.Whole enc P f.params.toList s.vars apart W args.toList ds gs before) (hrd:∀ t∈f.params.toList,P.readableRec t=true/\t<P.types.size) (hres:f.resultTypes = #[tb]) (htb:P.underlying tb=some .bool)
    (hs:s.fn H (ds++gs)={ results:=[.lit (.bool true)],args:=ds }) (hos:W'.os=W.os) (hout:W'.output=W.output) (hb:∀ b,b<W.heap.size->W'.heap[b]? = W.heap[b]?) :
    s.post enc P f apart fresh handsOn false W args (.bool true) W':=by
  have hlt:=hW.lt
  have hW':=hW
  obtain ⟨p,q,hA,hV,rfl,_,_⟩:=hW
  refine ⟨ds,gs,p++q,[],p,[],hW',?_,?_,?_,z9o _ hos hout hb,fun h=>by cases h⟩
  · rw [hs,hres]
    exact trodAll_mk1 ⟨1,by simp [DataW.trod,htb,Value.cells]⟩
  · rw [hs]
    exact z3h hl hb _ _ _ _ hrd hA (fun x hx=>hlt x (List.mem_append_left _ hx))
  · rw [hs,hv0]
    exact rfl
end
theorem zf5 {W:World}:RelH (fun _=>False) (fun _=>none) (look (up [])) W where
  inj _ _ _ _ _ h:=by cases h
  apart _ _ _ h:=by cases h
  old _ h:=h.elim
  obj _ _ _ h:=by cases h
  real _ _ h:=by cases h
theorem zc1 {P:Program} {f:FuncId} {args:List IV} {R:Nat->Prop} (hsc:SC P f args [] R (iBool true) []) {W:World} {vs:List Value} (hK:Kept W (owned (fun _=>False) fun _=>none)) (hr:RepL (fun _=>False) (fun _=>none) (look (up [])) W args vs) :
    Calls P f vs.toArray W fun e W'=>e = .returned (.bool true)/\W'.os=W.os/\W'.output=W.output/\∀ b,b<W.heap.size->W'.heap[b]? = W.heap[b]?:=by
  refine (hsc (fun _=>False) (fun _=>none) W vs hK zf5 hr).mono ?_
  rintro e W' ⟨ρ',v,rfl,hv,_,t⟩
  refine ⟨?_,t.os,t.output,fun b hb=>t.blk b hb fun k c h=>by cases h⟩
  cases hv with
  | pv _ _ hp=>cases hp;rfl
end
section
open Go Go.ChangeShapes Go.WideShapes Go.ChangeAt Go.RowKit Go.Deep
set_option maxRecDepth 100000 in
theorem zf1 {H:Type} {enc:TypeId × Value->H} {W:World} {base b0:Nat} {spare:Nat->Bool} {held:Bool} {r:Reach} {v:Value} {d:DataW H} {p:List MemPlace} (hv:Value.okWide Try.prog W r b0 5 v)
    (h:DataW.Trod enc Try.prog W base spare held 5 v d p):∃ n:Int,0<=n/\n<=255/\RepI (fun _=>False) (fun _=>none) (look (up [])) W (.pv (.val (.int .u8 n))) v:=by
  obtain ⟨n,rfl⟩:=okWide_int Try.underlying5 hv
  obtain ⟨fuel,hf⟩:=h
  obtain ⟨k,h1,_,hk⟩:=DataW.trod_int Try.underlying5 hf
  have e:(Value.int IntKind.u8 n).cells.toList=[Value.int IntKind.u8 n]:=rfl
  rw [e] at h1
  cases h1
  have hr:0<=n/\n<=255:=by
    simp [Lit.wf,IntKind.min,IntKind.max,IntKind.bits,IntKind.signed] at hk
    omega
  exact ⟨n,hr.1,hr.2,.pv _ _ (.val _)⟩
set_option maxRecDepth 100000 in
theorem zf0 {H:Type} {enc:TypeId × Value->H} {W:World} {base b0:Nat} {spare:Nat->Bool} {held:Bool} {r:Reach} {v:Value} {d:DataW H} {p:List MemPlace} (hv:Value.okWide Try.prog W r b0 4 v)
    (_:DataW.Trod enc Try.prog W base spare held 4 v d p):∃ b:Bool,RepI (fun _=>False) (fun _=>none) (look (up [])) W (.pv (.val (.bool b))) v:=by
  obtain ⟨b,rfl⟩:=okWide_bool Try.underlying4 hv
  exact ⟨b,.pv _ _ (.val _)⟩
theorem za3 {F:Nat->Prop} {ρ:Loc} {σ:Heap'} {w:World} {x y z:IV} {a b c:Value} (h1:RepI F ρ σ w x a) (h2:RepI F ρ σ w y b) (h3:RepI F ρ σ w z c):RepL F ρ σ w [x,y,z] [a,b,c]:=by
  refine ⟨rfl,fun j q hj=>?_⟩
  match j,hj with
  | 0,hj=>simp at hj;subst hj;exact ⟨a,rfl,h1⟩
  | 1,hj=>simp at hj;subst hj;exact ⟨b,rfl,h2⟩
  | 2,hj=>simp at hj;subst hj;exact ⟨c,rfl,h3⟩
  | j+3,hj=>simp at hj
set_option maxRecDepth 100000 in
theorem z3f (hsc:∀ (n:Int) (b:Bool) (many:Int),0<=n/\n<=255->0<=many/\many<=255->SC Try.prog 4 [.pv (.val (.int .u8 n)),.pv (.val (.bool b)),.pv (.val (.int .u8 many))] [] (fun k=>k∈[]) (iBool true) []) (os:Os) (started:os.Started) (H:Type) (enc:TypeId × Value->H) :
    ReturnsInHanded {} Try.checked os 4 .any (Rows.orderChainsSpec.pre6 enc Try.prog Try.f4 Rows.orderChainsRow.domain false) (Rows.orderChainsSpec.post enc Try.prog Try.f4 false true false false):=by
  refine returnsInHanded_of_change (C:=Try.checked) Try.own started kR0 Try.func4
    (ChangeSpec.witness6 (enc:=enc) (C:=Try.checked) false ⟨#[],#[.int .u8 0,.bool false,.int .u8 0],[]⟩ 8 kR0 kR0 kR0 kR0) ?_
  intro W base args ds gs before hval0 hW _ _
  have hval:∀ (j:Nat) t v,Try.f4.params[j]? = some t->args[j]? = some v->Value.okWide Try.prog W .any base t v:=hval0
  clear hval0
  have hW':=hW
  obtain ⟨p,q,hA0,hV,rfl,hfz,hnd⟩:=hW
  have hA:DataW.TrodAll enc Try.prog W 0 (fun _=>true) true Try.f4.params.toList args.toList ds p:=hA0
  rw [Try.params4] at hA hval
  obtain ⟨v0,vs0,d0,ds0,p0,q0,hargs,rfl,rfl,h0,r0⟩:=trodAll_cons hA
  obtain ⟨v1,vs1,d1,ds1,p1,q1,rfl,rfl,rfl,h1,r1⟩:=trodAll_cons r0
  obtain ⟨v2,vs2,d2,ds2,p2,q2,rfl,rfl,rfl,h2,r2⟩:=trodAll_cons r1
  obtain ⟨rfl,rfl,rfl⟩:=trodAll_nil r2
  obtain rfl:args = #[v0,v1,v2]:=by cases args;simp_all
  obtain ⟨rfl,rfl⟩:=trodVars_none hV
  obtain ⟨n,hn0,hn1,hn⟩:=zf1 (hval 0 5 v0 rfl rfl) h0
  obtain ⟨b,hb⟩:=zf0 (hval 1 4 v1 rfl rfl) h1
  obtain ⟨m,hm0,hm1,hm⟩:=zf1 (hval 2 5 v2 rfl rfl) h2
  refine (zc1 (hsc n b m ⟨hn0,hn1⟩ ⟨hm0,hm1⟩) (Kept.nil rfl) (za3 hn hb hm)).mono ?_
  rintro e W' ⟨rfl,hos,hout,hbl⟩
  exact ⟨_,rfl,zf3 Try.laidOut rfl hW' (fun t ht=>by
    have ht':t∈Try.f4.params.toList:=ht
    rw [Try.params4] at ht'
    have ht2:t=5∨t=4∨t=5:=by simpa using ht'
    rcases ht2 with rfl | rfl | rfl<;>exact ⟨by kernel_rfl,of_decide_eq_true kR0⟩) kR0 Try.underlying4 rfl hos hout hbl⟩
set_option maxRecDepth 100000 in
theorem z5k (hsc:∀ (n:Int) (b:Bool) (many:Int),0<=n/\n<=255->0<=many/\many<=255->SC Try.prog 4 [.pv (.val (.int .u8 n)),.pv (.val (.bool b)),.pv (.val (.int .u8 many))] [] (fun k=>k∈[]) (iBool true) []):Rows.OrderChainsSaid :=
  OpenClaim.holds_of_wide 4 Try.f4 rfl rfl rfl rfl rfl rfl rfl ⟨rfl,rfl,rfl,rfl,rfl⟩ rfl rfl rfl rfl rfl kR0 Try.func4 kR0
    (of_decide_eq_true kR0) (by unfold Func.isWrapper;first | (rw [if_pos (by decide +kernel)];kernel_rfl) | (rw [if_neg (by decide +kernel)];exact ⟨rfl,rfl⟩))
    (fun os started H enc _=>z3f hsc os started H enc)
end
theorem orderChains_holds:Rows.OrderChainsSaid:=z5k z5m
end Go.Proofs.Ytnpiekoeammkgaa
