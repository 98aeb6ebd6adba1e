/- PART 3 of 7 of a proof: see the last part. -/
import Derived.Test.YtfaeemilgahcpaaGreatHd2
set_option maxRecDepth 8000
set_option maxHeartbeats 2000000
set_option linter.unusedSimpArgs false
set_option linter.unusedVariables false
set_option linter.unusedSectionVars false
namespace Go.Proofs.YtfaeemilgahcpaaGreat
open Go
def SubL (a b:List Int):Prop:=∀ v:Int,a.contains v=true->b.contains v=true
theorem SubL.refl (a:List Int):SubL a a:=fun _ h=>h
theorem SubL.app {a b c d:List Int} (h:SubL a b) (h2:SubL c d):SubL (a++c) (b++d):=fun v hv=>by
  rw [List.contains_append,Bool.or_eq_true] at hv ⊢
  exact hv.elim (fun h'=>.inl (h v h')) (fun h'=>.inr (h2 v h'))
theorem SubL.left {a b c:List Int} (h:SubL a b):SubL a (b++c):=fun v hv=>by rw [List.contains_append,h v hv];rfl
theorem zs9 {tys s s':List Int}:∀ {l want:List Int},(∀ v∈l,s.contains v=true->s'.contains v=true)->z0w tys s l want=true->z0w tys s' l want=true
  | [],_,_,_=>by simp [z0w]
  | _::_,[],_,_=>by simp [z0w]
  | x::r,w::ws,hs,h=>by
    simp only [z0w,Bool.and_eq_true] at h ⊢
    refine ⟨?_,zs9 (fun v hv=>hs v (.tail _ hv)) h.2⟩
    have h1:=h.1
    unfold z6z at h1 ⊢
    cases hc:s.contains x with
    | false=>rw [hc] at h1;simp at h1
    | true=>rw [hs x (.head _) hc];rw [hc] at h1;exact h1
theorem y2m {tys s s' l want:List Int} (hs:∀ v∈l,s.contains v=true->s'.contains v=true) (h:z01 tys s l want=true):z01 tys s' l want=true:=by
  unfold z01 at h ⊢
  simp only [Bool.and_eq_true] at h ⊢
  exact ⟨h.1,zs9 hs h.2⟩
theorem z71 {tys s s' l want:List Int} (hs:SubL s s') (h:z01 tys s l want=true):z01 tys s' l want=true:=y2m (fun v _=>hs v) h
theorem z4s {x:Nd} (h:z0x x=true):(x.kind=1∨x.kind=2∨x.kind=3∨x.kind=4):=by
  simp only [z0x,Bool.or_eq_true,Bool.and_eq_true,beq_iff_eq] at h
  rcases h with ((h | h) | h) | h
  ·exact .inl h
  ·exact .inr (.inl h)
  ·exact .inr (.inr (.inl h))
  exact .inr (.inr (.inr h.1.1))
theorem z85 {x:Nd} (h:z0x x=true):(x.kind==10)=false/\(x.kind==11)=false/\z04 x=false/\z1k x=false:=by
  have hk:=z4s h
  have h10:(x.kind==10)=false:=by simp;omega
  have h11:(x.kind==11)=false:=by simp;omega
  have h14:(x.kind==14)=false:=by simp;omega
  refine ⟨h10,h11,?_,?_⟩
  ·simp only [z04,h10,h11,Bool.false_and,Bool.false_eq_true,if_false,z0o]
   simp;omega
  rw [z2h,h10,h14];rfl
theorem y7h {u:Un} {f:Fl} {x:Nd} {s s':List Int} {w:Wh} {outs:List Int} (hs:SubL s s') (h:(z3d u f x s w).ok f.types outs=true):(z3d u f x s' w).ok f.types outs=true:=by
  have M:∀ want,z01 f.types s x.args want=true->z01 f.types s' x.args want=true:=fun want=>z71 hs
  have F:∀ (b b':Bool) (want:Option (List Int)),(b=true->b'=true)->SForm.ok ⟨b,want⟩ f.types outs=true->SForm.ok ⟨b',want⟩ f.types outs=true:=fun b b' want hb h=>by
    cases want<;>simp only [SForm.ok,Bool.and_eq_true] at h ⊢<;>exact ⟨hb h.1,h.2⟩
  unfold z3d at h ⊢
  by_cases k1:(x.kind==1)=true
  ·rw [if_pos k1] at h ⊢
   exact F _ _ _ (fun hb=>M _ hb) h
  rw [if_neg k1] at h ⊢
  by_cases k2:(x.kind==2)=true
  ·rw [if_pos k2] at h ⊢
   exact F _ _ _ (fun hb=>by simp only [Bool.and_eq_true] at hb ⊢;exact ⟨hb.1,M _ hb.2⟩) h
  rw [if_neg k2] at h ⊢
  by_cases k3:(x.kind==3)=true
  ·rw [if_pos k3] at h ⊢
   exact F _ _ _ (fun hb=>by simp only [Bool.and_eq_true] at hb ⊢;exact ⟨hb.1,M _ hb.2⟩) h
  rw [if_neg k3] at h ⊢
  by_cases k4:(x.kind==4)=true
  ·rw [if_pos k4] at h ⊢
   exact F _ _ _ (fun hb=>by simp only [Bool.and_eq_true] at hb ⊢;exact ⟨⟨hb.1.1,M _ hb.1.2⟩,hb.2⟩) h
  rw [if_neg k4] at h ⊢
  by_cases k5:(x.kind==5)=true
  ·rw [if_pos k5] at h ⊢
   exact F _ _ _ (fun hb=>by simp only [Bool.and_eq_true] at hb ⊢;exact ⟨hb.1,M _ hb.2⟩) h
  rw [if_neg k5] at h ⊢
  by_cases k6:(x.kind==6)=true
  ·rw [if_pos k6] at h ⊢
   exact F _ _ _ (fun hb=>by simp only [Bool.and_eq_true] at hb ⊢;exact ⟨hb.1,M _ hb.2⟩) h
  rw [if_neg k6] at h ⊢
  by_cases k7:(x.kind==7)=true
  ·rw [if_pos k7] at h ⊢
   by_cases hp:decide (z02 x.name u.flows 0 ≥ 0)=true
   ·rw [if_pos hp] at h ⊢
    cases hg:u.flows[(z02 x.name u.flows 0).toNat]? with
    | none=>rw [hg] at h;exact h
    | some g=>rw [hg] at h;exact F _ _ _ (fun hb=>M _ hb) h
   rw [if_neg hp] at h ⊢;exact h
  rw [if_neg k7] at h ⊢
  by_cases k8:(x.kind==8)=true
  ·rw [if_pos k8] at h ⊢
   exact h
  rw [if_neg k8] at h ⊢
  by_cases k9:(x.kind==9)=true
  ·rw [if_pos k9] at h ⊢
   exact F _ _ _ (fun hb=>M _ hb) h
  rw [if_neg k9] at h ⊢
  by_cases k12:(x.kind==12)=true
  ·rw [if_pos k12] at h ⊢
   exact F _ _ _ (fun hb=>by simp only [Bool.and_eq_true] at hb ⊢;exact ⟨hb.1,M _ hb.2⟩) h
  rw [if_neg k12] at h ⊢
  by_cases k13:(x.kind==13)=true
  ·rw [if_pos k13] at h ⊢
   exact F _ _ _ (fun hb=>by simp only [Bool.and_eq_true] at hb ⊢;exact ⟨hb.1,M _ hb.2⟩) h
  rw [if_neg k13] at h ⊢
  by_cases k14:(x.kind==14)=true
  ·rw [if_pos k14] at h ⊢
   exact F _ _ _ (fun hb=>by simp only [Bool.and_eq_true] at hb ⊢;exact ⟨hb.1,M _ hb.2⟩) h
  rw [if_neg k14] at h ⊢
  by_cases k15:(x.kind==15)=true
  ·rw [if_pos k15] at h ⊢
   exact F _ _ _ (fun hb=>M _ hb) h
  rw [if_neg k15] at h ⊢
  exact h
theorem za9 {u:Un} {f:Fl} {x:Nd} {s s':List Int} {w w':Wh} {outs:List Int} (hm:z0x x=true) (hs:∀ v∈x.args,s.contains v=true->s'.contains v=true) (h:(z3d u f x s w).ok f.types outs=true) :
    (z3d u f x s' w').ok f.types outs=true/\outs.length=1:=by
  have M:∀ want,z01 f.types s x.args want=true->z01 f.types s' x.args want=true:=fun want=>y2m hs
  have F:∀ (b b':Bool) (t:Int),(b=true->b'=true)->SForm.ok ⟨b,some [t]⟩ f.types outs=true->SForm.ok ⟨b',some [t]⟩ f.types outs=true/\outs.length=1:=fun b b' t hb h=>by
    simp only [SForm.ok,Bool.and_eq_true] at h ⊢
    exact ⟨⟨hb h.1,h.2⟩,z8v h.2⟩
  unfold z3d at h ⊢
  by_cases k1:(x.kind==1)=true
  ·rw [if_pos k1] at h ⊢
   exact F _ _ _ (fun hb=>M _ hb) h
  rw [if_neg k1] at h ⊢
  by_cases k2:(x.kind==2)=true
  ·rw [if_pos k2] at h ⊢
   exact F _ _ _ (fun hb=>by simp only [Bool.and_eq_true] at hb ⊢;exact ⟨hb.1,M _ hb.2⟩) h
  rw [if_neg k2] at h ⊢
  by_cases k3:(x.kind==3)=true
  ·rw [if_pos k3] at h ⊢
   exact F _ _ _ (fun hb=>by simp only [Bool.and_eq_true] at hb ⊢;exact ⟨hb.1,M _ hb.2⟩) h
  rw [if_neg k3] at h ⊢
  by_cases k4:(x.kind==4)=true
  ·rw [if_pos k4] at h ⊢
   exact F _ _ _ (fun hb=>by simp only [Bool.and_eq_true] at hb ⊢;exact ⟨⟨hb.1.1,M _ hb.1.2⟩,hb.2⟩) h
  rw [if_neg k4] at h ⊢
  have hk:=z4s hm
  simp only [beq_iff_eq] at k1 k2 k3 k4
  omega
theorem y8k:∀ (a b:List Nd),dL (a++b)=dL a++dL b
  | [],_=>rfl
  | x::r,b=>by simp only [List.cons_append,dL,y8k r b,List.append_assoc]
theorem zq1:∀ (l:List Nd) (vs:List Int),List.Perm (dL (z0n vs l).1++dL (z0n vs l).2) (dL l)
  | [],_=>by simp [z0n,dL]
  | x::r,vs=>by
    unfold z0n
    split
    ·split
     ·have ih:=zq1 r (vs++[x.outs.headD 0])
      simp only [dL]
      refine (List.perm_append_comm_assoc _ _ _).trans ?_
      exact ih.append_left (dN x)
     have ih:=zq1 r vs
     simp only [dL,List.append_assoc]
     exact ih.append_left (dN x)
    simp [dL]
mutual
theorem y6n:∀ x:Nd,List.Perm (dL (z2p x)) (dN x)
  | .mk kind op n name args outs params ks=>by
    have hk:=zv2 ks
    unfold z2p hOut
    split
    ·cases hq:z2e ks with
     | nil =>
       rw [hq] at hk
       simp only [dL,dN,List.append_nil]
       exact (hk.append_right outs).append_left params
     | cons b r =>
       rw [hq] at hk
       simp only [y8k,dL,dN,dK,List.append_nil] at hk ⊢
       have hp:=zq1 b params
       refine (List.perm_append_comm_assoc _ _ _).trans (List.Perm.append_left params ?_)
       rw [<- List.append_assoc,<- List.append_assoc]
       refine List.Perm.append_right outs ?_
       refine (List.Perm.append_right (dK r) hp).trans hk
    simp only [dL,dN,List.append_nil]
    exact (hk.append_right outs).append_left params
theorem zf8:∀ l:List Nd,List.Perm (dL (z0u l)) (dL l)
  | []=>by simp [z0u]
  | x::r=>by
    simp only [z0u,y8k,dL]
    exact (y6n x).append (zf8 r)
theorem zv2:∀ ks:List (List Nd),List.Perm (dK (z2e ks)) (dK ks)
  | []=>by simp [z2e]
  | l::r=>by
    simp only [z2e,dK]
    exact (zf8 l).append (zv2 r)
end
theorem Frs.perm {set:List Bool} {a b:List Int} (h:Frs set a) (hp:List.Perm a b):Frs set b:=⟨hp.nodup_iff.1 h.1,fun v hv=>h.2 v (hp.mem_iff.2 hv)⟩
theorem zg1:∀ (a b:List Nd),z0b (a++b)=(z0b a||z0b b)
  | [],b=>by simp [z0b]
  | x::r,b=>by simp only [List.cons_append,z0b,zg1 r b,Bool.or_assoc]
theorem z79:∀ (l:List Nd) (vs:List Int),z0b (z0n vs l).1=false/\z0b (z0n vs l).2=z0b l
  | [],_=>by simp [z0n,z0b]
  | x::r,vs=>by
    unfold z0n
    split
    ·rename_i hm
     obtain ⟨_,_,_,h4⟩:=z85 hm
     split
     ·obtain ⟨h1,h2⟩:=z79 r (vs++[x.outs.headD 0])
      exact ⟨h1,by simp only [z0b,h2]⟩
     obtain ⟨h1,h2⟩:=z79 r vs
     exact ⟨by simp only [z0b,h1,h4,Bool.or_false],by simp only [z0b,h2,h4,Bool.false_or]⟩
    simp [z0b]
mutual
theorem y3j:∀ x:Nd,z0b (z2p x)=z1k x
  | .mk kind op n name args outs params ks=>by
    have hk:=zo4 ks
    unfold z2p hOut
    split
    ·rename_i h11
     have e11:kind=11:=by simpa using h11
     subst e11
     cases hq:z2e ks with
     | nil=>simp [z0b,z1k]
     | cons b r=>simp only [zg1,(z79 b params).1];simp [z0b,z1k]
    simp only [z0b,z1k,hk,Bool.or_false]
theorem z9x:∀ l:List Nd,z0b (z0u l)=z0b l
  | []=>by simp [z0u]
  | x::r=>by simp only [z0u,zg1,y3j x,z9x r,z0b]
theorem zo4:∀ ks:List (List Nd),z29 (z2e ks)=z29 ks
  | []=>by simp [z2e]
  | l::r=>by simp only [z2e,z29,z9x l,zo4 r]
end
theorem zv3 (x:Nd):∃ A y,z2p x=A++[y]/\y.kind=x.kind:=by
  cases x with
  | mk kind op n name args outs params ks =>
    unfold z2p hOut
    split
    ·cases z2e ks with
     | nil=>exact ⟨[],_,rfl,rfl⟩
     | cons b r=>exact ⟨_,_,rfl,rfl⟩
    exact ⟨[],_,rfl,rfl⟩
theorem zy2 {l:List Nd} (h:l≠[]):z0u l≠[]:=by
  cases l with
  | nil=>exact absurd rfl h
  | cons x r =>
    obtain ⟨A,y,e,_⟩:=zv3 x
    simp [z0u,e]
theorem y9l:∀ l:List Nd,z1d (z0u l)=z1d l
  | []=>by simp [z0u]
  | x::r=>by
    obtain ⟨A,y,e,hk⟩:=zv3 x
    cases r with
    | nil=>simp [z0u,e,z1d,hk]
    | cons z r' =>
      have ih:=y9l (z::r')
      have hne:z0u (z::r')≠[]:=zy2 sI0
      have h1:(z0u (x::z::r')).getLast? = (z0u (z::r')).getLast?:=by
        rw [show z0u (x::z::r')=z2p x++z0u (z::r') from rfl,List.getLast?_append]
        cases hl:(z0u (z::r')).getLast? with
        | none=>exact absurd (List.getLast?_eq_none_iff.1 hl) hne
        | some q=>rfl
      unfold z1d at ih ⊢
      rw [h1,ih]
      simp [List.getLast?_cons_cons]
def Oks (B:Int) (s:Rs):Prop:=0<=s.fuel/\0<=s.cost/\s.cost+s.fuel<=B
def Live (s:Rs):Prop:=s.spent=false/\s.st=0
def dec (s:Rs):Rs:={ s with fuel:=s.fuel - 1 }
def gone (s:Rs):Rs:={ s with spent:=true }
def bmp (s:Rs):Rs:={ s with cost:=s.cost+1 }
theorem yh5 {n:Int} (h:0<=n) (h2:n<=4611686018427387904):w64 n=n:=IntWalk.i64_in n oM0
theorem z6e {s:Rs}:z11 s=false↔Live s:=by
  unfold z11 Live
  simp
theorem z0r {s:Rs} (h:Live s):z11 s=false:=z6e.2 h
theorem zi0 {s:Rs} {B:Int} (hB:B<=4611686018427387903) (ho:Oks B s):z53 s=bmp s:=by
  obtain ⟨h1,h2,h3⟩:=ho
  unfold z53 bmp
  rw [yh5 oM0 oM0]
theorem zx2 {s:Rs} {B:Int} (hB:B<=4611686018427387903) (ho:Oks B s) (hl:Live s):(s.fuel<1/\z7v s=(false,gone s))∨(1<=s.fuel/\z7v s=(true,dec s)):=by
  obtain ⟨h1,h2,h3⟩:=ho
  unfold z7v
  rw [z0r hl]
  simp only [Bool.false_eq_true,if_false]
  by_cases h:s.fuel<1
  ·rw [if_pos h];exact .inl ⟨h,rfl⟩
  rw [if_neg h,yh5 oM0 oM0];exact .inr ⟨by omega,rfl⟩
theorem y5c {u:Un} {d:Nat} {x:Nd} {l:List Nd} {a:List Int} {s:Rs} {r:Rres} {B:Int} (hB:B<=4611686018427387903) (h:z1p u d (x::l) a s=some r) (ho:Oks B s) (hl:Live s) :
    ∃ d1,d=d1+1/\((s.fuel<1/\r=((0,[]),a,gone s))∨(1<=s.fuel/\∃ p r1,mOf a x.args=some p/\z4k (z1p u d1) (z35 u d1) (mSum u d1) x p a (dec s)=some r1/\(if z11 r1.2.2||r1.1.1 != 0 then some r1 else z1p u d1 l r1.2.1 r1.2.2)=some r)):=by
  obtain ⟨d1,rfl,h2⟩:=z6r rfl h
  refine ⟨d1,rfl,?_⟩
  rcases zx2 hB ho hl with ⟨h3,h4⟩ | ⟨h3,h4⟩
  ·rw [h4] at h2
   rcases h2 with ⟨_,h2⟩ | ⟨h2,_⟩
   ·exact .inl ⟨h3,h2⟩
   cases h2
  rw [h4] at h2
  rcases h2 with ⟨h2,_⟩ | ⟨_,h2⟩
  ·cases h2
  exact .inr ⟨h3,h2⟩
def hc (x:Nd):Nat:=if x.kind=3∨x.kind=4 then 1 else 0
def y3e (x:Nd) (p:List Int):Option Int :=
  if x.kind=1∨x.kind=2 then some x.n
  else if x.kind=3 then (p[0]?).map fun a=>mOne x.op a
  else (p[0]?).bind fun a=>(p[1]?).map fun b=>(mTwo x.op a b).1
def HL (x:Nd):Prop:=z0x x=true/\(x.kind=4->z1q x.op=true)/\x.outs≠[]
def hRun (x:Nd) (a a2:List Int):Prop:=∃ p y o,mOf a x.args=some p/\y3e x p=some y/\x.outs[0]? = some o/\setV a o y=some a2
theorem two_ok {op a b:Int} (h:z1q op=true) (h4:op≠4) (h5:op≠5):(mTwo op a b).2=true:=by
  simp only [z1q,Bool.and_eq_true,decide_eq_true_eq] at h
  have:op=1∨op=2∨op=3∨op=6∨op=7∨op=8∨op=9∨op=10∨op=11∨op=12∨op=13∨op=14∨op=15∨op=16∨op=17:=by omega
  rcases this with rfl | rfl | rfl | rfl | rfl | rfl | rfl | rfl | rfl | rfl | rfl | rfl | rfl | rfl | rfl<;>rfl
def hSt (x:Nd) (s:Rs):Rs:={ s with cost:=s.cost+hc x }
theorem hc_01 (x:Nd):hc x=0∨hc x=1:=by unfold hc;split<;>simp
theorem hSt0 {x:Nd} {s:Rs} (h:hc x=0):hSt x s=s:=by unfold hSt;rw [h];simp
theorem y6o {u:Un} {d:Nat} {x:Nd} {p a:List Int} {s:Rs} {r:Rres} {B:Int} (hB:B<=4611686018427387903) (ho:Oks B s) (hl:Live s) (hx:HL x) (h:z4k (z1p u d) (z35 u d) (mSum u d) x p a s=some r) :
    ∃ y o a2,y3e x p=some y/\x.outs[0]? = some o/\setV a o y=some a2/\r=((0,[]),a2,hSt x s):=by
  obtain ⟨h1,h2,h3⟩:=hx
  obtain ⟨n10,n11,_,_⟩:=z85 h1
  have hk:=z4s h1
  rcases hk with hk | hk | hk | hk
  ·obtain ⟨o,v2,g1,g2,rfl⟩:=z6s h (by rw [hk];rfl)
   exact ⟨x.n,o,v2,by simp [y3e,hk],g1,g2,by rw [hSt0];simp [hc,hk]⟩
  ·obtain ⟨o,v2,g1,g2,rfl⟩:=z6s h (by rw [hk];rfl)
   exact ⟨x.n,o,v2,by simp [y3e,hk],g1,g2,by rw [hSt0];simp [hc,hk]⟩
  ·obtain ⟨r1,g1,g2⟩:=z6t h (by rw [hk];rfl) (by rw [hk];rfl) n10 n11
   obtain ⟨d',rfl⟩:=z6c g1
   obtain ⟨a0,g3,rfl⟩:=z91 g1 (by rw [hk];rfl)
   rw [zi0 hB ho] at g2
   have hov:z11 (bmp s)=false:=z0r hl
   rw [hov] at g2
   have hlen:0<x.outs.length:=List.length_pos_iff.2 h3
   simp only [Bool.not_false,Bool.true_and,decide_eq_true hlen,if_true,Option.bind_eq_some_iff,Option.map_eq_some_iff] at g2
   obtain ⟨o,g4,v2,g5,rfl⟩:=g2
   exact ⟨_,o,v2,by simp [y3e,hk,g3],g4,g5,by simp [hSt,hc,hk,bmp]⟩
  have h4:=h2 hk
  have hop:x.op≠4/\x.op≠5:=by
    simp only [z0x,hk] at h1
    simpa using h1
  obtain ⟨r1,g1,g2⟩:=z6t h (by rw [hk];rfl) (by rw [hk];rfl) n10 n11
  obtain ⟨d',rfl⟩:=z6c g1
  obtain ⟨a0,a1,g3,g3',rfl⟩:=z92 g1 (by rw [hk];rfl)
  rw [two_ok h4 hop.1 hop.2,if_pos rfl,zi0 hB ho] at g2
  have hov:z11 (bmp s)=false:=z0r hl
  rw [hov] at g2
  have hlen:0<x.outs.length:=List.length_pos_iff.2 h3
  simp only [Bool.not_false,Bool.true_and,decide_eq_true hlen,if_true,Option.bind_eq_some_iff,Option.map_eq_some_iff] at g2
  obtain ⟨o,g4,v2,g5,rfl⟩:=g2
  exact ⟨_,o,v2,by simp [y3e,hk,g3,g3'],g4,g5,by simp [hSt,hc,hk,bmp]⟩
structure Ext (B:Int) (s t:Rs):Prop where
  ok:Oks B t
  out:s.out <+: t.out
  ar:t.ar.length=s.ar.length
  fuel:t.fuel<=s.fuel
theorem Ext.rfl {B:Int} {s:Rs} (h:Oks B s):Ext B s s:=⟨h,List.prefix_refl _,Eq.refl _,Int.le_refl _⟩
theorem Ext.trans {B:Int} {s t w:Rs} (h:Ext B s t) (h2:Ext B t w):Ext B s w:=⟨h2.ok,h.out.trans h2.out,h2.ar.trans h.ar,Int.le_trans h2.fuel h.fuel⟩
theorem zo6 {s:Rs} {k n:Int} {q:Bool × Rs} (h:z89 s k n=some q):(q=(false,{ s with st:=3 }))∨q=(true,s):=by
  unfold z89 at h
  split at h
  ·cases h;exact .inl (Eq.refl _)
  split at h
  ·obtain ⟨row,h1,h2⟩:=Option.bind_eq_some_iff.1 h
   split at h2
   ·cases h2;exact .inl (Eq.refl _)
   cases h2;exact .inr (Eq.refl _)
  cases h
theorem sum_ext {u:Un} {d:Nat} {x:Nd} {p:List Int} {s:Rs} {r:Int × Rs} {B:Int} (hB:B<=4611686018427387903) (ho:Oks B s) (ho1:s.cost+s.fuel+1<=B)
    (hC:∀ d' k a r,d=d'+1->z3m u d' k a (bmp s)=some r->Ext B (bmp s) r.2) (h:mSum u d x p s=some r):Ext B s r.2:=by
  obtain ⟨d',rfl⟩:=z6c h
  have hb:Oks B (bmp s):=⟨ho.1,by have:=ho.2.1;show 0<=s.cost+1;omega,by show s.cost+1+s.fuel<=B;omega⟩
  have e:=zi0 hB ho
  have E0:Ext B s (bmp s):=⟨hb,List.prefix_refl _,Eq.refl _,Int.le_refl _⟩
  have ne:∀ {i:Int},x.kind≠i->(x.kind==i)=false:=fun h=>beq_eq_false_iff_ne.2 h
  by_cases k3:x.kind=3
  ·obtain ⟨a0,_,rfl⟩:=z91 h (beq_iff_eq.2 k3);rw [e];exact E0
  by_cases k4:x.kind=4
  ·obtain ⟨a0,a1,_,_,rfl⟩:=z92 h (beq_iff_eq.2 k4)
   rw [e]
   split
   ·exact E0
   exact ⟨hb,List.prefix_refl _,Eq.refl _,Int.le_refl _⟩
  by_cases k5:x.kind=5
  ·obtain ⟨a0,b,s',_,h2,h3⟩:=z6u h k5
   rw [e] at h2 h3
   rcases h3 with ⟨rfl,rfl⟩ | ⟨rfl,row,y,_,_,rfl⟩
   ·rcases zo6 h2 with h4 | h4
    ·obtain ⟨_,rfl⟩:=Prod.mk.inj h4
     exact ⟨hb,List.prefix_refl _,Eq.refl _,Int.le_refl _⟩
    cases (Prod.mk.inj h4).1
   exact E0
  by_cases k6:x.kind=6
  ·obtain ⟨a0,b,s',_,h2,h3⟩:=z5x h k6
   rw [e] at h2 h3
   rcases h3 with ⟨rfl,rfl⟩ | ⟨rfl,row,y,_,_,rfl⟩
   ·rcases zo6 h2 with h4 | h4
    ·obtain ⟨_,rfl⟩:=Prod.mk.inj h4
     exact ⟨hb,List.prefix_refl _,Eq.refl _,Int.le_refl _⟩
    cases (Prod.mk.inj h4).1
   exact ⟨hb,List.prefix_refl _,by simp [bmp],Int.le_refl _⟩
  by_cases k7:x.kind=7
  ·have h2:=z8a h (beq_iff_eq.2 k7)
   rw [e] at h2
   exact E0.trans (hC _ _ _ _ (Eq.refl _) h2)
  by_cases k9:x.kind=9
  ·obtain ⟨a0,_,_,rfl⟩:=z6v h (beq_iff_eq.2 k9)
   rw [e]
   exact ⟨hb,List.prefix_append _ _,Eq.refl _,Int.le_refl _⟩
  by_cases k8:x.kind=8
  ·rcases z8c h (beq_iff_eq.2 k8) with ⟨_,rfl⟩ | ⟨y,q,_,rfl⟩<;>rw [e]<;>exact ⟨hb,List.prefix_refl _,Eq.refl _,Int.le_refl _⟩
  obtain rfl:=z8b h (ne k3) (ne k4) (ne k5) (ne k6) (ne k7) (ne k9) (ne k8)
  rw [e];exact E0
theorem z3u {s:Rs} {B:Int} (ho:Oks B s) (h:1<=s.fuel):Oks B (dec s)/\(dec s).cost+(dec s).fuel+1<=B:=by
  obtain ⟨h1,h2,h3⟩:=ho
  refine ⟨⟨?_,h2,?_⟩,?_⟩
  ·show 0<=s.fuel - 1;omega
  ·show s.cost+(s.fuel - 1)<=B;omega
  show s.cost+(s.fuel - 1)+1<=B;omega
theorem ya1 {u:Un} {d:Nat} {l:List Nd} {a:List Int} {s:Rs} {r:Rres} (h:z1p u d l a s=some r) (ho:z11 s=true):r=((0,[]),a,s):=by
  cases l with
  | nil=>exact y1k h
  | cons x l =>
    obtain ⟨d1,rfl,h2⟩:=z6r rfl h
    have:z7v s=(false,s):=by unfold z7v;rw [ho];rfl
    rw [this] at h2
    rcases h2 with ⟨_,h2⟩ | ⟨h2,_⟩
    ·exact h2
    cases h2
theorem zx8 (u:Un) {B:Int} (hB:B<=4611686018427387903):∀ d,
    (∀ l a s r,z1p u d l a s=some r->Oks B s->Ext B s r.2.2)/\(∀ x p a s r,z35 u d x p a s=some r->Oks B s->Ext B s r.2.2) /\
    (∀ k p s r,z3m u d k p s=some r->Oks B s->Ext B s r.2)/\∀ x p s r,mSum u d x p s=some r->Oks B s->s.cost+s.fuel+1<=B->Ext B s r.2
  | 0=>⟨fun _ _ _ _ h=>by simp [z1p] at h,fun _ _ _ _ _ h=>by simp [z35] at h,fun _ _ _ _ h=>by simp [z3m] at h,fun _ _ _ _ h=>by simp [mSum] at h⟩
  | d+1=>by
    obtain ⟨i1,i2,i3,i4⟩:=zx8 u hB d
    refine ⟨fun l a s r h ho=>?_,fun x p a s r h ho=>?_,fun k p s r h ho=>?_,fun x p s r h ho ho1=>?_⟩
    ·cases l with
     | nil=>rw [y1k h];exact Ext.rfl ho
     | cons x l =>
       cases hov:z11 s with
       | true=>rw [ya1 h hov];exact Ext.rfl ho
       | false =>
         obtain ⟨d1,e,h2⟩:=y5c hB h ho (z6e.1 hov)
         obtain rfl:d1=d:=by omega
         rcases h2 with ⟨_,rfl⟩ | ⟨hf,p,r1,_,h3,h4⟩
         ·exact ⟨ho,List.prefix_refl _,rfl,Int.le_refl _⟩
         obtain ⟨o1,o2⟩:=z3u ho hf
         have E0:Ext B s (dec s):=⟨o1,List.prefix_refl _,rfl,by show s.fuel - 1<=s.fuel;omega⟩
         have E1:Ext B (dec s) r1.2.2:=by
           unfold z4k at h3
           split at h3
           ·simp only [Option.bind_eq_some_iff,Option.map_eq_some_iff] at h3
            obtain ⟨o,_,v',_,rfl⟩:=h3
            exact Ext.rfl o1
           split at h3
           ·cases h3;exact Ext.rfl o1
           split at h3
           ·simp only [Option.bind_eq_some_iff] at h3
            obtain ⟨a0,_,q,_,r2,h5,h6⟩:=h3
            have h7:=i1 _ _ _ _ h5 o1
            split at h6
            ·simp only [Option.map_eq_some_iff] at h6
             obtain ⟨v',_,rfl⟩:=h6
             exact h7
            cases h6;exact h7
           split at h3
           ·exact i2 _ _ _ _ _ h3 o1
           simp only [Option.bind_eq_some_iff] at h3
           obtain ⟨r2,h5,h6⟩:=h3
           have h7:=i4 _ _ _ _ h5 o1 o2
           split at h6
           ·simp only [Option.bind_eq_some_iff,Option.map_eq_some_iff] at h6
            obtain ⟨o,_,v',_,rfl⟩:=h6
            exact h7
           cases h6;exact h7
         split at h4
         ·cases h4;exact E0.trans E1
         exact (E0.trans E1).trans (i1 _ _ _ _ h4 E1.ok)
    ·obtain ⟨d1,v2,q,r1,e,_,_,h3,h4⟩:=z4c h
     obtain rfl:d1=d:=by omega
     have E1:=i1 _ _ _ _ h3 ho
     split at h4
     ·cases h4;exact E1
     split at h4
     ·simp only [Option.map_eq_some_iff] at h4
      obtain ⟨v',_,rfl⟩:=h4
      exact E1
     exact E1.trans (i2 _ _ _ _ _ h4 E1.ok)
    ·obtain ⟨d1,f,r1,e,_,_,_,_,h3,rfl⟩:=z5o h
     obtain rfl:d1=d:=by omega
     exact i1 _ _ _ _ h3 ho
    refine sum_ext hB ho ho1 (fun d' k a r e h2=>?_) h
    obtain rfl:d'=d:=by omega
    have hb:Oks B (bmp s):=⟨ho.1,by have:=ho.2.1;show 0<=s.cost+1;omega,by show s.cost+1+s.fuel<=B;omega⟩
    exact i3 _ _ _ _ h2 hb
theorem z69 {u:Un} {d:Nat} {l:List Nd} {a:List Int} {s:Rs} {r:Rres} {B:Int} (hB:B<=4611686018427387903) (h:z1p u d l a s=some r) (ho:Oks B s):Ext B s r.2.2:=(zx8 u hB d).1 _ _ _ _ h ho
theorem zb5 {u:Un} {d:Nat} {x:Nd} {p a:List Int} {s:Rs} {r:Rres} {B:Int} (hB:B<=4611686018427387903) (h:z35 u d x p a s=some r) (ho:Oks B s):Ext B s r.2.2:=(zx8 u hB d).2.1 _ _ _ _ _ h ho
theorem y37 {u:Un} {d:Nat} {x:Nd} {p:List Int} {s:Rs} {r:Int × Rs} {B:Int} (hB:B<=4611686018427387903) (h:mSum u d x p s=some r) (ho:Oks B s) (ho1:s.cost+s.fuel+1<=B):Ext B s r.2:=(zx8 u hB d).2.2.2 _ _ _ _ h ho ho1
section
structure KF where
  k:Int
  outs:List Int
  rest:List Nd
mutual
def nsz:Nd->Nat
  | .mk _ _ _ _ _ _ _ ks=>1+kdz ks
def lsz:List Nd->Nat
  | []=>0
  | x::r=>nsz x+lsz r
def kdz:List (List Nd)->Nat
  | []=>0
  | l::r=>lsz l+kdz r
end
theorem zv9 (x:Nd):nsz x=1+kdz x.kids:=by cases x;simp [nsz,Nd.kids]
def ksz:List KF->Nat
  | []=>0
  | f::K=>lsz f.rest+ksz K
abbrev VR:=List Int->List Int->Prop
abbrev ER:=Int->List Int->List Int->List Int->List Int->Prop
def setO (outs a:List Int) (y:Int) (a2:List Int):Prop:=match outs with
  | []=>a2=a
  | o::_=>setV a o y=some a2
inductive LRel:Nat->Nat->VR->List Nd->List KF->List Nd->ER->Prop
  | dead {I l K l' E}:(∀ a b,¬ I a b)->LRel 0 0 I l K l' E
  | weak {k c I I' l K l' E}:(∀ a b,I a b->I' a b)->LRel k c I' l K l' E->LRel k c I l K l' E
  | both {k c I J x x' l K l' E}:HL x->HL x'->hc x'<=hc x->(∀ a b a2 b2,I a b->hRun x a a2->hRun x' b b2->J a2 b2)->LRel k c J l K l' E->LRel k c I (x::l) K (x'::l') E
  | skip {k c I J x l K l' E}:HL x->(∀ a b a2,I a b->hRun x a a2->J a2 b)->LRel k c J l K l' E->LRel k c I (x::l) K l' E
  | paid {k c I J x l K l' E}:HL x->(∀ a b a2,I a b->hRun x a a2->J a2 b)->l≠[]->LRel k c J l K l' E->LRel (k+1) (c+hc x) I (x::l) K l' E
  | add {k c I J x' l K l' E}:HL x'->l≠[]->(∀ a b b2,I a b->hRun x' b b2->J a b2)->LRel (k+1) (c+hc x') J l K l' E->LRel k c I l K (x'::l') E
  | eff {I J x x' l K l' E}:(x.kind≠1/\x.kind≠2/\x.kind≠10/\x.kind≠11/\x.kind≠12/\x.kind≠13/\x.kind≠14/\x.kind≠15)->x'.kind=x.kind->x'.op=x.op->x'.name=x.name->x'.outs.length=x.outs.length ->
      (∀ a b p p',I a b->mOf a x.args=some p->mOf b x'.args=some p'->p'=p)->(∀ a b a2 b2 y,I a b->setO x.outs a y a2->setO x'.outs b y b2->J a2 b2)->LRel 0 0 J l K l' E->LRel 0 0 I (x::l) K (x'::l') E
  | ite {I J E2 x x' q0 q1 q0' q1' l K l' E}:x.kind=10->x'.kind=10->x.kids=[q0,q1]->x'.kids=[q0',q1']->(∀ a b p p',I a b->mOf a x.args=some p->mOf b x'.args=some p'->p'[0]? = p[0]?) ->
      LRel 0 0 I q0 [] q0' E2->LRel 0 0 I q1 [] q1' E2 ->
      (∀ n p p' a b,E2 n p p' a b->(n=12/\∀ a2 b2,mSet a x.outs p=some a2->mSet b x'.outs p'=some b2->J a2 b2)∨(n≠12/\n≠0/\(K=[]∨n=15)/\E n p p' a b)) ->
      LRel 0 0 J l K l' E->LRel 0 0 I (x::l) K (x'::l') E
  | loop {k c I I2 J E2 x x' q q' l K l' E}:x.kind=11->x'.kind=11->x.kids=[q]->x'.kids=[q'] ->
      (∀ a b p p' a2 b2,I a b->mOf a x.args=some p->mOf b x'.args=some p'->mSet a x.params p=some a2->mSet b x'.params p'=some b2->I2 a2 b2) ->
      LRel k c I2 q [] q' E2 ->
      (∀ n p p' a b,E2 n p p' a b->(n=15/\E 15 p p' a b)∨(n=14/\∀ a2 b2,mSet a x.outs p=some a2->mSet b x'.outs p'=some b2->J a2 b2)∨(n=13/\∀ a2 b2,mSet a x.params p=some a2->mSet b x'.params p'=some b2->I2 a2 b2)) ->
      LRel 0 0 J l K l' E->LRel k c I (x::l) K (x'::l') E
  | ender {I x x' l K l' E}:12<=x.kind->x.kind<=15->x'.kind=x.kind->(K=[]∨x.kind=15)->(∀ a b p p',I a b->mOf a x.args=some p->mOf b x'.args=some p'->E x.kind p p' a b)->LRel 0 0 I (x::l) K (x'::l') E
  | once {k c I J x q l K l' E}:x.kind=11->x.kids=[q]->(∀ a b p a2,I a b->mOf a x.args=some p->mSet a x.params p=some a2->J a2 b)->LRel k c J q (⟨14,x.outs,l⟩::K) l' E->LRel k c I (x::l) K l' E
  | leave {k c I J y l f K l' E}:y.kind=f.k->f.k=12∨f.k=14->(∀ a b p a2,I a b->mOf a y.args=some p->mSet a f.outs p=some a2->J a2 b)->LRel k c J f.rest K l' E->LRel k c I (y::l) (f::K) l' E
  | fork {k c I x q0 q1 l K l' E}:x.kind=10->x.kids=[q0,q1]->LRel k c I q0 (⟨12,x.outs,l⟩::K) l' E->LRel k c I q1 (⟨12,x.outs,l⟩::K) l' E->LRel k c I (x::l) K l' E
theorem LRel.nil {k c:Nat} {I:VR} {l:List Nd} {K:List KF} {l':List Nd} {E:ER} (h:LRel k c I l K l' E):l=[]->k=0:=by
  induction h with
  | dead _=>exact fun _=>rfl
  | weak _ _ ih=>exact ih
  | add _ h1 _ _ _=>exact fun e=>absurd e h1
  | _=>intro e;cases e
def KFin (u:Un) (D:Nat):List KF->Rres->Rres->Prop
  | [],r1,r=>r=r1
  | f::K,r1,r=>if r1.1.1=15 then r=r1 else if r1.1.1=f.k then ∃ a2 d r2,d<=D/\mSet r1.2.1 f.outs r1.1.2=some a2/\z1p u d f.rest a2 r1.2.2=some r2/\(if z11 r2.2.2=true then r=r2 else KFin u D K r2 r) else r1.2.2.out <+: r.2.2.out
def KRun (u:Un) (D:Nat) (l:List Nd) (K:List KF) (a:List Int) (s:Rs) (r:Rres):Prop:=∃ d r1,d<=D/\z1p u d l a s=some r1/\(if z11 r1.2.2=true then r=r1 else KFin u D K r1 r)
def KNext (u:Un) (D:Nat) (l:List Nd) (K:List KF) (r1 r:Rres):Prop:=(z11 r1.2.2=true/\r=r1)∨(Live r1.2.2/\r1.1.1≠0/\KFin u D K r1 r)∨(Live r1.2.2/\r1.1.1=0/\KRun u D l K r1.2.1 r1.2.2 r)
section
variable {u:Un} {D:Nat} {l:List Nd} {K:List KF} {a:List Int} {s:Rs} {r:Rres} {B:Int}
theorem KFin.out (hB:B<=4611686018427387903):∀ {K:List KF} {r1 r:Rres},KFin u D K r1 r->Oks B r1.2.2->r1.2.2.out <+: r.2.2.out
  | [],r1,r,h,ho=>by obtain rfl:r=r1:=h;exact List.prefix_refl _
  | f::K,r1,r,h,ho=>by
    unfold KFin at h
    split at h
    ·subst h;exact List.prefix_refl _
    split at h
    ·obtain ⟨a2,d,r2,_,_,h2,h3⟩:=h
     have e:=z69 hB h2 ho
     split at h3
     ·subst h3;exact e.out
     exact e.out.trans (KFin.out hB h3 e.ok)
    exact h
theorem KRun.out (hB:B<=4611686018427387903) (h:KRun u D l K a s r) (ho:Oks B s):s.out <+: r.2.2.out:=by
  obtain ⟨d,r1,_,h1,h2⟩:=h
  have e:=z69 hB h1 ho
  split at h2
  ·subst h2;exact e.out
  exact e.out.trans (KFin.out hB h2 e.ok)
theorem KNext.out {r1:Rres} (hB:B<=4611686018427387903) (h:KNext u D l K r1 r) (ho:Oks B r1.2.2):r1.2.2.out <+: r.2.2.out:=by
  rcases h with ⟨_,rfl⟩ | ⟨_,_,h⟩ | ⟨_,_,h⟩
  ·exact List.prefix_refl _
  ·exact KFin.out hB h ho
  exact h.out hB ho
theorem zj7 {x:Nd} (hB:B<=4611686018427387903) (h:KRun u D (x::l) K a s r) (ho:Oks B s) (hl:Live s) :
    (s.fuel<1/\r=((0,[]),a,gone s))∨(1<=s.fuel/\∃ d1 p r1,d1<D/\mOf a x.args=some p/\z4k (z1p u d1) (z35 u d1) (mSum u d1) x p a (dec s)=some r1/\KNext u D l K r1 r):=by
  obtain ⟨d,r0,hd,h1,h2⟩:=h
  obtain ⟨d1,rfl,h3⟩:=y5c hB h1 ho hl
  rcases h3 with ⟨h3,rfl⟩ | ⟨h3,p,r1,h4,h5,h6⟩
  ·rw [if_pos (by simp [z11,gone])] at h2
   exact .inl ⟨h3,h2⟩
  refine .inr ⟨h3,d1,p,r1,hd,h4,h5,?_⟩
  cases hov:z11 r1.2.2 with
  | true =>
    rw [hov] at h6
    cases h6
    rw [if_pos hov] at h2
    exact .inl ⟨hov,h2⟩
  | false =>
    rw [hov] at h6
    by_cases hk:r1.1.1=0
    ·rw [hk] at h6
     exact .inr (.inr ⟨z6e.1 hov,hk,d1,r0,by omega,h6,h2⟩)
    have:(false||r1.1.1 != 0)=true:=by simpa using hk
    rw [if_pos this] at h6
    cases h6
    rw [if_neg (by rw [hov];decide)] at h2
    exact .inr (.inl ⟨z6e.1 hov,hk,h2⟩)
theorem z5g (hl:Live s):Live (dec s):=hl
theorem zy8 {x:Nd} (hl:Live s):Live (hSt x s):=hl
theorem zi6 {x:Nd} (ho:Oks B s) (h:1<=s.fuel):Oks B (hSt x (dec s)):=by
  obtain ⟨h1,h2,h3⟩:=ho
  have:=hc_01 x
  refine ⟨?_,?_,?_⟩
  ·show 0<=s.fuel - 1;omega
  ·show 0<=s.cost+(hc x:Int);omega
  show s.cost+(hc x:Int)+(s.fuel - 1)<=B;omega
theorem y1e {x:Nd} (hB:B<=4611686018427387903) (hx:HL x) (h:KRun u D (x::l) K a s r) (ho:Oks B s) (hl:Live s) :
    (s.fuel<1/\r=((0,[]),a,gone s))∨(1<=s.fuel/\∃ a2,hRun x a a2/\KRun u D l K a2 (hSt x (dec s)) r):=by
  rcases zj7 hB h ho hl with h1 | ⟨h1,d1,p,r1,_,h2,h3,h4⟩
  ·exact .inl h1
  obtain ⟨y,o,a2,g1,g2,g3,rfl⟩:=y6o hB (z3u ho h1).1 (z5g hl) hx h3
  refine .inr ⟨h1,a2,⟨p,y,o,h2,g1,g2,g3⟩,?_⟩
  rcases h4 with ⟨h5,_⟩ | ⟨_,h5,_⟩ | ⟨_,_,h5⟩
  ·have:z11 (hSt x (dec s))=false:=z0r hl
   rw [show (((0,[]),a2,hSt x (dec s)):Rres).2.2=hSt x (dec s) from rfl,this] at h5
   cases h5
  ·exact absurd rfl h5
  exact h5
theorem y1t {x:Nd} {q:List Nd} (hB:B<=4611686018427387903) (hx:x.kind=11) (hq:x.kids=[q]) (h:KRun u D (x::l) K a s r) (ho:Oks B s) (hl:Live s) :
    (s.fuel<1/\r=((0,[]),a,gone s))∨(1<=s.fuel/\∃ p a2,mOf a x.args=some p/\mSet a x.params p=some a2/\KRun u D q (⟨14,x.outs,l⟩::K) a2 (dec s) r):=by
  rcases zj7 hB h ho hl with h1 | ⟨h1,d1,p,r1,hd,h2,h3,h4⟩
  ·exact .inl h1
  have h5:=z5p h3 (by rw [hx];rfl)
  have ho1:=(z3u ho h1).1
  obtain ⟨d2,v2,q2,r2,rfl,g1,g2,g3,g4⟩:=z4c h5
  rw [hq] at g2
  obtain rfl:q=q2:=by simpa using g2
  refine .inr ⟨h1,p,v2,h2,g1,d2,r2,by omega,g3,?_⟩
  have e:=z69 hB g3 ho1
  cases hov:z11 r2.2.2 with
  | true =>
    rw [hov] at g4
    cases g4
    rw [if_pos rfl]
    rcases h4 with ⟨_,h4⟩ | ⟨h4,_⟩ | ⟨h4,_⟩
    ·exact h4
    ·rw [z0r h4] at hov;cases hov
    rw [z0r h4] at hov;cases hov
  | false =>
    rw [hov] at g4
    rw [if_neg dC0]
    unfold KFin
    by_cases k15:r2.1.1=15
    ·rw [k15] at g4
     cases g4
     rw [if_pos k15]
     rcases h4 with ⟨h4,_⟩ | ⟨_,_,h4⟩ | ⟨_,h4,_⟩
     ·rw [hov] at h4;cases h4
     ·cases K with
      | nil=>exact h4
      | cons f K=>unfold KFin at h4;rw [if_pos k15] at h4;exact h4
     rw [k15] at h4;exact absurd h4 dC0
    rw [if_neg k15]
    have n15:(false||r2.1.1==15)=false:=by simpa using k15
    rw [n15,if_neg dC0] at g4
    by_cases k14:r2.1.1=14
    ·rw [if_pos k14]
     rw [if_pos (by rw [k14];rfl)] at g4
     obtain ⟨v3,g5,rfl⟩:=Option.map_eq_some_iff.1 g4
     rcases h4 with ⟨h4,_⟩ | ⟨_,h4,_⟩ | ⟨_,_,d3,r3,h6,h7,h8⟩
     ·rw [show (((0,[]),v3,r2.2.2):Rres).2.2=r2.2.2 from rfl,hov] at h4;cases h4
     ·exact absurd rfl h4
     exact ⟨v3,d3,r3,h6,g5,h7,h8⟩
    rw [if_neg k14]
    rw [if_neg (by simpa using k14)] at g4
    have e2:=zb5 hB g4 e.ok
    exact e2.out.trans (h4.out hB e2.ok)
theorem y6e {x:Nd} {d:Nat} {p:List Int} {r1:Rres} (h1:12<=x.kind) (h2:x.kind<=15) (h:z4k (z1p u d) (z35 u d) (mSum u d) x p a s=some r1):r1=((x.kind,p),a,s) :=
  z4l h (by rcases (show x.kind=12∨x.kind=13∨x.kind=14∨x.kind=15 by omega) with e | e | e | e<;>rw [e]<;>rfl)
theorem zf0 {x:Nd} (hB:B<=4611686018427387903) (h1:12<=x.kind) (h2:x.kind<=15) (h:KRun u D (x::l) K a s r) (ho:Oks B s) (hl:Live s) :
    (s.fuel<1/\r=((0,[]),a,gone s))∨(1<=s.fuel/\∃ p,mOf a x.args=some p/\KFin u D K ((x.kind,p),a,dec s) r):=by
  rcases zj7 hB h ho hl with h3 | ⟨h3,d1,p,r1,hd,h4,h5,h6⟩
  ·exact .inl h3
  obtain rfl:=y6e h1 h2 h5
  refine .inr ⟨h3,p,h4,?_⟩
  rcases h6 with ⟨h6,_⟩ | ⟨_,_,h6⟩ | ⟨_,h6,_⟩
  ·have:z11 (dec s)=false:=z0r hl
   rw [show ((x.kind,p),a,dec s).2.2=dec s from rfl,this] at h6
   cases h6
  ·exact h6
  exact absurd h6 (by show x.kind≠0;omega)
theorem zv6 {y:Nd} {f:KF} (hB:B<=4611686018427387903) (hy:y.kind=f.k) (hf:f.k=12∨f.k=14) (h:KRun u D (y::l) (f::K) a s r) (ho:Oks B s) (hl:Live s) :
    (s.fuel<1/\r=((0,[]),a,gone s))∨(1<=s.fuel/\∃ p a2,mOf a y.args=some p/\mSet a f.outs p=some a2/\KRun u D f.rest K a2 (dec s) r):=by
  rcases zf0 hB oM0 oM0 h ho hl with h3 | ⟨h3,p,h4,h5⟩
  ·exact .inl h3
  unfold KFin at h5
  rw [show (((y.kind,p),a,dec s):Rres).1.1=f.k from hy,if_neg oM0,if_pos rfl] at h5
  obtain ⟨a2,d,r2,g1,g2,g3,g4⟩:=h5
  exact .inr ⟨h3,p,a2,h4,g2,d,r2,g1,g3,g4⟩
theorem y18 {x:Nd} {q0 q1:List Nd} (hB:B<=4611686018427387903) (hx:x.kind=10) (hq:x.kids=[q0,q1]) (h:KRun u D (x::l) K a s r) (ho:Oks B s) (hl:Live s) :
    (s.fuel<1/\r=((0,[]),a,gone s))∨(1<=s.fuel/\∃ q,(q=q0∨q=q1)/\KRun u D q (⟨12,x.outs,l⟩::K) a (dec s) r):=by
  rcases zj7 hB h ho hl with h1 | ⟨h1,d1,p,r1,hd,h2,h3,h4⟩
  ·exact .inl h1
  have ho1:=(z3u ho h1).1
  obtain ⟨a0,q,r2,_,g2,g3,g4⟩:=zc5 h3 (by rw [hx];rfl)
  refine .inr ⟨h1,q,?_,d1,r2,by omega,g3,?_⟩
  ·rw [hq] at g2
   by_cases e:(a0 != 0)=true
   ·rw [if_pos e] at g2;exact .inl (by simpa using g2.symm)
   rw [if_neg e] at g2;exact .inr (by simpa using g2.symm)
  have e:=z69 hB g3 ho1
  cases hov:z11 r2.2.2 with
  | true =>
    rw [hov] at g4
    cases g4
    rw [if_pos rfl]
    rcases h4 with ⟨_,h4⟩ | ⟨h4,_⟩ | ⟨h4,_⟩
    ·exact h4
    ·rw [z0r h4] at hov;cases hov
    rw [z0r h4] at hov;cases hov
  | false =>
    rw [hov] at g4
    rw [if_neg dC0]
    unfold KFin
    by_cases k15:r2.1.1=15
    ·rw [k15] at g4
     cases g4
     rw [if_pos k15]
     rcases h4 with ⟨h4,_⟩ | ⟨_,_,h4⟩ | ⟨_,h4,_⟩
     ·rw [hov] at h4;cases h4
     ·cases K with
      | nil=>exact h4
      | cons f K=>unfold KFin at h4;rw [if_pos k15] at h4;exact h4
     rw [k15] at h4;exact absurd h4 dC0
    rw [if_neg k15]
    by_cases k12:r2.1.1=12
    ·rw [if_pos k12]
     rw [k12] at g4
     obtain ⟨v3,g5,rfl⟩:=Option.map_eq_some_iff.1 g4
     rcases h4 with ⟨h4,_⟩ | ⟨_,h4,_⟩ | ⟨_,_,d3,r3,h6,h7,h8⟩
     ·rw [show (((0,[]),v3,r2.2.2):Rres).2.2=r2.2.2 from rfl,hov] at h4;cases h4
     ·exact absurd rfl h4
     exact ⟨v3,d3,r3,h6,g5,h7,h8⟩
    rw [if_neg k12]
    have n12:(!false&&r2.1.1==12)=false:=by simpa using k12
    rw [n12,if_neg dC0] at g4
    cases g4
    exact h4.out hB e.ok
end
end
def MG (u:Un) (f:Fl) (l:List Nd):Prop:=∀ (deep:Int) (w:Wh) (all all':List Int),SubL all all'->vGo u f deep w all l=true->vGo u f deep w all' l=true
theorem MG.list {u:Un} {f:Fl} {l:List Nd} (h:MG u f l) {deep:Int} {w:Wh} {all all':List Int} (hs:SubL all all') (hv:z2j u f deep w all l=true):z2j u f deep w all' l=true:=by
  simp only [z2j,Bool.and_eq_true] at hv ⊢
  exact ⟨hv.1,h deep w all all' hs hv.2⟩
theorem zp1 (u:Un) (f:Fl) (x:Nd) (ih:∀ q∈x.kids,MG u f q) (deep:Int) (w:Wh) (s s':List Int) (hs:SubL s s') (h:z3s u f deep w s x=true):z3s u f deep w s' x=true:=by
  have hb:=z1x u f deep w s h
  by_cases h10:x.kind=10
  ·obtain ⟨a,b,hk⟩:=z34 hb h10
   rw [z46 u f deep w _ hb h10 hk] at h ⊢
   simp only [Bool.and_eq_true] at h ⊢
   exact ⟨⟨⟨⟨z71 hs h.1.1.1.1,(ih a (by rw [hk];simp)).list hs h.1.1.1.2⟩,(ih b (by rw [hk];simp)).list hs h.1.1.2⟩,h.1.2⟩,h.2⟩
  by_cases h11:x.kind=11
  ·obtain ⟨a,hk⟩:=z1o hb h11
   rw [z2d u f deep w _ hb h11 hk] at h ⊢
   simp only [Bool.and_eq_true] at h ⊢
   exact ⟨⟨⟨⟨z71 hs h.1.1.1.1,h.1.1.1.2⟩,(ih a (by rw [hk];simp)).list (hs.app (.refl _)) h.1.1.2⟩,h.1.2⟩,h.2⟩
  have e10:(x.kind==10)=false:=by simpa using h10
  have e11:(x.kind==11)=false:=by simpa using h11
  rw [z1r u f deep w _ hb e10 e11] at h ⊢
  exact y7h hs h
theorem y99 (u:Un) (f:Fl):∀ (l:List Nd),(∀ x∈l,∀ q∈x.kids,MG u f q)->MG u f l
  | [],_=>fun _ _ _ _ _ _=>by simp [vGo]
  | x::r,ih=>fun deep w all all' hs h=>by
    simp only [vGo,Bool.and_eq_true] at h ⊢
    exact ⟨⟨⟨h.1.1.1,zp1 u f x (ih x (.head _)) _ _ _ _ hs h.1.1.2⟩,h.1.2⟩,y99 u f r (fun y hy=>ih y (.tail _ hy)) _ _ _ _ (hs.app (.refl _)) h.2⟩
theorem mg_all (u:Un) (f:Fl):∀ (N:Nat) (l:List Nd),SizeOf.sizeOf l<N->MG u f l
  | 0,_,h=>absurd h (Nat.not_lt_zero _)
  | N+1,l,hN=>y99 u f l fun x hx q hq=>mg_all u f N q (Nat.lt_of_lt_of_le (z6p hx rfl hq) (Nat.le_of_lt_succ hN))
theorem mg (u:Un) (f:Fl) (l:List Nd):MG u f l:=mg_all u f _ l (Nat.lt_succ_self _)
def vPre (u:Un) (f:Fl) (deep:Int) (w:Wh) (all:List Int):List Nd->Bool
  | []=>true
  | x::r=>!decide (deep > 100)&&z3s u f deep w all x && !z04 x&&vPre u f deep w (all++x.outs) r
theorem go_app (u:Un) (f:Fl) (deep:Int) (w:Wh):∀ (A T:List Nd) (all:List Int),T≠[]->vPre u f deep w all A=true->vGo u f deep w (all++A.flatMap Nd.outs) T=true->vGo u f deep w all (A++T)=true
  | [],T,all,_,_,h=>by simpa using h
  | x::r,T,all,hT,h1,h2=>by
    simp only [vPre,Bool.and_eq_true] at h1
    simp only [List.cons_append,vGo,Bool.and_eq_true]
    refine ⟨⟨h1.1.1,?_⟩,go_app u f deep w r T (all++x.outs) hT h1.2 (by rw [List.flatMap_cons,<- List.append_assoc] at h2;exact h2)⟩
    have hc:z04 x=false:=by simpa using h1.1.2
    have he:(r++T).isEmpty=false:=by
      cases r with
      | nil=>cases T with
        | nil=>exact absurd rfl hT
        | cons _ _=>rfl
      | cons _ _=>rfl
    rw [hc,he];rfl
theorem zt2 {l:List Int} (h:l.length=1) (v:Int) (hv:l.contains v=true):v=l.headD 0:=by
  match l,h with
  | [a],_=>simpa using hv
theorem y3y (u:Un) (f:Fl) (dI dO:Int) (wI wO:Wh) (hdO:¬ dO > 100):∀ (l:List Nd) (V S vs:List Int),vGo u f dI wI V l=true->(∀ v,V.contains v=true->S.contains v=true∨vs.contains v=true) ->
    vPre u f dO wO S (z0n vs l).1=true/\(∀ V',SubL V V'->SubL ((z0n vs l).1.flatMap Nd.outs) V'->vGo u f dI wI V' (z0n vs l).2=true)/\(l≠[]->(z0n vs l).2≠[])
  | [],V,S,vs,_,_=>⟨rfl,fun _ _ _=>rfl,fun h=>absurd rfl h⟩
  | x::r,V,S,vs,h,hV=>by
    have h0:=h
    simp only [vGo,Bool.and_eq_true] at h
    obtain ⟨⟨⟨hd,hx⟩,hc⟩,hr⟩:=h
    have hb:=z1x u f dI wI V hx
    unfold z0n
    by_cases hm:z0x x=true
    ·rw [if_pos hm]
     obtain ⟨e10,e11,hcl,_⟩:=z85 hm
     have hne:r≠[]:=by
       intro e;subst e
       rw [hcl] at hc;simp at hc
     have hx2:=hx
     rw [z1r u f dI wI V hb e10 e11] at hx2
     by_cases ha:x.args.any (fun v=>vs.contains v)=true
     ·rw [if_pos ha]
      obtain ⟨_,hol⟩:=za9 (s':=V) (w':=wI) hm (fun _ _ h=>h) hx2
      obtain ⟨i1,i2,i3⟩:=y3y u f dI dO wI wO hdO r (V++x.outs) S (vs++[x.outs.headD 0]) hr (fun v hv=>by
        rw [List.contains_append,Bool.or_eq_true] at hv
        rw [List.contains_append,Bool.or_eq_true]
        rcases hv with hv | hv
        · exact (hV v hv).imp_right .inl
        · have:=zt2 hol v hv
          exact .inr (.inr (by rw [this];simp)))
      refine ⟨i1,fun V' h1 h2=>?_,fun _=>by simp⟩
      have hR:=i3 hne
      have hRe:(z0n (vs++[x.outs.headD 0]) r).2.isEmpty=false:=by
        cases hq:(z0n (vs++[x.outs.headD 0]) r).2 with
        | nil=>exact absurd hq hR
        | cons _ _=>rfl
      simp only [vGo,Bool.and_eq_true]
      refine ⟨⟨⟨hd,zp1 u f x (fun q _=>mg u f q) _ _ _ _ h1 hx⟩,by rw [hcl,hRe];rfl⟩,i2 (V'++x.outs) (h1.app (.refl _)) (fun v hv=>?_)⟩
      rw [List.contains_append,h2 v hv];rfl
     rw [if_neg ha]
     have hargs:∀ v∈x.args,V.contains v=true->S.contains v=true:=fun v hv hVv=>by
       rcases hV v hVv with h | h
       ·exact h
       exact absurd (List.any_eq_true.2 ⟨v,hv,h⟩) ha
     obtain ⟨hmv,_⟩:=za9 (s':=S) (w':=wO) hm hargs hx2
     obtain ⟨i1,i2,i3⟩:=y3y u f dI dO wI wO hdO r (V++x.outs) (S++x.outs) vs hr (fun v hv=>by
       rw [List.contains_append,Bool.or_eq_true] at hv
       rw [List.contains_append,Bool.or_eq_true]
       rcases hv with hv | hv
       · exact (hV v hv).imp_left .inl
       · exact .inl (.inr hv))
     refine ⟨?_,fun V' h1 h2=>?_,fun _=>i3 hne⟩
     ·simp only [vPre,Bool.and_eq_true]
      refine ⟨⟨⟨by simpa using hdO,?_⟩,by rw [hcl];rfl⟩,i1⟩
      rw [z1r u f dO wO S hb e10 e11]
      exact hmv
     refine i2 V' (fun v hv=>?_) (fun v hv=>h2 v (by rw [List.flatMap_cons,List.contains_append,hv,Bool.or_true]))
     rw [List.contains_append,Bool.or_eq_true] at hv
     rcases hv with hv | hv
     ·exact h1 v hv
     exact h2 v (by rw [List.flatMap_cons,List.contains_append,hv];rfl)
    rw [if_neg hm]
    refine ⟨rfl,fun V' h1 _=>mg u f (x::r) dI wI V V' h1 h0,fun _=>by simp⟩
def HP (u:Un) (f:Fl) (l:List Nd):Prop:=∀ (deep:Int) (w:Wh) (all all':List Int),SubL all all'->vGo u f deep w all l=true->vGo u f deep w all' (z0u l)=true
theorem HP.list {u:Un} {f:Fl} {l:List Nd} (h:HP u f l) {deep:Int} {w:Wh} {all all':List Int} (hs:SubL all all') (hv:z2j u f deep w all l=true):z2j u f deep w all' (z0u l)=true:=by
  simp only [z2j,Bool.and_eq_true] at hv ⊢
  refine ⟨?_,h deep w all all' hs hv.2⟩
  have hne:l≠[]:=by intro e;subst e;simp at hv
  cases hq:z0u l with
  | nil=>exact absurd hq (zy2 hne)
  | cons _ _=>rfl
theorem zm2 {kind op n:Int} {name:ByteArray} {args outs params:List Int} {ks ks':List (List Nd)} (h:ks'.length=ks.length):z10 (.mk kind op n name args outs params ks')=z10 (.mk kind op n name args outs params ks):=by
  unfold z10 r8op y42 zr0 r8kn
  simp only [Nd.kind,Nd.op,Nd.n,Nd.name,Nd.kids,Nd.params]
  rw [h]
  rfl
theorem node_h (u:Un) (f:Fl) (x:Nd) (ih:∀ q∈x.kids,HP u f q) (deep:Int) (w:Wh) (all all':List Int) (hd:¬ deep > 100) (hs:SubL all all') (h:z3s u f deep w all x=true) :
    ∃ A y,z2p x=A++[y]/\vPre u f deep w all' A=true/\z3s u f deep w (all'++A.flatMap Nd.outs) y=true/\z04 y=z04 x/\y.outs=x.outs:=by
  have hb:=z1x u f deep w all h
  by_cases h10:x.kind=10
  ·obtain ⟨a,b,hk⟩:=z34 hb h10
   rw [z46 u f deep w all hb h10 hk] at h
   simp only [Bool.and_eq_true] at h
   have ha:=(ih a (by rw [hk];simp)).list hs h.1.1.1.2
   have hbb:=(ih b (by rw [hk];simp)).list hs h.1.1.2
   have hla:=y9l a
   have hlb:=y9l b
   cases x with
   | mk kind op n name args outs params ks =>
     simp only [Nd.kind,Nd.kids] at h10 hk
     subst h10 hk
     refine ⟨[],.mk 10 op n name args outs params [z0u a,z0u b],rfl,rfl,?_,?_,rfl⟩
     ·rw [List.flatMap_nil,List.append_nil]
      have hb2:z10 (.mk 10 op n name args outs params [z0u a,z0u b])=true:=(zm2 (ks:=[a,b]) (ks':=[z0u a,z0u b]) rfl).trans hb
      rw [z46 u f deep w all' hb2 rfl rfl]
      simp only [Bool.and_eq_true]
      refine ⟨⟨⟨⟨z71 hs h.1.1.1.1,ha⟩,hbb⟩,?_⟩,h.2⟩
      have ho:=h.1.2
      unfold zg8 z04 at ho ⊢
      simpa [Nd.kind,Nd.kids,Nd.outs,kid0,kid1,hla,hlb] using ho
     simp [z04,Nd.kind,Nd.kids,kid0,kid1,hla,hlb]
  by_cases h11:x.kind=11
  ·obtain ⟨a,hk⟩:=z1o hb h11
   rw [z2d u f deep w all hb h11 hk] at h
   simp only [Bool.and_eq_true] at h
   have hIH:=(ih a (by rw [hk];simp)).list (SubL.refl (all++x.params)) h.1.1.2
   simp only [z2j,Bool.and_eq_true] at hIH
   have hne:z0u a≠[]:=by intro e;rw [e] at hIH;simp at hIH
   obtain ⟨p1,p2,p3⟩:=y3y u f (deep+1) deep (w2 f x) w hd (z0u a) (all++x.params) all' x.params hIH.2 (fun v hv=>by
     rw [List.contains_append,Bool.or_eq_true] at hv
     exact hv.imp_left (hs v))
   obtain ⟨l1,l2⟩:=z79 (z0u a) x.params
   have l3:=z9x a
   cases x with
   | mk kind op n name args outs params ks =>
     simp only [Nd.kind,Nd.kids] at h11 hk
     subst h11 hk
     simp only [Nd.params] at p1 p2 p3 l2 h
     refine ⟨(z0n params (z0u a)).1,.mk 11 op n name args outs params [(z0n params (z0u a)).2],rfl,p1,?_,?_,rfl⟩
     ·have hb2:z10 (.mk 11 op n name args outs params [(z0n params (z0u a)).2])=true:=(zm2 (ks:=[a]) (ks':=[(z0n params (z0u a)).2]) rfl).trans hb
      rw [z2d u f deep w _ hb2 rfl rfl]
      simp only [Bool.and_eq_true,z2j,Nd.params,Nd.args,Nd.outs] at h ⊢
      refine ⟨⟨⟨⟨z71 hs.left h.1.1.1.1,h.1.1.1.2⟩,?_,?_⟩,?_⟩,h.2⟩
      ·cases hq:(z0n params (z0u a)).2 with
       | nil=>exact absurd hq (p3 hne)
       | cons _ _=>rfl
      ·exact p2 _ (hs.left.app (.refl _)) (fun v hv=>by rw [List.contains_append,List.contains_append,hv,Bool.or_true,Bool.true_or])
      have ho:=h.1.2
      unfold zg8 z04 at ho ⊢
      simpa [Nd.kind,Nd.kids,Nd.outs,kid0,l2,l3] using ho
     simp [z04,Nd.kind,Nd.kids,kid0,l2,l3]
  have e10:(x.kind==10)=false:=by simpa using h10
  have e11:(x.kind==11)=false:=by simpa using h11
  have hk0:=z6o hb e10 e11
  have hx:z2p x=[x]:=by
    cases x with
    | mk kind op n name args outs params ks =>
      simp only [Nd.kind,Nd.kids] at e11 hk0
      subst hk0
      simp [z2p,hOut,z2e,e11]
  refine ⟨[],x,hx,rfl,?_,rfl,rfl⟩
  rw [List.flatMap_nil,List.append_nil]
  exact zp1 u f x (fun q _=>mg u f q) _ _ _ _ hs h
theorem go_h (u:Un) (f:Fl):∀ (l:List Nd),(∀ x∈l,∀ q∈x.kids,HP u f q)->HP u f l
  | [],_=>fun _ _ _ _ _ _=>by simp [z0u,vGo]
  | x::r,ih=>fun deep w all all' hs h=>by
    simp only [vGo,Bool.and_eq_true] at h
    obtain ⟨⟨⟨hd,hx⟩,hc⟩,hr⟩:=h
    obtain ⟨A,y,e,hA,hy,hcy,hoy⟩:=node_h u f x (ih x (.head _)) deep w all all' (by simpa using hd) hs hx
    rw [show z0u (x::r)=z2p x++z0u r from rfl,e,List.append_assoc]
    refine go_app u f deep w A _ all' sI0 hA ?_
    simp only [List.singleton_append,vGo,Bool.and_eq_true]
    refine ⟨⟨⟨hd,hy⟩,?_⟩,go_h u f r (fun z hz=>ih z (.tail _ hz)) deep w (all++x.outs) _ (by rw [hoy];exact hs.left.app (.refl _)) hr⟩
    rw [hcy]
    have he:(z0u r).isEmpty=r.isEmpty:=by
      cases r with
      | nil=>rfl
      | cons z r' =>
        cases hq:z0u (z::r') with
        | nil=>exact absurd hq (zy2 sI0)
        | cons _ _=>rfl
    rw [he];exact hc
theorem hp_all (u:Un) (f:Fl):∀ (N:Nat) (l:List Nd),SizeOf.sizeOf l<N->HP u f l
  | 0,_,h=>absurd h (Nat.not_lt_zero _)
  | N+1,l,hN=>go_h u f l fun x hx q hq=>hp_all u f N q (Nat.lt_of_lt_of_le (z6p hx rfl hq) (Nat.le_of_lt_succ hN))
theorem y50 (u:Un) (f:Fl) {deep:Int} {w:Wh} {all:List Int} {l:List Nd} (h:z2j u f deep w all l=true):z2j u f deep w all (z0u l)=true :=
  (hp_all u f _ l (Nat.lt_succ_self _)).list (SubL.refl _) h
theorem zh0 (name:ByteArray):∀ (l:List Fl) (i:Int),z02 name (l.map z3y) i=z02 name l i
  | [],_=>rfl
  | f::r,i=>by
    have ih:=zh0 name r (i+1)
    unfold z02
    rw [List.map_cons]
    simp only [ih]
    rfl
theorem sForm_h (u:Un) (f:Fl) (x:Nd) (s:List Int) (w:Wh):z3d (z3l u) (z3y f) x s w=z3d u f x s w:=by
  unfold z3d
  simp only [z3l,z3y,zh0,List.getElem?_map]
  cases u.flows[(z02 x.name u.flows 0).toNat]? with
  | none=>rfl
  | some g=>rfl
mutual
theorem vNode_h (u:Un) (f:Fl):∀ (x:Nd) (deep:Int) (w:Wh) (s:List Int),z3s (z3l u) (z3y f) deep w s x=z3s u f deep w s x
  | .mk kind op n name args outs params ks,deep,w,s=>by
    unfold z3s
    rw [sForm_h]
    match ks with
    | []=>rfl
    | [a] =>
      have h1:=y4z u f a (deep+1) (w2 f (.mk kind op n name args outs params [a])) (s++params)
      simp only [show w2 (z3y f) (.mk kind op n name args outs params [a])=w2 f (.mk kind op n name args outs params [a]) from rfl,h1]
      rfl
    | a::b::r =>
      have h1:=y4z u f a (deep+1) (w2 f (.mk kind op n name args outs params (a::b::r))) (s++params)
      have h2:=y4z u f a (deep+1) (w1 w f (.mk kind op n name args outs params (a::b::r))) s
      have h3:=y4z u f b (deep+1) (w1 w f (.mk kind op n name args outs params (a::b::r))) s
      simp only [show w2 (z3y f) (.mk kind op n name args outs params (a::b::r))=w2 f (.mk kind op n name args outs params (a::b::r)) from rfl,show w1 w (z3y f) (.mk kind op n name args outs params (a::b::r))=w1 w f (.mk kind op n name args outs params (a::b::r)) from rfl,h1,h2,h3]
      rfl
theorem y4z (u:Un) (f:Fl):∀ (l:List Nd) (deep:Int) (w:Wh) (s:List Int),vGo (z3l u) (z3y f) deep w s l=vGo u f deep w s l
  | [],_,_,_=>by simp [vGo]
  | x::r,deep,w,s=>by
    unfold vGo
    rw [vNode_h u f x,y4z u f r]
end
theorem flow_h {u:Un} {f:Fl} (h:z33 u f=true):z33 (z3l u) (z3y f)=true:=by
  unfold z33 at h ⊢
  simp only [Bool.and_eq_true] at h ⊢
  obtain ⟨h1,h2⟩:=h
  refine ⟨h1,?_⟩
  have hp:f.params.toNat<=f.types.length:=by
    have a1:=h1.1.1.1.1
    have a2:=h1.1.1.2
    simp only [Bool.not_eq_true',decide_eq_false_iff_not] at a1 a2
    omega
  have hn:(z32 f.params.toNat f.types.length).length=f.types.length:=z1z hp
  rw [z4w u f f.body 1 z14 _ _ hn] at h2
  show (z1l (z3l u) (z3y f) 1 z14 (iota f.params.toNat) (z32 f.params.toNat f.types.length) (z0u f.body)).1=true
  rw [z4w (z3l u) (z3y f) (z0u f.body) 1 z14 _ _ hn]
  have hv:=y50 u f h2.1
  simp only [z2j,Bool.and_eq_true] at hv ⊢
  exact ⟨⟨hv.1,by rw [y4z];exact hv.2⟩,h2.2.perm (zf8 f.body).symm⟩
theorem gA_h (u:Un):∀ (l:List Ar) (i:Int),r8gA (z3l u) l i=r8gA u l i
  | [],_=>rfl
  | a::r,i=>by
    have h1:gArr (z3l u) a i=gArr u a i:=by simp only [gArr,z3l,zh0]
    simp only [r8gA,gA_h u r,h1]
theorem gF_h (u:Un):∀ (l:List Fl) (i:Int),r8gF (z3l u) (l.map z3y) i=r8gF u l i
  | [],_=>rfl
  | a::r,i=>by
    have h1:gFlw (z3l u) (z3y a) i=gFlw u a i:=by
      simp only [gFlw,z3l,zh0]
      rfl
    simp only [List.map_cons,r8gF,gF_h u r,h1]
theorem zv1 (l:List Fl) (k:Nat):((l.map z3y).getD k y15).ty=(l.getD k y15).ty/\((l.map z3y).getD k y15).params=(l.getD k y15).params:=by
  simp only [List.getD_eq_getElem?_getD,List.getElem?_map]
  cases l[k]? with
  | none=>exact ⟨rfl,rfl⟩
  | some g=>exact ⟨rfl,rfl⟩
theorem y98 (u:Un):z12 (z3l u)=z12 u:=by
  unfold z12
  rw [show (z3l u).arrays=u.arrays from rfl,show (z3l u).flows=u.flows.map z3y from rfl,gA_h,gF_h]
  unfold z6f
  rw [show (z3l u).flows=u.flows.map z3y from rfl,zh0,(zv1 _ _).1,(zv1 _ _).2]
theorem y17 (u:Un):∀ (l:List Fl) (i:Int),(z4n u l i).1=0↔∀ f∈l,z33 u f=true
  | [],_=>by simp [z4n]
  | f::r,i=>by
    unfold z4n
    cases h:z33 u f with
    | false=>simp [h]
    | true=>simp [h,y17 u r (i+1)]
theorem zu6 (u:Un):∀ (l:List Fl) (i:Int),(∀ f∈l,z33 u f=true)->z4n u l i=(0,0)
  | [],_,_=>rfl
  | f::r,i,h=>by
    unfold z4n
    rw [if_pos (h f (.head _))]
    exact zu6 u r (i+1) fun g hg=>h g (.tail _ hg)
theorem z51 (u:Un):(z19 u).1=0↔z12 u=true/\∀ f∈u.flows,z33 u f=true:=by
  unfold z19
  cases h:z12 u with
  | false=>simp
  | true=>simp [y17]
theorem z9q {u:Un} (h:(z19 u).1=0):z19 (z3l u)=(0,0):=by
  obtain ⟨h1,h2⟩:=(z51 u).1 h
  unfold z19
  rw [y98,h1,if_pos rfl]
  refine zu6 (z3l u) _ 0 fun g hg=>?_
  obtain ⟨f,hf,rfl⟩:=List.mem_map.1 hg
  exact flow_h (h2 f hf)
mutual
theorem y9u (u:Un) (f:Fl):∀ (x:Nd) (deep:Int) (w:Wh) (s:List Int),z3s u f deep w s x=true->hOkN x=true
  | .mk kind op n name args outs params ks,deep,w,s,h=>by
    have hb:=z1x u f deep w s h
    simp only [hOkN,Bool.and_eq_true]
    refine ⟨⟨?_,?_⟩,?_⟩
    ·cases hm:z0x (.mk kind op n name args outs params ks) with
     | false=>rfl
     | true =>
       obtain ⟨e10,e11,_,_⟩:=z85 hm
       rw [z1r u f deep w s hb e10 e11] at h
       obtain ⟨_,hl⟩:=za9 (s':=s) (w':=w) hm (fun _ _ h=>h) h
       simp only [Nd.outs] at hl
       cases outs with
       | nil=>simp at hl
       | cons _ _=>rfl
    ·cases hk:(kind==11) with
     | false=>simp [bne,hk]
     | true =>
       obtain ⟨a,ha⟩:=z1o hb (show kind=11 by simpa using hk)
       simp only [Nd.kids] at ha
       simp [ha]
    by_cases h10:kind=10
    ·obtain ⟨a,b,hk⟩:=z34 hb h10
     rw [z46 u f deep w s hb h10 hk] at h
     simp only [Bool.and_eq_true,z2j] at h
     simp only [Nd.kids] at hk
     match ks,hk with
     | [a',b'],hk =>
       cases hk
       simp only [hOkK,Bool.and_eq_true,Bool.and_true]
       exact ⟨z8g u f a _ _ _ h.1.1.1.2.2,z8g u f b _ _ _ h.1.1.2.2⟩
    by_cases h11:kind=11
    ·obtain ⟨a,hk⟩:=z1o hb h11
     rw [z2d u f deep w s hb h11 hk] at h
     simp only [Bool.and_eq_true,z2j] at h
     simp only [Nd.kids] at hk
     match ks,hk with
     | [a'],hk =>
       cases hk
       simp only [hOkK,Bool.and_true]
       exact z8g u f a _ _ _ h.1.1.2.2
    have hk0:=z6o hb (show (kind==10)=false by simpa using h10) (show (kind==11)=false by simpa using h11)
    simp only [Nd.kids] at hk0
    rw [hk0];rfl
theorem z8g (u:Un) (f:Fl):∀ (l:List Nd) (deep:Int) (w:Wh) (s:List Int),vGo u f deep w s l=true->hOkL l=true
  | [],_,_,_,_=>rfl
  | x::r,deep,w,s,h=>by
    simp only [vGo,Bool.and_eq_true] at h
    simp only [hOkL,Bool.and_eq_true]
    exact ⟨y9u u f x _ _ _ h.1.1.2,z8g u f r _ _ _ h.2⟩
end
theorem zo0 {u:Un} (h:(z49 u).1=0):∀ f∈u.flows,hOkL f.body=true:=by
  rw [z9b] at h
  intro f hf
  have hF:=((z51 u).1 h).2 f hf
  unfold z33 at hF
  simp only [Bool.and_eq_true] at hF
  obtain ⟨h1,h2⟩:=hF
  have hp:f.params.toNat<=f.types.length:=by
    have a1:=h1.1.1.1.1
    have a2:=h1.1.1.2
    simp only [Bool.not_eq_true',decide_eq_false_iff_not] at a1 a2
    omega
  have hn:(z32 f.params.toNat f.types.length).length=f.types.length:=z1z hp
  rw [z4w u f f.body 1 z14 _ _ hn] at h2
  have hv:=h2.1
  simp only [z2j,Bool.and_eq_true] at hv
  exact z8g u f f.body _ _ _ hv.2
theorem z8w:∀ (a b:List Nd),wtL (a++b)=wtL a+wtL b
  | [],b=>by simp [wtL]
  | x::r,b=>by simp only [List.cons_append,wtL,z8w r b];omega
theorem y53:∀ (l:List Nd) (vs:List Int),wtL (z0n vs l).1+wtL (z0n vs l).2=wtL l
  | [],_=>rfl
  | x::r,vs=>by
    unfold z0n
    split
    ·split
     ·have:=y53 r (vs++[x.outs.headD 0]);simp only [wtL];omega
     have:=y53 r vs;simp only [wtL];omega
    simp [wtL]
mutual
theorem wt_node:∀ x:Nd,(z2p x).length+wtL (z2p x)=1+wtN x
  | .mk kind op n name args outs params ks=>by
    have hk:=yh9 ks
    unfold z2p hOut
    split
    ·cases hq:z2e ks with
     | nil=>rw [hq] at hk;simp only [wtL,wtN,List.length_cons,List.length_nil] at hk ⊢;omega
     | cons b r =>
       rw [hq] at hk
       have h1:=y53 b params
       have h2:=zc1 b params
       simp only [z8w,wtL,wtN,wtK,List.length_append,List.length_cons,List.length_nil] at hk ⊢
       omega
    simp only [wtL,wtN,List.length_cons,List.length_nil];omega
theorem y52:∀ l:List Nd,(z0u l).length+wtL (z0u l)=l.length+wtL l
  | []=>rfl
  | x::r=>by
    have h1:=wt_node x
    have h2:=y52 r
    simp only [z0u,z8w,wtL,List.length_append,List.length_cons]
    omega
theorem yh9:∀ ks:List (List Nd),wtK (z2e ks)=wtK ks
  | []=>rfl
  | l::r=>by
    have h1:=y52 l
    have h2:=yh9 r
    simp only [z2e,wtK]
    omega
end
theorem wtF_h:∀ l:List Fl,wtF (l.map z3y)=wtF l
  | []=>rfl
  | f::r=>by
    have h1:=y52 f.body
    have h2:=wtF_h r
    simp only [List.map_cons,wtF,za4,z3y] at h2 ⊢
    omega
theorem y69 (u:Un):z0s (z3l u)=z0s u:=by
  unfold z0s
  rw [show (z3l u).flows=u.flows.map z3y from rfl,wtF_h,List.length_map]
  rfl
def mkK (x:Nd) (ks:List (List Nd)):Nd:=.mk x.kind x.op x.n x.name x.args x.outs x.params ks
def hcs:List Nd->Nat
  | []=>0
  | x::r=>hc x+hcs r
inductive HR:List Nd->Nat->Nat->List Nd->List Nd->Prop
  | nil {H}:HR H 0 0 [] []
  | keep {H k c x l l'}:z0x x=true->l≠[]->HR H k c l l'->HR H k c (x::l) (x::l')
  | skip {H k c x l l'}:z0x x=true->x∈H->l≠[]->HR H k c l l'->HR H (k+1) (c+hc x) (x::l) l'
  | add {H k c x l l'}:z0x x=true->l≠[]->HR (x::H) (k+1) (c+hc x) l l'->HR H k c l (x::l')
  | eff {H x l l'}:z0x x=false->x.kind≠10->x.kind≠11->HR H 0 0 l l'->HR H 0 0 (x::l) (x::l')
  | ite {H x q0 q1 q0' q1' l l'}:x.kind=10->x.kids=[q0,q1]->HR H 0 0 q0 q0'->HR H 0 0 q1 q1'->HR H 0 0 l l'->HR H 0 0 (x::l) (mkK x [q0',q1']::l')
  | loop {H k c x q q' l l'}:x.kind=11->x.kids=[q]->HR H k c q q'->HR H 0 0 l l'->HR H k c (x::l) (mkK x [q']::l')
theorem HR.mono {H:List Nd} {k c:Nat} {l l':List Nd} (h:HR H k c l l'):∀ {H2:List Nd},(∀ x∈H,x∈H2)->HR H2 k c l l':=by
  induction h with
  | nil=>exact fun _=>.nil
  | keep h1 h2 _ ih=>exact fun hs=>.keep h1 h2 (ih hs)
  | skip h1 h2 h3 _ ih=>exact fun hs=>.skip h1 (hs _ h2) h3 (ih hs)
  | add h1 h2 _ ih=>exact fun hs=>.add h1 h2 (ih fun x hx=>(List.mem_cons.1 hx).elim (fun e=>e ▸ .head _) fun hx=>.tail _ (hs x hx))
  | eff h1 h2 h3 _ ih=>exact fun hs=>.eff h1 h2 h3 (ih hs)
  | ite h1 h2 _ _ _ i1 i2 i3=>exact fun hs=>.ite h1 h2 (i1 hs) (i2 hs) (i3 hs)
  | loop h1 h2 _ _ i1 i2=>exact fun hs=>.loop h1 h2 (i1 hs) (i2 hs)
theorem y9c {x:Nd} (h:x.kind=10∨x.kind=11):z0x x=false:=by
  cases hx:z0x x with
  | false=>rfl
  | true=>have:=z4s hx;omega
theorem zq2 {x:Nd} {l:List Nd} (vs:List Int) (h:z0x x=false):z0n vs (x::l)=([],x::l):=by
  unfold z0n;rw [h];simp
theorem part_HR {H:List Nd} {k c:Nat} {l l':List Nd} (h:HR H k c l l'):∀ vs:List Int,HR ((z0n vs l').1++H) (k+(z0n vs l').1.length) (c+hcs (z0n vs l').1) l (z0n vs l').2:=by
  induction h with
  | nil=>exact fun _=>.nil
  | @keep H k c x l l' h1 h2 h3 ih =>
    intro vs
    unfold z0n
    rw [if_pos h1]
    split
    ·exact .keep h1 h2 (ih _)
    have:=HR.skip (H:=x::((z0n vs l').1++H)) h1 (.head _) h2 ((ih vs).mono fun y hy=>.tail _ hy)
    have e1:k+(x::(z0n vs l').1).length=k+(z0n vs l').1.length+1:=by simp;omega
    have e2:c+hcs (x::(z0n vs l').1)=c+hcs (z0n vs l').1+hc x:=by simp [hcs];omega
    simp only [e1,e2]
    exact this
  | @skip H k c x l l' h1 h2 h3 h4 ih =>
    intro vs
    have:=HR.skip (H:=(z0n vs l').1++H) h1 (List.mem_append_right _ h2) h3 (ih vs)
    have e1:k+1+(z0n vs l').1.length=k+(z0n vs l').1.length+1:=by omega
    have e2:c+hc x+hcs (z0n vs l').1=c+hcs (z0n vs l').1+hc x:=by omega
    rw [e1,e2]
    exact this
  | @add H k c x l l' h1 h2 h3 ih =>
    intro vs
    unfold z0n
    rw [if_pos h1]
    split
    ·generalize vs++[x.outs.headD 0]=vs2
     have:=ih vs2
     have e1:k+1+(z0n vs2 l').1.length=k+(z0n vs2 l').1.length+1:=by omega
     have e2:c+hc x+hcs (z0n vs2 l').1=c+hcs (z0n vs2 l').1+hc x:=by omega
     rw [e1,e2] at this
     exact .add h1 h2 (this.mono fun y hy=>by
       rcases List.mem_append.1 hy with hy | hy
       · exact .tail _ (List.mem_append_left _ hy)
       · exact (List.mem_cons.1 hy).elim (fun e=>e ▸ .head _) fun hy=>.tail _ (List.mem_append_right _ hy))
    have:=ih vs
    have e1:k+(x::(z0n vs l').1).length=k+1+(z0n vs l').1.length:=by simp;omega
    have e2:c+hcs (x::(z0n vs l').1)=c+hc x+hcs (z0n vs l').1:=by simp [hcs];omega
    simp only [e1,e2]
    exact this.mono fun y hy=>by
      rcases List.mem_append.1 hy with hy | hy
      ·exact .tail _ (List.mem_append_left _ hy)
      exact (List.mem_cons.1 hy).elim (fun e=>e ▸ .head _) fun hy=>.tail _ (List.mem_append_right _ hy)
  | eff h1 h2 h3 h4=>intro vs;rw [zq2 vs h1];exact .eff h1 h2 h3 h4
  | ite h1 h2 h3 h4 h5=>intro vs;rw [zq2 vs (y9c (x:=mkK _ _) (.inl h1))];exact .ite h1 h2 h3 h4 h5
  | loop h1 h2 h3 h4=>intro vs;rw [zq2 vs (y9c (x:=mkK _ _) (.inr h1))];exact .loop h1 h2 h3 h4
theorem y3w:∀ (l:List Nd) (vs:List Int),∀ x∈(z0n vs l).1,z0x x=true
  | [],_,x,h=>by simp [z0n] at h
  | y::r,vs,x,h=>by
    unfold z0n at h
    split at h
    ·rename_i hy
     split at h
     ·exact y3w r _ x h
     rcases List.mem_cons.1 h with rfl | h
     ·exact hy
     exact y3w r _ x h
    simp at h
theorem HR.adds:∀ {A H:List Nd} {k c:Nat} {l l':List Nd},(∀ x∈A,z0x x=true)->l≠[]->HR (A++H) (k+A.length) (c+hcs A) l l'->HR H k c l (A++l')
  | [],_,_,_,_,_,_,_,h=>h
  | x::A,H,k,c,l,l',hA,hl,h=>by
    refine .add (hA x (.head _)) hl (HR.adds (A:=A) (fun y hy=>hA y (.tail _ hy)) hl ?_)
    have e1:k+1+A.length=k+(x::A).length:=by simp;omega
    have e2:c+hc x+hcs A=c+hcs (x::A):=by simp [hcs];omega
    rw [e1,e2]
    exact h.mono fun y hy=>by
      rcases List.mem_cons.1 hy with rfl | hy
      ·exact List.mem_append_right _ (.head _)
      rcases List.mem_append.1 hy with hy | hy
      ·exact List.mem_append_left _ hy
      exact List.mem_append_right _ (.tail _ hy)
theorem y1b {x:Nd} (h0:x.kids=[]) (h11:x.kind≠11):z2p x=[x]:=by
  have e:(x.kind==11)=false:=by simpa using h11
  rw [zc0,h0]
  unfold hOut
  rw [e]
  cases x
  simp only [Nd.kids] at h0
  subst h0
  simp [z2e,Nd.kind,Nd.op,Nd.n,Nd.name,Nd.args,Nd.outs,Nd.params]
theorem hNode_if {x:Nd} {a b:List Nd} (hk:x.kind=10) (h:x.kids=[a,b]):z2p x=[mkK x [z0u a,z0u b]]:=by
  rw [zc0,h]
  unfold hOut
  rw [hk]
  simp [z2e,mkK,hk]
theorem y6l {x:Nd} {q:List Nd} (hk:x.kind=11) (h:x.kids=[q]):z2p x=(z0n x.params (z0u q)).1++[mkK x [(z0n x.params (z0u q)).2]]:=by
  rw [zc0,h]
  unfold hOut
  rw [hk]
  simp [z2e,mkK,hk]
theorem zo5 (u:Un) (f:Fl):∀ (N:Nat) (l:List Nd),SizeOf.sizeOf l<N->∀ (deep:Int) (w:Wh) (S:List Int),vGo u f deep w S l=true->HR [] 0 0 l (z0u l)
  | 0,_,h,_,_,_,_=>absurd h (Nat.not_lt_zero _)
  | N+1,[],_,_,_,_,_=>by simp only [z0u];exact .nil
  | N+1,x::l,hN,deep,w,S,hv=>by
    unfold vGo at hv
    simp only [Bool.and_eq_true,beq_iff_eq] at hv
    obtain ⟨⟨⟨_,v2⟩,v3⟩,v4⟩:=hv
    have hsl:SizeOf.sizeOf l<N:=by have:SizeOf.sizeOf (x::l)=1+SizeOf.sizeOf x+SizeOf.sizeOf l:=rfl;omega
    have ihl:=zo5 u f N l hsl deep w _ v4
    have hb:=z1x u f deep w S v2
    have hkid:∀ q∈x.kids,SizeOf.sizeOf q<N:=fun q hq=>Nat.lt_of_lt_of_le (z6p (l:=x::l) (.head _) rfl hq) (Nat.le_of_lt_succ hN)
    have e:z0u (x::l)=z2p x++z0u l:=by simp only [z0u]
    rw [e]
    by_cases h10:x.kind=10
    ·obtain ⟨q0,q1,hk⟩:=z34 hb h10
     rw [z46 u f deep w S hb h10 hk] at v2
     simp only [Bool.and_eq_true,z2j] at v2
     rw [hNode_if h10 hk]
     exact .ite h10 hk (zo5 u f N q0 (hkid q0 (by rw [hk];simp)) _ _ _ v2.1.1.1.2.2) (zo5 u f N q1 (hkid q1 (by rw [hk];simp)) _ _ _ v2.1.1.2.2) ihl
    by_cases h11:x.kind=11
    ·obtain ⟨q,hk⟩:=z1o hb h11
     rw [z2d u f deep w S hb h11 hk] at v2
     simp only [Bool.and_eq_true,z2j] at v2
     rw [y6l h11 hk,List.append_assoc]
     have ihq:=part_HR (zo5 u f N q (hkid q (by rw [hk];simp)) _ _ _ v2.1.1.2.2) x.params
     exact HR.adds (y3w _ _) (List.cons_ne_nil _ _) (.loop h11 hk ihq (ihl.mono fun y hy=>by simp at hy))
    have e10:(x.kind==10)=false:=by simpa using h10
    have e11:(x.kind==11)=false:=by simpa using h11
    rw [y1b (z6o hb e10 e11) h11]
    cases hm:z0x x with
    | true =>
      have hc:=(z85 hm).2.2.1
      rw [hc] at v3
      exact .keep hm (by intro e;rw [e] at v3;cases v3) ihl
    | false=>exact .eff hm h10 h11 ihl
theorem use_in {tys seen:List Int}:∀ {l want:List Int},l.length=want.length->z0w tys seen l want=true->inR tys.length l
  | [],_,_,_=>fun v hv=>by simp at hv
  | _::_,[],h,_=>by simp at h
  | x::r,w::ws,h,hg=>by
    simp only [z0w,Bool.and_eq_true] at hg
    intro v hv
    rcases List.mem_cons.1 hv with rfl | hv
    ·obtain ⟨h1,h2⟩:=za5 hg.1
     exact ⟨h1,by omega⟩
    exact use_in (by simpa using h) hg.2 v hv
theorem ze2 {tys seen l want:List Int} (h:z01 tys seen l want=true):l.length=want.length/\inR tys.length l:=by
  simp only [z01,Bool.and_eq_true,beq_iff_eq] at h
  have:l.length=want.length:=by omega
  exact ⟨this,use_in this h.2⟩
theorem getV_tot {a:List Int} {i:Int} (h:0<=i/\i<a.length):∃ y,getV a i=some y:=by
  unfold getV
  rw [if_pos h.1]
  exact ⟨_,List.getElem?_eq_getElem oM0⟩
theorem y0d {a:List Int} {i y:Int} (h:0<=i/\i<a.length):∃ a2,setV a i y=some a2:=by
  unfold setV
  rw [if_pos ⟨h.1,by omega⟩]
  exact ⟨_,rfl⟩
theorem zz0 {a:List Int}:∀ {l:List Int},inR a.length l->∃ p,mOf a l=some p/\p.length=l.length
  | [],_=>⟨[],rfl,rfl⟩
  | i::r,h=>by
    obtain ⟨y,hy⟩:=getV_tot (h i (.head _))
    obtain ⟨p,hp,hl⟩:=zz0 (l:=r) fun v hv=>h v (.tail _ hv)
    exact ⟨y::p,by simp [mOf,hy,hp],by simp [hl]⟩
theorem zk9:∀ {l p a:List Int},inR a.length l->p.length=l.length->∃ a2,mSet a l p=some a2
  | [],_,a,_,_=>⟨a,rfl⟩
  | _::_,[],_,_,h=>by simp at h
  | i::r,y::p,a,h,hl=>by
    obtain ⟨a1,h1⟩:=y0d (y:=y) (h i (.head _))
    have hl1:=zl4 h1
    obtain ⟨a2,h2⟩:=zk9 (l:=r) (p:=p) (a:=a1) (fun v hv=>by rw [hl1];exact h v (.tail _ hv)) (by simpa using hl)
    exact ⟨a2,by simp [mSet,h1,h2]⟩
theorem zl2 {tys l:List Int} (h:inR tys.length l):(r8of tys l).length=l.length:=by
  unfold r8of
  have:l.all (z6n tys)=true:=List.all_eq_true.2 fun v hv=>by
    have:=h v hv
    simp only [z6n,Bool.and_eq_true,decide_eq_true_eq];omega
  rw [if_pos this,List.length_map]
theorem zw3 (name:ByteArray):∀ (l:List Ar) (i:Int),0<=i->z0f name l i ≥ 0->∃ k:Nat,z0f name l i=i+k/\k<l.length
  | [],i,_,h=>by simp [z0f] at h
  | f::r,i,hi,h=>by
    unfold z0f at h ⊢
    split
    ·exact ⟨0,by simp,by simp⟩
    rename_i hne
    rw [if_neg hne] at h
    obtain ⟨k,h1,h2⟩:=zw3 name r (i+1) oM0 h
    exact ⟨k+1,by omega,by simpa using h2⟩
structure Inv (n:Nat) (B M:Int) (s:Rs):Prop where
  ok:Oks B s
  out:(s.out.length:Int)+s.fuel<=M
  ar:s.ar.length=n
structure InvS (n:Nat) (B M:Int) (s:Rs):Prop where
  ok:Oks B s
  ok1:s.cost+s.fuel+1<=B
  out:(s.out.length:Int)+s.fuel+1<=M
  ar:s.ar.length=n
def EOk (w:Wh) (y lv:Bool) (r:Rres):Prop:=(r.1.1=12/\y=true/\w.If=true/\r.1.2.length=w.Yield.length)∨(r.1.1=13/\r.1.2.length=w.Next.length)∨(r.1.1=14/\lv=true/\r.1.2.length=w.Left.length)∨(r.1.1=15/\r.1.2.length=1)
def VF (u:Un) (g:Fl):Prop:=z2j u g 1 z14 (iota g.params.toNat) g.body=true/\g.types.length<=20000/\0<=g.params/\g.params<=g.types.length
theorem vf_of {u:Un} (h:(z19 u).1=0):∀ g∈u.flows,VF u g:=by
  intro g hg
  obtain ⟨h1,h2⟩:=(z51 u).1 h
  have hf:=h2 g hg
  have hp:=z45 h1 g hg
  unfold z33 at hf
  simp only [Bool.and_eq_true] at hf
  obtain ⟨⟨⟨⟨⟨f1,f2⟩,f3⟩,f4⟩,f5⟩,f6⟩:=hf
  simp only [Bool.not_eq_true',decide_eq_false_iff_not] at f1 f2 f3 f4
  rw [z4w u g g.body 1 z14 _ _ (z1z oM0)] at f6
  exact ⟨f6.1,by omega,hp.1,hp.2⟩
def SumOk (u:Un) (x:Nd) (k:Nat):Prop :=
  (x.kind=3->1<=k)/\(x.kind=4->2<=k)/\(x.kind=5->1<=k/\0<=z0f x.name u.arrays 0)/\(x.kind=6->2<=k/\0<=z0f x.name u.arrays 0) /\
  (x.kind=7->0<=z02 x.name u.flows 0/\∀ g,u.flows[(z02 x.name u.flows 0).toNat]? = some g->(k:Int)=g.params)/\(x.kind=9->1<=k)
theorem zi4 {p:List Int} {i:Nat} (h:i<p.length):∃ y,p[i]? = some y:=⟨_,List.getElem?_eq_getElem h⟩
theorem sum_tot {u:Un} {n:Nat} {B M:Int} (hB:B<=4611686018427387903) (hM:M<=1073741824) (hn:n=u.arrays.length) (hv:∀ g∈u.flows,VF u g) {d:Nat}
    (hC:∀ k p s,0<=k->(∃ g,u.flows[k.toNat]? = some g/\(p.length:Int)=g.params)->Inv n B M s->3*s.fuel+2<=d->∃ r,z3m u d k p s=some r/\Inv n B M r.2)
    (x:Nd) (p:List Int) (s:Rs) (hx:SumOk u x p.length) (hi:InvS n B M s) (hd:3*s.fuel+3<=((d+1:Nat):Int)):∃ r,mSum u (d+1) x p s=some r/\Inv n B M r.2:=by
  have e:=zi0 hB hi.ok
  have hb:Inv n B M (bmp s):=⟨⟨hi.ok.1,by have:=hi.ok.2.1;show 0<=s.cost+1;omega,by have:=hi.ok1;show s.cost+1+s.fuel<=B;omega⟩,by have:=hi.out;show (s.out.length:Int)+s.fuel<=M;omega,hi.ar⟩
  obtain ⟨x3,x4,x5,x6,x7,x9⟩:=hx
  have ne:∀ {i:Int},x.kind≠i->(x.kind==i)=false:=fun h=>beq_eq_false_iff_ne.2 h
  have cell:∀ {a0:Int},0<=z0f x.name u.arrays 0->∃ q,z89 (bmp s) (z0f x.name u.arrays 0) a0=some q/\((q.1=false/\q.2={ bmp s with st:=3 })∨(q.1=true/\q.2=bmp s/\∃ row y,s.ar[(z0f x.name u.arrays 0).toNat]? = some row/\row[a0.toNat]? = some y)):=by
    intro a0 hk
    obtain ⟨j,hj,hjl⟩:=zw3 x.name u.arrays 0 oM0 hk
    obtain ⟨row,hrow⟩:∃ row,s.ar[(z0f x.name u.arrays 0).toNat]? = some row:=⟨_,List.getElem?_eq_getElem (by rw [hi.ar];omega)⟩
    unfold z89
    by_cases h0:a0<0
    ·rw [if_pos h0];exact ⟨_,rfl,.inl ⟨rfl,rfl⟩⟩
    rw [if_neg h0,if_pos hk,show (bmp s).ar=s.ar from rfl,hrow,Option.bind_some]
    by_cases h1:a0 ≥ row.length
    ·rw [if_pos h1];exact ⟨_,rfl,.inl ⟨rfl,rfl⟩⟩
    rw [if_neg h1]
    exact ⟨_,rfl,.inr ⟨rfl,rfl,row,_,rfl,List.getElem?_eq_getElem oM0⟩⟩
  have c3:Inv n B M { bmp s with st:=3 }:=⟨hb.ok,hb.out,hb.ar⟩
  rw [mSum]
  simp only [show w64 (s.cost+1)=s.cost+1 from yh5 (by have:=hi.ok.2.1;omega) (by have:=hi.ok.1;have:=hi.ok1;omega)]
  by_cases k3:x.kind=3
  ·obtain ⟨a0,h0⟩:=zi4 (x3 k3)
   rw [k3,h0]
   exact ⟨_,rfl,hb⟩
  by_cases k4:x.kind=4
  ·obtain ⟨a0,h0⟩:=zi4 (show 0<p.length by have:=x4 k4;omega)
   obtain ⟨a1,h1⟩:=zi4 (show 1<p.length by have:=x4 k4;omega)
   rw [k4,h0,h1]
   refine ⟨_,rfl,?_⟩
   dsimp only
   split
   ·exact hb
   exact ⟨hb.ok,hb.out,hb.ar⟩
  by_cases k5:x.kind=5
  ·obtain ⟨a0,h0⟩:=zi4 (x5 k5).1
   obtain ⟨⟨qb,qs⟩,hq,hq2⟩:=cell (a0:=a0) (x5 k5).2
   rw [ne k3,ne k4,k5,h0]
   simp only [Bool.false_eq_true,if_false,show ((5:Int)==5)=true from rfl,if_true,Option.bind_some]
   erw [hq]
   simp only [Option.bind_some]
   rcases hq2 with ⟨rfl,rfl⟩ | ⟨rfl,rfl,row,y,hr,hy⟩
   ·exact ⟨_,rfl,c3⟩
   rw [if_pos rfl,hr,Option.bind_some,hy]
   exact ⟨_,rfl,hb⟩
  by_cases k6:x.kind=6
  ·obtain ⟨a0,h0⟩:=zi4 (show 0<p.length by have:=(x6 k6).1;omega)
   obtain ⟨a1,h1⟩:=zi4 (show 1<p.length by have:=(x6 k6).1;omega)
   obtain ⟨⟨qb,qs⟩,hq,hq2⟩:=cell (a0:=a0) (x6 k6).2
   rw [ne k3,ne k4,ne k5,k6,h0]
   simp only [Bool.false_eq_true,if_false,show ((6:Int)==6)=true from rfl,if_true,Option.bind_some]
   erw [hq]
   simp only [Option.bind_some]
   rcases hq2 with ⟨rfl,rfl⟩ | ⟨rfl,rfl,row,y,hr,hy⟩
   ·exact ⟨_,rfl,c3⟩
   rw [if_pos rfl,hr,h1]
   exact ⟨_,rfl,⟨hb.ok,hb.out,by simp only [List.length_set];exact hb.ar⟩⟩
  by_cases k7:x.kind=7
  ·rw [ne k3,ne k4,ne k5,ne k6,k7]
   obtain ⟨h0,h1⟩:=x7 k7
   obtain ⟨j,hj,hjl⟩:=zh2 x.name u.flows 0 oM0 h0
   obtain ⟨g,hg⟩:∃ g,u.flows[(z02 x.name u.flows 0).toNat]? = some g:=⟨_,List.getElem?_eq_getElem oM0⟩
   exact hC _ p (bmp s) h0 ⟨g,hg,h1 g hg⟩ hb (by show 3*s.fuel+2<=(d:Int);omega)
  by_cases k9:x.kind=9
  ·obtain ⟨a0,h0⟩:=zi4 (x9 k9)
   have hfu:=hi.ok.1
   have hlo:s.out.length<1073741824:=by have:=hi.out;omega
   rw [ne k3,ne k4,ne k5,ne k6,ne k7,k9,h0]
   simp only [Bool.false_eq_true,if_false,show ((9:Int)==9)=true from rfl,if_true,Option.bind_some,if_pos hlo]
   exact ⟨_,rfl,⟨hb.ok,by have:=hi.out;show ((s.out++[a0]).length:Int)+s.fuel<=M;simp;omega,hb.ar⟩⟩
  by_cases k8:x.kind=8
  ·rw [ne k3,ne k4,ne k5,ne k6,ne k7,ne k9,k8]
   simp only [Bool.false_eq_true,if_false,show ((8:Int)==8)=true from rfl,if_true]
   cases hin:s.ins with
   | nil=>exact ⟨_,rfl,⟨hb.ok,hb.out,hb.ar⟩⟩
   | cons y q=>exact ⟨_,rfl,⟨hb.ok,hb.out,hb.ar⟩⟩
  rw [ne k3,ne k4,ne k5,ne k6,ne k7,ne k9,ne k8]
  exact ⟨_,rfl,hb⟩
theorem smp_ok {u:Un} {f:Fl} {x:Nd} {seen:List Int} {w:Wh} (hgp:∀ g∈u.flows,VF u g) (h:(z3d u f x seen w).ok f.types x.outs=true) :
    inR f.types.length x.outs/\inR f.types.length x.args/\SumOk u x x.args.length/\((x.kind=1∨x.kind=2)->x.outs≠[]) /\
    (x.kind=12->w.If=true/\x.args.length=w.Yield.length)/\(x.kind=13->x.args.length=w.Next.length)/\(x.kind=14->x.args.length=w.Left.length)/\(x.kind=15->x.args.length=1):=by
  refine ⟨ok_in h,?_⟩
  have V:∀ {b:Bool} {want:Option (List Int)},SForm.ok ⟨b,want⟩ f.types x.outs=true->b=true:=fun {b want} h=>by
    cases want<;>simp only [SForm.ok,Bool.and_eq_true] at h<;>exact h.1
  have V1:∀ {b:Bool} {t:Int},SForm.ok ⟨b,some [t]⟩ f.types x.outs=true->x.outs≠[]:=fun {b t} h e=>by
    simp only [SForm.ok,Bool.and_eq_true] at h
    have:=z8v h.2
    rw [e] at this;simp at this
  have T:∀ {want:List Int},z01 f.types seen x.args want=true->inR f.types.length x.args/\x.args.length=want.length:=fun h=>⟨(ze2 h).2,(ze2 h).1⟩
  have tr:∀ {k:Int} {P:Prop} {j:Int},x.kind=k->k≠j->x.kind=j->P:=fun h1 h2 h3=>absurd (h1.symm.trans h3) h2
  unfold z3d at h
  by_cases k1:x.kind=1
  ·rw [if_pos (beq_iff_eq.2 k1)] at h
   obtain ⟨t1,t2⟩:=T (V h)
   refine ⟨t1,⟨tr k1 dC0,tr k1 dC0,tr k1 dC0,tr k1 dC0,tr k1 dC0,tr k1 dC0⟩,fun _=>V1 h,tr k1 dC0,tr k1 dC0,tr k1 dC0,tr k1 dC0⟩
  rw [if_neg (by simpa using k1)] at h
  by_cases k2:x.kind=2
  ·rw [if_pos (beq_iff_eq.2 k2)] at h
   have hb:=V h
   simp only [Bool.and_eq_true] at hb
   obtain ⟨t1,t2⟩:=T hb.2
   refine ⟨t1,⟨tr k2 dC0,tr k2 dC0,tr k2 dC0,tr k2 dC0,tr k2 dC0,tr k2 dC0⟩,fun _=>V1 h,tr k2 dC0,tr k2 dC0,tr k2 dC0,tr k2 dC0⟩
  rw [if_neg (by simpa using k2)] at h
  have n12:¬ (x.kind=1∨x.kind=2):=by rintro (h | h)<;>contradiction
  by_cases k3:x.kind=3
  ·rw [if_pos (beq_iff_eq.2 k3)] at h
   have hb:=V h
   simp only [Bool.and_eq_true] at hb
   obtain ⟨t1,t2⟩:=T hb.2
   refine ⟨t1,⟨fun _=>by rw [t2];exact Nat.le_refl _,tr k3 dC0,tr k3 dC0,tr k3 dC0,tr k3 dC0,tr k3 dC0⟩,fun h=>absurd h n12,tr k3 dC0,tr k3 dC0,tr k3 dC0,tr k3 dC0⟩
  rw [if_neg (by simpa using k3)] at h
  by_cases k4:x.kind=4
  ·rw [if_pos (beq_iff_eq.2 k4)] at h
   have hb:=V h
   simp only [Bool.and_eq_true] at hb
   obtain ⟨t1,t2⟩:=T hb.1.2
   refine ⟨t1,⟨tr k4 dC0,fun _=>by rw [t2];exact Nat.le_refl _,tr k4 dC0,tr k4 dC0,tr k4 dC0,tr k4 dC0⟩,fun h=>absurd h n12,tr k4 dC0,tr k4 dC0,tr k4 dC0,tr k4 dC0⟩
  rw [if_neg (by simpa using k4)] at h
  by_cases k5:x.kind=5
  ·rw [if_pos (beq_iff_eq.2 k5)] at h
   have hb:=V h
   simp only [Bool.and_eq_true,decide_eq_true_eq] at hb
   obtain ⟨t1,t2⟩:=T hb.2
   refine ⟨t1,⟨tr k5 dC0,tr k5 dC0,fun _=>⟨by rw [t2];exact Nat.le_refl _,hb.1⟩,tr k5 dC0,tr k5 dC0,tr k5 dC0⟩,fun h=>absurd h n12,tr k5 dC0,tr k5 dC0,tr k5 dC0,tr k5 dC0⟩
  rw [if_neg (by simpa using k5)] at h
  by_cases k6:x.kind=6
  ·rw [if_pos (beq_iff_eq.2 k6)] at h
   have hb:=V h
   simp only [Bool.and_eq_true,decide_eq_true_eq] at hb
   obtain ⟨t1,t2⟩:=T hb.2
   refine ⟨t1,⟨tr k6 dC0,tr k6 dC0,tr k6 dC0,fun _=>⟨by rw [t2];exact Nat.le_refl _,hb.1⟩,tr k6 dC0,tr k6 dC0⟩,fun h=>absurd h n12,tr k6 dC0,tr k6 dC0,tr k6 dC0,tr k6 dC0⟩
  rw [if_neg (by simpa using k6)] at h
  by_cases k7:x.kind=7
  ·rw [if_pos (beq_iff_eq.2 k7)] at h
   by_cases hp:decide (z02 x.name u.flows 0 ≥ 0)=true
   ·rw [if_pos hp] at h
    have hp':0<=z02 x.name u.flows 0:=by simpa using hp
    cases hg:u.flows[(z02 x.name u.flows 0).toNat]? with
    | none=>rw [hg] at h;exact absurd (V h) dC0
    | some g =>
      rw [hg] at h
      obtain ⟨t1,t2⟩:=T (V h)
      obtain ⟨_,_,g1,g2⟩:=hgp g (List.mem_of_getElem? hg)
      refine ⟨t1,⟨tr k7 dC0,tr k7 dC0,tr k7 dC0,tr k7 dC0,fun _=>⟨hp',fun g' hg'=>?_⟩,tr k7 dC0⟩,fun h=>absurd h n12,tr k7 dC0,tr k7 dC0,tr k7 dC0,tr k7 dC0⟩
      rw [hg] at hg'
      cases hg'
      rw [t2,List.length_take];omega
   rw [if_neg hp] at h;exact absurd (V h) dC0
  rw [if_neg (by simpa using k7)] at h
  by_cases k8:x.kind=8
  ·rw [if_pos (beq_iff_eq.2 k8)] at h
   have hb:=V h
   have:x.args=[]:=List.eq_nil_of_length_eq_zero (by simp at hb;simp [hb])
   refine ⟨by rw [this];exact fun v hv=>by simp at hv,⟨tr k8 dC0,tr k8 dC0,tr k8 dC0,tr k8 dC0,tr k8 dC0,tr k8 dC0⟩,fun h=>absurd h n12,tr k8 dC0,tr k8 dC0,tr k8 dC0,tr k8 dC0⟩
  rw [if_neg (by simpa using k8)] at h
  by_cases k9:x.kind=9
  ·rw [if_pos (beq_iff_eq.2 k9)] at h
   obtain ⟨t1,t2⟩:=T (V h)
   refine ⟨t1,⟨tr k9 dC0,tr k9 dC0,tr k9 dC0,tr k9 dC0,tr k9 dC0,fun _=>by rw [t2];exact Nat.le_refl _⟩,fun h=>absurd h n12,tr k9 dC0,tr k9 dC0,tr k9 dC0,tr k9 dC0⟩
  rw [if_neg (by simpa using k9)] at h
  have S:SumOk u x x.args.length:=⟨fun h=>absurd h k3,fun h=>absurd h k4,fun h=>absurd h k5,fun h=>absurd h k6,fun h=>absurd h k7,fun h=>absurd h k9⟩
  by_cases k12:x.kind=12
  ·rw [if_pos (beq_iff_eq.2 k12)] at h
   have hb:=V h
   simp only [Bool.and_eq_true] at hb
   obtain ⟨t1,t2⟩:=T hb.2
   exact ⟨t1,S,fun h=>absurd h n12,fun _=>⟨hb.1,t2⟩,tr k12 dC0,tr k12 dC0,tr k12 dC0⟩
  rw [if_neg (by simpa using k12)] at h
  by_cases k13:x.kind=13
  ·rw [if_pos (beq_iff_eq.2 k13)] at h
   have hb:=V h
   simp only [Bool.and_eq_true] at hb
   obtain ⟨t1,t2⟩:=T hb.2
   exact ⟨t1,S,fun h=>absurd h n12,tr k13 dC0,fun _=>t2,tr k13 dC0,tr k13 dC0⟩
  rw [if_neg (by simpa using k13)] at h
  by_cases k14:x.kind=14
  ·rw [if_pos (beq_iff_eq.2 k14)] at h
   have hb:=V h
   simp only [Bool.and_eq_true] at hb
   obtain ⟨t1,t2⟩:=T hb.2
   exact ⟨t1,S,fun h=>absurd h n12,tr k14 dC0,tr k14 dC0,fun _=>t2,tr k14 dC0⟩
  rw [if_neg (by simpa using k14)] at h
  by_cases k15:x.kind=15
  ·rw [if_pos (beq_iff_eq.2 k15)] at h
   obtain ⟨t1,t2⟩:=T (V h)
   exact ⟨t1,S,fun h=>absurd h n12,tr k15 dC0,tr k15 dC0,tr k15 dC0,fun _=>t2⟩
  rw [if_neg (by simpa using k15)] at h
  exact absurd (V h) dC0
theorem LRel.monoE {k c:Nat} {I:VR} {l:List Nd} {K:List KF} {l':List Nd} {E:ER} (h:LRel k c I l K l' E):∀ {E':ER},(∀ n p p' a b,E n p p' a b->E' n p p' a b)->LRel k c I l K l' E':=by
  induction h with
  | dead h=>exact fun _=>.dead h
  | weak h _ ih=>exact fun he=>.weak h (ih he)
  | both h1 h2 h3 h4 _ ih=>exact fun he=>.both h1 h2 h3 h4 (ih he)
  | skip h1 h2 _ ih=>exact fun he=>.skip h1 h2 (ih he)
  | paid h1 h2 h3 _ ih=>exact fun he=>.paid h1 h2 h3 (ih he)
  | add h1 h2 h3 _ ih=>exact fun he=>.add h1 h2 h3 (ih he)
  | eff h1 h2 h3 h4 h5 h6 h7 _ ih=>exact fun he=>.eff h1 h2 h3 h4 h5 h6 h7 (ih he)
  | ite h1 h2 h3 h4 h5 h6 h7 h8 _ _ _ ih=>exact fun he=>.ite h1 h2 h3 h4 h5 h6 h7 (fun n p p' a b hh=>(h8 n p p' a b hh).imp_right fun ⟨x,y,z,w⟩=>⟨x,y,z,he _ _ _ _ _ w⟩) (ih he)
  | loop h1 h2 h3 h4 h5 h6 h7 _ _ ih=>exact fun he=>.loop h1 h2 h3 h4 h5 h6 (fun n p p' a b hh=>(h7 n p p' a b hh).imp_left fun ⟨x,y⟩=>⟨x,he _ _ _ _ _ y⟩) (ih he)
  | ender h1 h2 h3 h4 h5=>exact fun he=>.ender h1 h2 h3 h4 fun a b p p' x y z=>he _ _ _ _ _ (h5 a b p p' x y z)
  | once h1 h2 h3 _ ih=>exact fun he=>.once h1 h2 h3 (ih he)
  | leave h1 h2 h3 _ ih=>exact fun he=>.leave h1 h2 h3 (ih he)
  | fork h1 h2 _ _ ih0 ih1=>exact fun he=>.fork h1 h2 (ih0 he) (ih1 he)
def EqS (S:List Int) (a b:List Int):Prop:=∀ x∈S,getV a x=getV b x
theorem z6a {a a2:List Int} {o y x:Int} (h:setV a o y=some a2):getV a2 x=if x=o then some y else getV a x:=by
  obtain ⟨h1,h2,rfl⟩:=za8 h
  unfold getV
  by_cases hx:0<=x
  · rw [if_pos hx]
    by_cases e:x=o
    · subst e
      rw [if_pos rfl,List.getElem?_set_self h2]
    · rw [if_neg e,if_pos hx,List.getElem?_set_ne oM0]
  · rw [if_neg hx,if_neg hx,if_neg oM0]
theorem y5k {a b:List Int}:∀ {l:List Int},(∀ x∈l,getV a x=getV b x)->mOf a l=mOf b l
  | [],_=>rfl
  | i::r,h=>by
    simp only [mOf]
    rw [h i (.head _),y5k (l:=r) fun x hx=>h x (.tail _ hx)]
theorem zk8:∀ {l p a a2:List Int} {x:Int},mSet a l p=some a2->x∉l->getV a2 x=getV a x
  | [],_,_,_,_,h,_=>by cases h;rfl
  | i::r,p,a,a2,x,h,hx=>by
    obtain ⟨y,p',a1,rfl,h1,h2⟩:=zc6 h
    simp only [List.mem_cons,not_or] at hx
    rw [zk8 h2 hx.2,z6a h1,if_neg hx.1]
theorem setO_get {outs a a2:List Int} {y x:Int} (h:setO outs a y a2) (hx:x∉outs):getV a2 x=getV a x:=by
  cases outs with
  | nil=>obtain rfl:a2=a:=h;rfl
  | cons o os =>
    simp only [List.mem_cons,not_or] at hx
    rw [z6a h,if_neg hx.1]
theorem EqS.sub {S T:List Int} {a b:List Int} (h:EqS S a b) (hs:∀ x∈T,x∈S):EqS T a b:=fun x hx=>h x (hs x hx)
theorem EqS.of {S l:List Int} {a b:List Int} (h:EqS S a b) (hs:∀ x∈l,x∈S):mOf a l=mOf b l:=y5k fun x hx=>h x (hs x hx)
theorem EqS.set {S:List Int} {a b a2 b2:List Int} {o y:Int} (h:EqS S a b) (h1:setV a o y=some a2) (h2:setV b o y=some b2):EqS (S++[o]) a2 b2:=by
  intro x hx
  rw [z6a h1,z6a h2]
  by_cases e:x=o
  · rw [if_pos e,if_pos e]
  · rw [if_neg e,if_neg e]
    rcases List.mem_append.1 hx with hx | hx
    · exact h x hx
    · exact absurd (List.mem_singleton.1 hx) e
theorem EqS.msets:∀ {l p S a b a2 b2:List Int},EqS S a b->mSet a l p=some a2->mSet b l p=some b2->EqS (S++l) a2 b2
  | [],p,S,a,b,a2,b2,h,h1,h2=>by cases h1;cases h2;simpa using h
  | i::r,p,S,a,b,a2,b2,h,h1,h2=>by
    obtain ⟨y,p',a1,rfl,g1,g2⟩:=zc6 h1
    obtain ⟨y',p'',b1,e,g1',g2'⟩:=zc6 h2
    obtain ⟨rfl,rfl⟩:=List.cons.inj e
    have:=EqS.msets (h.set g1 g1') g2 g2'
    simpa using this
theorem EqS.setO {S outs:List Int} {a b a2 b2:List Int} {y:Int} (h:EqS S a b) (ho:outs.length<=1) (h1:setO outs a y a2) (h2:setO outs b y b2):EqS (S++outs) a2 b2:=by
  cases outs with
  | nil=>obtain rfl:a2=a:=h1;obtain rfl:b2=b:=h2;simpa using h
  | cons o os =>
    have:os=[]:=List.eq_nil_of_length_eq_zero (by simpa using ho)
    subst this
    exact h.set h1 h2
theorem y64 {tys seen:List Int}:∀ {l want:List Int},l.length=want.length->z0w tys seen l want=true->∀ v∈l,v∈seen
  | [],_,_,_=>fun v hv=>by simp at hv
  | _::_,[],h,_=>by simp at h
  | x::r,w::ws,h,hg=>by
    simp only [z0w,Bool.and_eq_true] at hg
    intro v hv
    rcases List.mem_cons.1 hv with rfl | hv
    · have:=hg.1
      unfold z6z at this
      simp only [Bool.not_eq_true',Bool.or_eq_false_iff] at this
      simpa using this.1.2
    · exact y64 (by simpa using h) hg.2 v hv
theorem z1w {tys seen l want:List Int} (h:z01 tys seen l want=true):∀ v∈l,v∈seen:=by
  have h0:=(ze2 h).1
  simp only [z01,Bool.and_eq_true] at h
  exact y64 h0 h.2
theorem z65 {u:Un} {f:Fl} {x:Nd} {seen:List Int} {w:Wh} (h:(z3d u f x seen w).ok f.types x.outs=true) :
    (∀ v∈x.args,v∈seen)/\x.outs.length<=1/\(z0x x=true->HL x/\∃ o,x.outs=[o])/\(x.kind=12->w.If=true)/\(12<=x.kind->x.kind<=15):=by
  have V:∀ {b:Bool} {want:Option (List Int)},SForm.ok ⟨b,want⟩ f.types x.outs=true->b=true:=fun {b want} h=>by
    cases want<;>simp only [SForm.ok,Bool.and_eq_true] at h<;>exact h.1
  have V1:∀ {b:Bool} {t:Int},SForm.ok ⟨b,some [t]⟩ f.types x.outs=true->x.outs.length=1:=fun {b t} h=>by
    simp only [SForm.ok,Bool.and_eq_true] at h
    exact z8v h.2
  have V0:∀ {b:Bool},SForm.ok ⟨b,none⟩ f.types x.outs=true->x.outs.length=0:=fun {b} h=>by
    simp only [SForm.ok,Bool.and_eq_true,beq_iff_eq] at h
    omega
  have ex1:x.outs.length=1->∃ o,x.outs=[o]:=fun h=>List.length_eq_one_iff.1 h
  have hne:x.outs.length=1->x.outs≠[]:=fun h e=>by rw [e] at h;cases h
  unfold z3d at h
  by_cases k1:x.kind=1
  · rw [if_pos (beq_iff_eq.2 k1)] at h
    have h1:=V1 h
    exact ⟨z1w (V h),by omega,fun hm=>⟨⟨hm,fun h=>absurd (k1.symm.trans h) dC0,hne h1⟩,ex1 h1⟩,fun h=>absurd (k1.symm.trans h) dC0,by omega⟩
  rw [if_neg (by simpa using k1)] at h
  by_cases k2:x.kind=2
  · rw [if_pos (beq_iff_eq.2 k2)] at h
    have h1:=V1 h
    have hb:=V h
    simp only [Bool.and_eq_true] at hb
    exact ⟨z1w hb.2,by omega,fun hm=>⟨⟨hm,fun h=>absurd (k2.symm.trans h) dC0,hne h1⟩,ex1 h1⟩,fun h=>absurd (k2.symm.trans h) dC0,by omega⟩
  rw [if_neg (by simpa using k2)] at h
  by_cases k3:x.kind=3
  · rw [if_pos (beq_iff_eq.2 k3)] at h
    have h1:=V1 h
    have hb:=V h
    simp only [Bool.and_eq_true] at hb
    exact ⟨z1w hb.2,by omega,fun hm=>⟨⟨hm,fun h=>absurd (k3.symm.trans h) dC0,hne h1⟩,ex1 h1⟩,fun h=>absurd (k3.symm.trans h) dC0,by omega⟩
  rw [if_neg (by simpa using k3)] at h
  by_cases k4:x.kind=4
  · rw [if_pos (beq_iff_eq.2 k4)] at h
    have h1:=V1 h
    have hb:=V h
    simp only [Bool.and_eq_true] at hb
    exact ⟨z1w hb.1.2,by omega,fun hm=>⟨⟨hm,fun _=>hb.1.1,hne h1⟩,ex1 h1⟩,fun h=>absurd (k4.symm.trans h) dC0,by omega⟩
  rw [if_neg (by simpa using k4)] at h
  have hno:z0x x=false:=by
    cases hx:z0x x with
    | false=>rfl
    | true=>have:=z4s hx;omega
  have hm0:z0x x=true->HL x/\∃ o,x.outs=[o]:=fun h=>by rw [hno] at h;cases h
  by_cases k5:x.kind=5
  · rw [if_pos (beq_iff_eq.2 k5)] at h
    have hb:=V h
    simp only [Bool.and_eq_true] at hb
    exact ⟨z1w hb.2,by have:=V1 h;omega,hm0,fun h=>absurd (k5.symm.trans h) dC0,by omega⟩
  rw [if_neg (by simpa using k5)] at h
  by_cases k6:x.kind=6
  · rw [if_pos (beq_iff_eq.2 k6)] at h
    have hb:=V h
    simp only [Bool.and_eq_true] at hb
    exact ⟨z1w hb.2,by have:=V0 h;omega,hm0,fun h=>absurd (k6.symm.trans h) dC0,by omega⟩
  rw [if_neg (by simpa using k6)] at h
  by_cases k7:x.kind=7
  · rw [if_pos (beq_iff_eq.2 k7)] at h
    by_cases hp:decide (z02 x.name u.flows 0 ≥ 0)=true
    · rw [if_pos hp] at h
      cases hg:u.flows[(z02 x.name u.flows 0).toNat]? with
      | none=>rw [hg] at h;exact absurd (V h) dC0
      | some g=>rw [hg] at h;exact ⟨z1w (V h),by have:=V1 h;omega,hm0,fun h=>absurd (k7.symm.trans h) dC0,by omega⟩
    · rw [if_neg hp] at h;exact absurd (V h) dC0
  rw [if_neg (by simpa using k7)] at h
  by_cases k8:x.kind=8
  · rw [if_pos (beq_iff_eq.2 k8)] at h
    have hb:=V h
    have:x.args=[]:=List.eq_nil_of_length_eq_zero (by simp at hb;simp [hb])
    exact ⟨by rw [this];exact fun v hv=>by simp at hv,by have:=V1 h;omega,hm0,fun h=>absurd (k8.symm.trans h) dC0,by omega⟩
  rw [if_neg (by simpa using k8)] at h
  by_cases k9:x.kind=9
  · rw [if_pos (beq_iff_eq.2 k9)] at h
    exact ⟨z1w (V h),by have:=V0 h;omega,hm0,fun h=>absurd (k9.symm.trans h) dC0,by omega⟩
  rw [if_neg (by simpa using k9)] at h
  by_cases k12:x.kind=12
  · rw [if_pos (beq_iff_eq.2 k12)] at h
    have hb:=V h
    simp only [Bool.and_eq_true] at hb
    exact ⟨z1w hb.2,by have:=V0 h;omega,hm0,fun _=>hb.1,by omega⟩
  rw [if_neg (by simpa using k12)] at h
  by_cases k13:x.kind=13
  · rw [if_pos (beq_iff_eq.2 k13)] at h
    have hb:=V h
    simp only [Bool.and_eq_true] at hb
    exact ⟨z1w hb.2,by have:=V0 h;omega,hm0,fun h=>absurd (k13.symm.trans h) dC0,by omega⟩
  rw [if_neg (by simpa using k13)] at h
  by_cases k14:x.kind=14
  · rw [if_pos (beq_iff_eq.2 k14)] at h
    have hb:=V h
    simp only [Bool.and_eq_true] at hb
    exact ⟨z1w hb.2,by have:=V0 h;omega,hm0,fun h=>absurd (k14.symm.trans h) dC0,by omega⟩
  rw [if_neg (by simpa using k14)] at h
  by_cases k15:x.kind=15
  · rw [if_pos (beq_iff_eq.2 k15)] at h
    exact ⟨z1w (V h),by have:=V0 h;omega,hm0,fun h=>absurd (k15.symm.trans h) dC0,by omega⟩
  rw [if_neg (by simpa using k15)] at h
  exact absurd (V h) dC0
theorem y9m {u:Un} {f:Fl} {deep:Int} {w:Wh}:∀ {l:List Nd} {S:List Int},vGo u f deep w S l=true->z1d l=12->w.If=true
  | [],_,_,h=>by simp [z1d] at h
  | [x],S,hv,h=>by
    unfold vGo at hv
    simp only [Bool.and_eq_true] at hv
    have hk:x.kind=12:=by
      simp only [z1d,List.getLast?_singleton] at h
      split at h
      · exact h
      · exact absurd h dC0
    have hx:=hv.1.1.2
    rw [z1r u f deep w S (z1x u f deep w S hx) (by rw [hk];rfl) (by rw [hk];rfl)] at hx
    exact (z65 hx).2.2.2.1 hk
  | x::y::r,S,hv,h=>by
    unfold vGo at hv
    simp only [Bool.and_eq_true] at hv
    have e:z1d (x::y::r)=z1d (y::r):=by simp [z1d,List.getLast?_cons_cons]
    rw [e] at h
    exact y9m hv.2 h
theorem z4m {a b:List Int} (h:(a++b).Nodup):a.Nodup/\b.Nodup/\∀ x∈a,x∉b:=by
  rw [List.nodup_append] at h
  exact ⟨h.1,h.2.1,fun x hx hb=>h.2.2 x hx x hb rfl⟩
theorem z90 {x:Nd} {l:List Nd} (h:l≠[]):z1d (x::l)=z1d l:=by
  cases l with
  | nil=>exact absurd rfl h
  | cons y r=>simp [z1d,List.getLast?_cons_cons]
theorem y5e (x:Nd):z1d [x]=if z0o x.kind then x.kind else 0:=by simp [z1d]
def NEnd (w:Wh) (x:Nd) (r:Rres):Prop:=(r.1.1=0/\z04 x=false)∨EOk w (x.kind==12) (z1k x) r
def LTot (u:Un) (n:Nat) (B M:Int) (d:Nat):Prop:=∀ f deep w seen l a s,l≠[]->vGo u f deep w seen l=true->a.length=f.types.length->Inv n B M s->3*s.fuel+1<=(d:Int) ->
  ∃ r,z1p u d l a s=some r/\Inv n B M r.2.2/\(Live r.2.2->r.2.2.fuel<s.fuel/\EOk w (z1d l==12) (z0b l) r)
def PTot (u:Un) (n:Nat) (B M:Int) (d:Nat):Prop:=∀ f deep x q seen a p s,x.kids=[q]->q≠[]->vGo u f deep (w2 f x) seen q=true->inR f.types.length x.params->inR f.types.length x.outs->p.length=x.params.length->a.length=f.types.length->Inv n B M s->3*s.fuel+2<=(d:Int) ->
  ∃ r,z35 u d x a p s=some r/\Inv n B M r.2.2/\(Live r.2.2->(r.1.1=0/\z0b q=true)∨(r.1.1=15/\r.1.2.length=1))
def CTot (u:Un) (n:Nat) (B M:Int) (d:Nat):Prop:=∀ k p s,0<=k->(∃ g,u.flows[k.toNat]? = some g/\(p.length:Int)=g.params)->Inv n B M s->3*s.fuel+2<=(d:Int)->∃ r,z3m u d k p s=some r/\Inv n B M r.2
def STot (u:Un) (n:Nat) (B M:Int) (d:Nat):Prop:=∀ x p s,SumOk u x p.length->InvS n B M s->3*s.fuel+3<=(d:Int)->∃ r,mSum u d x p s=some r/\Inv n B M r.2
theorem node_tot {u:Un} {n:Nat} {B M:Int} (hB:B<=4611686018427387903) (hv:∀ g∈u.flows,VF u g) {d:Nat} (i1:LTot u n B M d) (i2:PTot u n B M d) (i4:STot u n B M d)
    {f:Fl} {deep:Int} {w:Wh} {seen:List Int} {x:Nd} {a:List Int} {s:Rs} (hx:z3s u f deep w seen x=true) (ha:a.length=f.types.length) (hl:Live s) (hi:Inv n B M s) (hf:1<=s.fuel) (hd:3*s.fuel+1<=((d+1:Nat):Int)) :
    ∃ p r,mOf a x.args=some p/\z4k (z1p u d) (z35 u d) (mSum u d) x p a (dec s)=some r/\Inv n B M r.2.2/\(Live r.2.2->r.2.2.fuel<s.fuel/\NEnd w x r):=by
  have hb:=z1x u f deep w seen hx
  have hiS:InvS n B M (dec s):=⟨(z3u hi.ok hf).1,(z3u hi.ok hf).2,by have:=hi.out;show (s.out.length:Int)+(s.fuel - 1)+1<=M;omega,hi.ar⟩
  have hi1:Inv n B M (dec s):=⟨hiS.ok,by have:=hiS.out;omega,hiS.ar⟩
  have hdf:(dec s).fuel=s.fuel - 1:=rfl
  have ne:∀ {i:Int},x.kind≠i->(x.kind==i)=false:=fun h=>beq_eq_false_iff_ne.2 h
  by_cases h10:x.kind=10
  ·obtain ⟨q0,q1,hk⟩:=z34 hb h10
   rw [z46 u f deep w seen hb h10 hk] at hx
   simp only [Bool.and_eq_true,z2j] at hx
   obtain ⟨⟨⟨⟨v1,v2⟩,v3⟩,v4⟩,v5⟩:=hx
   obtain ⟨t1,t2⟩:=ze2 v1
   have hou:=z30 v5
   obtain ⟨p,hp,hpl⟩:=zz0 (a:=a) (l:=x.args) (by rw [ha];exact t2)
   obtain ⟨c,hc⟩:=zi4 (p:=p) (i:=0) (by rw [hpl,t1];decide)
   have hq:∃ q,x.kids[if c != 0 then 0 else 1]? = some q/\q≠[]/\vGo u f (deep+1) (w1 w f x) seen q=true/\(q=q0∨q=q1):=by
     rw [hk]
     by_cases hc0:(c != 0)=true
     ·rw [if_pos hc0];exact ⟨q0,rfl,by simpa using v2.1,v2.2,.inl rfl⟩
     rw [if_neg hc0];exact ⟨q1,rfl,by simpa using v3.1,v3.2,.inr rfl⟩
   obtain ⟨q,hq1,hq2,hq3,hq4⟩:=hq
   obtain ⟨r2,g1,g2,g3⟩:=i1 f (deep+1) (w1 w f x) seen q a (dec s) hq2 hq3 ha hi1 (by rw [hdf];omega)
   have hlen:=z6q g1
   have hlv:z0b q=true->z1k x=true:=fun h=>by
     rw [z2h,h10,hk]
     rcases hq4 with rfl | rfl<;>simp [z29,h]
   have hcl:z1d q=12->z04 x=false:=fun h=>by
     rcases hq4 with rfl | rfl<;>simp [z04,h10,hk,kid0,kid1,h]
   by_cases hov:z11 r2.2.2=true
   ·refine ⟨p,r2,hp,?_,g2,fun h=>by rw [z0r h] at hov;cases hov⟩
    unfold z4k
    simp only [h10,show ((10:Int)==1)=false from rfl,show ((10:Int)==2)=false from rfl,show ((10:Int)==12)=false from rfl,show ((10:Int)==13)=false from rfl,show ((10:Int)==14)=false from rfl,show ((10:Int)==15)=false from rfl,show ((10:Int)==10)=true from rfl,Bool.or_self,Bool.false_eq_true,if_false,if_true,hc,Option.bind_some,hq1,g1,hov,Bool.not_true,Bool.false_and]
   have hov':z11 r2.2.2=false:=by simpa using hov
   have hL2:=z6e.1 hov'
   obtain ⟨e1,e2⟩:=g3 hL2
   by_cases h12:r2.1.1=12
   ·rcases e2 with ⟨_,e3,_,e4⟩ | ⟨e3,_⟩ | ⟨e3,_⟩ | ⟨e3,_⟩
    ·rw [show (w1 w f x).Yield=r8of f.types x.outs from rfl,zl2 hou] at e4
     obtain ⟨a2,h2⟩:=zk9 (l:=x.outs) (p:=r2.1.2) (a:=r2.2.1) (by rw [hlen,ha];exact hou) e4
     refine ⟨p,((0,[]),a2,r2.2.2),hp,?_,g2,fun _=>⟨by show r2.2.2.fuel<s.fuel;have:=hdf;omega,.inl ⟨rfl,hcl (by simpa using e3)⟩⟩⟩
     unfold z4k
     simp only [h10,show ((10:Int)==1)=false from rfl,show ((10:Int)==2)=false from rfl,show ((10:Int)==12)=false from rfl,show ((10:Int)==13)=false from rfl,show ((10:Int)==14)=false from rfl,show ((10:Int)==15)=false from rfl,show ((10:Int)==10)=true from rfl,Bool.or_self,Bool.false_eq_true,if_false,if_true,hc,Option.bind_some,hq1,g1,hov',h12,Bool.not_false,Bool.true_and,show ((12:Int)==12)=true from rfl,h2,Option.map_some]
    ·rw [h12] at e3;exact absurd e3 dC0
    ·rw [h12] at e3;exact absurd e3 dC0
    rw [h12] at e3;exact absurd e3 dC0
   refine ⟨p,r2,hp,?_,g2,fun _=>⟨by have:=hdf;omega,.inr ?_⟩⟩
   ·unfold z4k
    have hc12:(!false&&r2.1.1==12)=false:=by simpa using h12
    simp only [h10,show ((10:Int)==1)=false from rfl,show ((10:Int)==2)=false from rfl,show ((10:Int)==12)=false from rfl,show ((10:Int)==13)=false from rfl,show ((10:Int)==14)=false from rfl,show ((10:Int)==15)=false from rfl,show ((10:Int)==10)=true from rfl,Bool.or_self,Bool.false_eq_true,if_false,if_true,hc,Option.bind_some,hq1,g1,hov',hc12]
   rcases e2 with ⟨e3,_⟩ | e3 | ⟨e3,e4,e5⟩ | e3
   ·exact absurd e3 h12
   ·exact .inr (.inl e3)
   ·exact .inr (.inr (.inl ⟨e3,hlv e4,e5⟩))
   exact .inr (.inr (.inr e3))
  by_cases h11:x.kind=11
  ·obtain ⟨q,hk⟩:=z1o hb h11
   rw [z2d u f deep w seen hb h11 hk] at hx
   simp only [Bool.and_eq_true,z2j] at hx
   obtain ⟨⟨⟨⟨v1,v2⟩,v3⟩,v4⟩,v5⟩:=hx
   obtain ⟨t1,t2⟩:=ze2 v1
   have hpi:=z30 v2
   rw [zl2 hpi] at t1
   obtain ⟨p,hp,hpl⟩:=zz0 (a:=a) (l:=x.args) (by rw [ha];exact t2)
   obtain ⟨r,g1,g2,g3⟩:=i2 f (deep+1) x q _ a p (dec s) hk (by simpa using v3.1) v3.2 hpi (z30 v5) (by rw [hpl,t1]) ha hi1 (by rw [hdf];omega)
   refine ⟨p,r,hp,?_,g2,fun hL=>⟨?_,?_⟩⟩
   ·unfold z4k
    simp only [h11,show ((11:Int)==1)=false from rfl,show ((11:Int)==2)=false from rfl,show ((11:Int)==12)=false from rfl,show ((11:Int)==13)=false from rfl,show ((11:Int)==14)=false from rfl,show ((11:Int)==15)=false from rfl,show ((11:Int)==10)=false from rfl,show ((11:Int)==11)=true from rfl,Bool.or_self,Bool.false_eq_true,if_false,if_true,g1]
   ·have:=(zb5 hB g1 hi1.ok).fuel;omega
   rcases g3 hL with ⟨e1,e2⟩ | ⟨e1,e2⟩
   ·exact .inl ⟨e1,by simp [z04,h11,hk,kid0,e2]⟩
   exact .inr (.inr (.inr (.inr ⟨e1,e2⟩)))
  rw [z1r u f deep w seen hb (ne h10) (ne h11)] at hx
  obtain ⟨s1,s2,s3,s4,s12,s13,s14,s15⟩:=smp_ok hv hx
  obtain ⟨p,hp,hpl⟩:=zz0 (a:=a) (l:=x.args) (by rw [ha];exact s2)
  have cl:z04 x=z0o x.kind:=by unfold z04;rw [ne h10,ne h11];rfl
  by_cases h1:x.kind=1∨x.kind=2
  ·have ho:=s4 h1
   obtain ⟨o,os,he⟩:∃ o os,x.outs=o::os:=by cases hxo:x.outs with
     | nil=>exact absurd hxo ho
     | cons o os=>exact ⟨o,os,rfl⟩
   obtain ⟨a2,h2⟩:=y0d (a:=a) (i:=o) (y:=x.n) (by rw [ha];exact s1 o (by rw [he];exact .head _))
   refine ⟨p,((0,[]),a2,dec s),hp,?_,hi1,fun _=>⟨by show s.fuel - 1<s.fuel;omega,.inl ⟨rfl,?_⟩⟩⟩
   ·unfold z4k
    rw [if_pos (by rcases h1 with h1 | h1<;>rw [h1]<;>rfl),he]
    simp only [List.getElem?_cons_zero,Option.bind_some,h2,Option.map_some]
   rw [cl];rcases h1 with h1 | h1<;>rw [h1]<;>rfl
  have n1:(x.kind==1||x.kind==2)=false:=by rw [Bool.or_eq_false_iff];exact ⟨ne fun h=>h1 (.inl h),ne fun h=>h1 (.inr h)⟩
  by_cases hE:12<=x.kind/\x.kind<=15
  ·refine ⟨p,((x.kind,p),a,dec s),hp,?_,hi1,fun _=>⟨by show s.fuel - 1<s.fuel;omega,.inr ?_⟩⟩
   ·unfold z4k
    rw [n1,if_neg dC0,if_pos (by rcases (show x.kind=12∨x.kind=13∨x.kind=14∨x.kind=15 by omega) with e | e | e | e<;>rw [e]<;>rfl)]
   rcases (show x.kind=12∨x.kind=13∨x.kind=14∨x.kind=15 by omega) with e | e | e | e
   ·exact .inl ⟨e,by rw [e];rfl,(s12 e).1,by rw [<- (s12 e).2];exact hpl⟩
   ·exact .inr (.inl ⟨e,by rw [<- s13 e];exact hpl⟩)
   ·exact .inr (.inr (.inl ⟨e,by rw [z2h,e];rfl,by rw [<- s14 e];exact hpl⟩))
   exact .inr (.inr (.inr ⟨e,by rw [<- s15 e];exact hpl⟩))
  have n2:(x.kind==12||x.kind==13||x.kind==14||x.kind==15)=false:=by simp;omega
  obtain ⟨q,g1,g2⟩:=i4 x p (dec s) (by rw [hpl];exact s3) hiS (by rw [hdf];omega)
  have hfq:=(y37 hB g1 hiS.ok hiS.ok1).fuel
  have cl0:z04 x=false:=by rw [cl];simp [z0o];omega
  have hnode:∀ r1,(if !z11 q.2&&decide (0<x.outs.length) then (x.outs[0]?).bind fun o=>(setV a o q.1).map fun v'=>(((0,[]),v',q.2):Rres) else some ((0,[]),a,q.2))=some r1->z4k (z1p u d) (z35 u d) (mSum u d) x p a (dec s)=some r1:=fun r1 h=>by
    unfold z4k
    rw [n1,n2,ne h10,ne h11]
    simp only [Bool.false_eq_true,if_false,g1,Option.bind_some]
    exact h
  by_cases hov:(!z11 q.2&&decide (0<x.outs.length))=true
  ·obtain ⟨o,os,he⟩:∃ o os,x.outs=o::os:=by cases hxo:x.outs with
     | nil=>rw [hxo] at hov;simp at hov
     | cons o os=>exact ⟨o,os,rfl⟩
   obtain ⟨a2,h2⟩:=y0d (a:=a) (i:=o) (y:=q.1) (by rw [ha];exact s1 o (by rw [he];exact .head _))
   exact ⟨p,((0,[]),a2,q.2),hp,hnode _ (by rw [if_pos hov,he];simp [h2]),g2,fun _=>⟨by show q.2.fuel<s.fuel;omega,.inl ⟨rfl,cl0⟩⟩⟩
  exact ⟨p,((0,[]),a,q.2),hp,hnode _ (if_neg hov),g2,fun _=>⟨by show q.2.fuel<s.fuel;omega,.inl ⟨rfl,cl0⟩⟩⟩
theorem list_tot {u:Un} {n:Nat} {B M:Int} (hB:B<=4611686018427387903) (hv:∀ g∈u.flows,VF u g) {d:Nat} (i1:LTot u n B M d) (i2:PTot u n B M d) (i4:STot u n B M d):LTot u n B M (d+1):=by
  intro f deep w seen l a s hne hg ha hi hd
  cases l with
  | nil=>exact absurd rfl hne
  | cons x l =>
    cases hov:z11 s with
    | true =>
      have:z7v s=(false,s):=by unfold z7v;rw [hov];rfl
      refine ⟨((0,[]),a,s),by rw [z1p,this],hi,fun h=>by rw [z0r h] at hov;cases hov⟩
    | false =>
      have hl:=z6e.1 hov
      unfold vGo at hg
      simp only [Bool.and_eq_true,beq_iff_eq] at hg
      obtain ⟨⟨⟨_,v2⟩,v3⟩,v4⟩:=hg
      rcases zx2 hB hi.ok hl with ⟨hf,hs⟩ | ⟨hf,hs⟩
      ·refine ⟨((0,[]),a,gone s),by rw [z1p,hs],⟨hi.ok,hi.out,hi.ar⟩,fun h=>?_⟩
       have:=h.1
       cases this
      obtain ⟨p,r1,g1,g2,g3,g4⟩:=node_tot hB hv i1 i2 i4 v2 ha hl hi hf hd
      have hlen:r1.2.1.length=a.length:=y1l (fun _ _ _ _ h=>(zg2 u d).1 _ _ _ _ h) (fun _ _ _ _ _ h=>(zg2 u d).2 _ _ _ _ _ h) g2
      by_cases hov1:z11 r1.2.2=true
      ·exact ⟨r1,by rw [z1p,hs];simp only [g1,Option.bind_some,g2,hov1,Bool.true_or,if_true],g3,fun h=>by rw [z0r h] at hov1;cases hov1⟩
      have hov1':z11 r1.2.2=false:=by simpa using hov1
      obtain ⟨f1,f2⟩:=g4 (z6e.1 hov1')
      by_cases hk0:r1.1.1=0
      ·have hc:z04 x=false:=by
         rcases f2 with ⟨_,h⟩ | ⟨h,_⟩ | ⟨h,_⟩ | ⟨h,_⟩ | ⟨h,_⟩
         ·exact h
         all_goals rw [hk0] at h;exact absurd h dC0
       have hlne:l≠[]:=by rw [hc] at v3;intro e;rw [e] at v3;cases v3
       obtain ⟨r,q1,q2,q3⟩:=i1 f deep w _ l r1.2.1 r1.2.2 hlne v4 (by rw [hlen,ha]) g3 (by have:=hi.ok.1;omega)
       refine ⟨r,by rw [z1p,hs];simp only [g1,Option.bind_some,g2,hov1',hk0,Bool.false_or,show ((0:Int) != 0)=false from rfl,Bool.false_eq_true,if_false,q1],q2,fun h=>?_⟩
       obtain ⟨z1,z2⟩:=q3 h
       refine ⟨by omega,?_⟩
       rw [z90 hlne]
       rcases z2 with z | z | ⟨z1,z2,z3⟩ | z
       ·exact .inl z
       ·exact .inr (.inl z)
       ·exact .inr (.inr (.inl ⟨z1,by simp [z0b,z2],z3⟩))
       exact .inr (.inr (.inr z))
      have hk1:(false||r1.1.1 != 0)=true:=by simpa using hk0
      refine ⟨r1,by rw [z1p,hs];simp only [g1,Option.bind_some,g2,hov1',hk1,if_true],g3,fun _=>⟨f1,?_⟩⟩
      rcases f2 with ⟨h,_⟩ | ⟨z1,z2,z3,z4⟩ | z | ⟨z1,z2,z3⟩ | z
      ·exact absurd h hk0
      ·have hxk:x.kind=12:=by simpa using z2
       have hc:z04 x=true:=by unfold z04;rw [hxk];rfl
       have hl0:l=[]:=by rw [hc] at v3;cases l with
         | nil=>rfl
         | cons y r=>cases v3
       refine .inl ⟨z1,?_,z3,z4⟩
       rw [hl0,y5e,hxk];rfl
      ·exact .inr (.inl z)
      ·exact .inr (.inr (.inl ⟨z1,by simp [z0b,z2],z3⟩))
      exact .inr (.inr (.inr z))
theorem loop_tot {u:Un} {n:Nat} {B M:Int} {d:Nat} (i1:LTot u n B M d) (i2:PTot u n B M d):PTot u n B M (d+1):=by
  intro f deep x q seen a p s hk hq hg hpi hoi hp ha hi hd
  obtain ⟨a2,h2⟩:=zk9 (l:=x.params) (p:=p) (a:=a) (by rw [ha];exact hpi) hp
  obtain ⟨r1,g1,g2,g3⟩:=i1 f deep (w2 f x) seen q a2 s hq hg (by rw [z44 h2,ha]) hi oM0
  have hlen:=(z6q g1).trans (z44 h2)
  have hk0:x.kids[0]? = some q:=by rw [hk];rfl
  by_cases hov:z11 r1.2.2=true
  ·exact ⟨r1,by rw [z35,h2];simp only [Option.bind_some,hk0,g1,hov,Bool.true_or,if_true],g2,fun h=>by rw [z0r h] at hov;cases hov⟩
  have hov':z11 r1.2.2=false:=by simpa using hov
  obtain ⟨f1,f2⟩:=g3 (z6e.1 hov')
  rcases f2 with ⟨_,_,h,_⟩ | ⟨z1,z2⟩ | ⟨z1,z2,z3⟩ | ⟨z1,z2⟩
  ·cases h
  ·rw [show (w2 f x).Next=r8of f.types x.params from rfl,zl2 hpi] at z2
   obtain ⟨r,q1,q2,q3⟩:=i2 f deep x q seen r1.2.1 r1.1.2 r1.2.2 hk hq hg hpi hoi z2 (by rw [hlen,ha]) g2 oM0
   exact ⟨r,by rw [z35,h2];simp only [Option.bind_some,hk0,g1,hov',z1,Bool.false_or,show ((13:Int)==15)=false from rfl,show ((13:Int)==14)=false from rfl,Bool.false_eq_true,if_false,q1],q2,q3⟩
  ·rw [show (w2 f x).Left=r8of f.types x.outs from rfl,zl2 hoi] at z3
   obtain ⟨a3,h3⟩:=zk9 (l:=x.outs) (p:=r1.1.2) (a:=r1.2.1) (by rw [hlen,ha];exact hoi) z3
   exact ⟨((0,[]),a3,r1.2.2),by rw [z35,h2];simp only [Option.bind_some,hk0,g1,hov',z1,Bool.false_or,show ((14:Int)==15)=false from rfl,show ((14:Int)==14)=true from rfl,Bool.false_eq_true,if_false,if_true,h3,Option.map_some],g2,fun _=>.inl ⟨rfl,z2⟩⟩
  exact ⟨r1,by rw [z35,h2];simp only [Option.bind_some,hk0,g1,hov',z1,Bool.false_or,show ((15:Int)==15)=true from rfl,if_true],g2,fun _=>.inr ⟨z1,z2⟩⟩
theorem call_tot {u:Un} {n:Nat} {B M:Int} (hv:∀ g∈u.flows,VF u g) {d:Nat} (i1:LTot u n B M d):CTot u n B M (d+1):=by
  rintro k p s hk ⟨g,hg,hp⟩ hi hd
  obtain ⟨v1,v2,v3,v4⟩:=hv g (List.mem_of_getElem? hg)
  simp only [z2j,Bool.and_eq_true] at v1
  have hpl:p.length<=g.types.length:=by omega
  obtain ⟨r1,g1,g2,_⟩:=i1 g 1 z14 _ g.body (p++List.replicate (g.types.length - p.length) 0) s (by simpa using v1.1) v1.2 (by simp;omega) hi oM0
  have e:z3m u (d+1) k p s=(if z11 r1.2.2 then some (0,r1.2.2) else some (r1.1.2.headD 0,r1.2.2)):=by
    rw [z3m,if_pos hk,hg,Option.bind_some,if_pos ⟨hpl,by omega⟩,g1,Option.bind_some]
  rw [e]
  split
  ·exact ⟨_,rfl,g2⟩
  exact ⟨_,rfl,g2⟩
theorem yf1 {u:Un} {n:Nat} {B M:Int} (hB:B<=4611686018427387903) (hM:M<=1073741824) (hn:n=u.arrays.length) (hv:∀ g∈u.flows,VF u g):∀ d,LTot u n B M d/\PTot u n B M d/\CTot u n B M d/\STot u n B M d
  | 0=>⟨fun f deep w seen l a s _ _ _ hi hd=>by have:=hi.ok.1;omega,fun f deep x q seen a p s _ _ _ _ _ _ _ hi hd=>by have:=hi.ok.1;omega,fun k p s _ _ hi hd=>by have:=hi.ok.1;omega,fun x p s _ hi hd=>by have:=hi.ok.1;omega⟩
  | d+1=>by
    obtain ⟨i1,i2,i3,i4⟩:=yf1 hB hM hn hv d
    exact ⟨list_tot hB hv i1 i2 i4,loop_tot i1 i2,call_tot hv i1,fun x p s hx hi hd=>sum_tot hB hM hn hv i3 x p s hx hi hd⟩
def Holds (b:List Int) (h:Nd):Prop:=∃ p y o,mOf b h.args=some p/\y3e h p=some y/\h.outs[0]? = some o/\getV b o=some y
theorem Holds.keep {b b2:List Int} {h:Nd} (hh:Holds b h) (h1:∀ v∈h.args,getV b2 v=getV b v) (h2:∀ v∈h.outs,getV b2 v=getV b v):Holds b2 h:=by
  obtain ⟨p,y,o,g1,g2,g3,g4⟩:=hh
  exact ⟨p,y,o,by rw [y5k h1];exact g1,g2,g3,by rw [h2 o (List.mem_of_getElem? g3)];exact g4⟩
def HI (S:List Int) (H:List Nd):VR:=fun a b=>EqS S a b/\∀ h∈H,Holds b h
def HE (y lv:Bool) (S0:List Int) (H0:List Nd) (S1:List Int) (H1:List Nd):ER:=fun n p p' a b =>
  (n=12/\y=true/\p'=p/\HI S0 H0 a b)∨(n=13/\p'=p/\HI S1 H1 a b)∨(n=14/\lv=true/\p'=p/\HI S1 H1 a b)∨(n=15/\p'=p)
theorem HI.sub {S S2:List Int} {H H2:List Nd} {a b:List Int} (h:HI S H a b) (hs:∀ v∈S2,v∈S) (hh:∀ x∈H2,x∈H):HI S2 H2 a b:=⟨h.1.sub hs,fun x hx=>h.2 x (hh x hx)⟩
def Safe (H:List Nd) (S':List Int):Prop:=∀ h∈H,(∀ v∈h.args,v∈S')/\∀ v∈h.outs,v∈S'
theorem Safe.up {H:List Nd} {S' T:List Int} (h:Safe H S') (hs:∀ v∈S',v∈T):Safe H T:=fun x hx=>⟨fun v hv=>hs v ((h x hx).1 v hv),fun v hv=>hs v ((h x hx).2 v hv)⟩
theorem Safe.held {H:List Nd} {S':List Int} {b b2:List Int} (h:Safe H S') (hh:∀ x∈H,Holds b x) (he:∀ v∈S',getV b2 v=getV b v):∀ x∈H,Holds b2 x :=
  fun x hx=>(hh x hx).keep (fun v hv=>he v ((h x hx).1 v hv)) fun v hv=>he v ((h x hx).2 v hv)
structure HCx (u:Un) (f:Fl) (l l':List Nd) (H:List Nd) (S S':List Int) (w w':Wh) (deep deep':Int):Prop where
  v:vGo u f deep w S l=true
  v':vGo u f deep' w' S' l'=true
  nd:(dL l').Nodup
  fr:∀ o∈dL l',o∉S'
  sub:∀ v∈S,v∈S'
  safe:Safe H S'
theorem hmNe {x:Nd} (h:z0x x=true):x.kind≠10/\x.kind≠11/\x.kind<=4:=by
  have:=z4s h;omega
theorem z50 {u:Un} {f:Fl} {deep:Int} {w:Wh} {S:List Int} {x:Nd} {l:List Nd} (h:vGo u f deep w S (x::l)=true):z3s u f deep w S x=true/\z04 x=l.isEmpty/\vGo u f deep w (S++x.outs) l=true:=by
  unfold vGo at h
  simp only [Bool.and_eq_true,beq_iff_eq] at h
  exact ⟨h.1.1.2,h.1.2,h.2⟩
theorem y0n {u:Un} {f:Fl} {deep:Int} {w:Wh} {S:List Int} {x:Nd} (h:z3s u f deep w S x=true) (h10:x.kind≠10) (h11:x.kind≠11):(z3d u f x S w).ok f.types x.outs=true/\dN x=x.outs:=by
  have hb:=z1x u f deep w S h
  have e10:(x.kind==10)=false:=by simpa using h10
  have e11:(x.kind==11)=false:=by simpa using h11
  exact ⟨by rw [z1r u f deep w S hb e10 e11] at h;exact h,zm8 hb e10 e11⟩
theorem y5n {u:Un} {f:Fl} {deep:Int} {w:Wh} {S:List Int} {x:Nd} {ks:List (List Nd)} (h:z3s u f deep w S (mkK x ks)=true):z10 (mkK x ks)=true:=z1x u f deep w S h
theorem HR.rel {u:Un} {f:Fl} {H:List Nd} {k c:Nat} {l l':List Nd} (h:HR H k c l l'):∀ (deep:Int) (w:Wh) (S:List Int) (deep':Int) (w':Wh) (S':List Int) (y lv:Bool) (S0:List Int) (H0:List Nd) (S1:List Int) (H1:List Nd),
    l≠[]->HCx u f l l' H S S' w w' deep deep'->(∀ v∈S0,v∈S)->(∀ x∈H0,x∈H)->(∀ v∈S1,v∈S)->(∀ x∈H1,x∈H)->(z1d l=12->y=true)->(z0b l=true->lv=true)->LRel k c (HI S H) l [] l' (HE y lv S0 H0 S1 H1):=by
  induction h with
  | nil=>intro deep w S deep' w' S' y lv S0 H0 S1 H1 hne;exact absurd rfl hne
  | @keep H k c x l l' hm hl _ ih =>
    intro deep w S deep' w' S' y lv S0 H0 S1 H1 hne hc s0 h0 s1 h1 hy hlv
    obtain ⟨v1,v2,v3⟩:=z50 hc.v
    obtain ⟨v1',v2',v3'⟩:=z50 hc.v'
    obtain ⟨n10,n11,_⟩:=hmNe hm
    obtain ⟨q1,q2⟩:=y0n v1 n10 n11
    obtain ⟨a1,a2,a3,_⟩:=z65 q1
    obtain ⟨hHL,o,ho⟩:=a3 hm
    obtain ⟨b1,b2,b3⟩:=z4m (show (dN x++dL l').Nodup from hc.nd)
    have ofr:o∉S':=hc.fr o (by show o∈dN x++dL l';rw [q2,ho];exact .head _)
    refine .both (J:=HI (S++x.outs) H) hHL hHL (Nat.le_refl _) (fun a b a2 b2 hI ha hb=>?_) (ih deep w _ deep' w' _ y lv S0 H0 S1 H1 hl ⟨v3,v3',b2,fun v hv hS=>?_,fun v hv=>?_,hc.safe.up fun v hv=>List.mem_append_left _ hv⟩ (fun v hv=>List.mem_append_left _ (s0 v hv)) h0 (fun v hv=>List.mem_append_left _ (s1 v hv)) h1 (fun e=>hy (by rw [z90 hl];exact e)) fun e=>hlv (by simp [z0b,e]))
    ·obtain ⟨p,z,o1,g1,g2,g3,g4⟩:=ha
     obtain ⟨p',z',o1',g1',g2',g3',g4'⟩:=hb
     rw [hI.1.of a1,g1'] at g1
     cases g1
     rw [g2'] at g2;cases g2
     rw [ho] at g3 g3' ⊢
     obtain rfl:o=o1:=by simpa using g3
     obtain rfl:o=o1':=by simpa using g3'
     exact ⟨hI.1.set g4 g4',hc.safe.held hI.2 fun v hv=>by rw [z6a g4',if_neg (fun e=>ofr (by rw [<- e];exact hv))]⟩
    ·rcases List.mem_append.1 hS with hS | hS
     ·exact hc.fr v (List.mem_append_right _ hv) hS
     exact b3 v (by rw [q2];exact hS) hv
    rcases List.mem_append.1 hv with hv | hv
    ·exact List.mem_append_left _ (hc.sub v hv)
    exact List.mem_append_right _ hv
  | @skip H k c x l l' hm hx hl _ ih =>
    intro deep w S deep' w' S' y lv S0 H0 S1 H1 hne hc s0 h0 s1 h1 hy hlv
    obtain ⟨v1,v2,v3⟩:=z50 hc.v
    obtain ⟨n10,n11,_⟩:=hmNe hm
    obtain ⟨q1,q2⟩:=y0n v1 n10 n11
    obtain ⟨a1,a2,a3,_⟩:=z65 q1
    obtain ⟨hHL,o,ho⟩:=a3 hm
    refine .paid (J:=HI (S++x.outs) H) hHL (fun a b a2 hI ha=>?_) hl (ih deep w _ deep' w' S' y lv S0 H0 S1 H1 hl ⟨v3,hc.v',hc.nd,hc.fr,fun v hv=>?_,hc.safe⟩ (fun v hv=>List.mem_append_left _ (s0 v hv)) h0 (fun v hv=>List.mem_append_left _ (s1 v hv)) h1 (fun e=>hy (by rw [z90 hl];exact e)) fun e=>hlv (by simp [z0b,e]))
    ·obtain ⟨p,z,o1,g1,g2,g3,g4⟩:=ha
     obtain ⟨p',z',o1',g1',g2',g3',g4'⟩:=hI.2 x hx
     rw [hI.1.of a1,g1'] at g1
     cases g1
     rw [g2'] at g2;cases g2
     rw [ho] at g3 g3' ⊢
     obtain rfl:o=o1:=by simpa using g3
     obtain rfl:o=o1':=by simpa using g3'
     refine ⟨fun v hv=>?_,hI.2⟩
     rw [z6a g4]
     by_cases e:v=o
     ·rw [if_pos e,e];exact g4'.symm
     rw [if_neg e]
     rcases List.mem_append.1 hv with hv | hv
     ·exact hI.1 v hv
     exact absurd (List.mem_singleton.1 hv) e
    rcases List.mem_append.1 hv with hv | hv
    ·exact hc.sub v hv
    exact (hc.safe x hx).2 v hv
  | @add H k c x l l' hm hl _ ih =>
    intro deep w S deep' w' S' y lv S0 H0 S1 H1 hne hc s0 h0 s1 h1 hy hlv
    obtain ⟨v1',v2',v3'⟩:=z50 hc.v'
    obtain ⟨n10,n11,_⟩:=hmNe hm
    obtain ⟨q1,q2⟩:=y0n v1' n10 n11
    obtain ⟨a1,a2,a3,_⟩:=z65 q1
    obtain ⟨hHL,o,ho⟩:=a3 hm
    obtain ⟨b1,b2,b3⟩:=z4m (show (dN x++dL l').Nodup from hc.nd)
    have ofr:o∉S':=hc.fr o (by show o∈dN x++dL l';rw [q2,ho];exact .head _)
    refine .add (J:=HI S (x::H)) hHL hl (fun a b b2 hI hb=>?_) (ih deep w S deep' w' _ y lv S0 H0 S1 H1 hl ⟨hc.v,v3',b2,fun v hv hS=>?_,fun v hv=>List.mem_append_left _ (hc.sub v hv),fun z hz=>?_⟩ s0 (fun z hz=>.tail _ (h0 z hz)) s1 (fun z hz=>.tail _ (h1 z hz)) hy hlv)
    ·obtain ⟨p',z',o1',g1',g2',g3',g4'⟩:=hb
     rw [ho] at g3'
     obtain rfl:o=o1':=by simpa using g3'
     have he:∀ v∈S',getV b2 v=getV b v:=fun v hv=>by rw [z6a g4',if_neg (fun e=>ofr (by rw [<- e];exact hv))]
     refine ⟨fun v hv=>by rw [he v (hc.sub v hv)];exact hI.1 v hv,fun z hz=>?_⟩
     rcases List.mem_cons.1 hz with rfl | hz
     ·exact ⟨p',z',o,by rw [y5k fun v hv=>he v (a1 v hv)];exact g1',g2',by rw [ho];rfl,by rw [z6a g4',if_pos rfl]⟩
     exact hc.safe.held hI.2 he z hz
    ·rcases List.mem_append.1 hS with hS | hS
     ·exact hc.fr v (List.mem_append_right _ hv) hS
     exact b3 v (by rw [q2];exact hS) hv
    rcases List.mem_cons.1 hz with rfl | hz
    ·exact ⟨fun v hv=>List.mem_append_left _ (a1 v hv),fun v hv=>List.mem_append_right _ hv⟩
    exact ⟨fun v hv=>List.mem_append_left _ ((hc.safe z hz).1 v hv),fun v hv=>List.mem_append_left _ ((hc.safe z hz).2 v hv)⟩
  | @eff H x l l' hm n10 n11 _ ih =>
    intro deep w S deep' w' S' y lv S0 H0 S1 H1 hne hc s0 h0 s1 h1 hy hlv
    obtain ⟨v1,v2,v3⟩:=z50 hc.v
    obtain ⟨v1',v2',v3'⟩:=z50 hc.v'
    obtain ⟨q1,q2⟩:=y0n v1 n10 n11
    obtain ⟨a1,a2,a3,a4,a5⟩:=z65 q1
    have n1:x.kind≠1:=fun e=>by rw [z0x,e] at hm;cases hm
    have n2:x.kind≠2:=fun e=>by rw [z0x,e] at hm;cases hm
    have cl:z04 x=z0o x.kind:=by
      have e10:(x.kind==10)=false:=by simpa using n10
      have e11:(x.kind==11)=false:=by simpa using n11
      unfold z04;rw [e10,e11];rfl
    by_cases hE:12<=x.kind
    ·have hE2:=a5 hE
     have hl0:l=[]:=by
       rw [cl,show z0o x.kind=true by simp [z0o];omega] at v2
       cases l with
       | nil=>rfl
       | cons z r=>cases v2
     refine .ender hE hE2 rfl (.inl rfl) fun a b p p' hI g g'=>?_
     rw [hI.1.of a1,g'] at g
     cases g
     rcases (show x.kind=12∨x.kind=13∨x.kind=14∨x.kind=15 by omega) with e | e | e | e
     ·exact .inl ⟨e,hy (by rw [hl0,y5e,e];rfl),rfl,hI.sub s0 h0⟩
     ·exact .inr (.inl ⟨e,rfl,hI.sub s1 h1⟩)
     ·exact .inr (.inr (.inl ⟨e,hlv (by simp [z0b,z2h,e]),rfl,hI.sub s1 h1⟩))
     exact .inr (.inr (.inr ⟨e,rfl⟩))
    have hl:l≠[]:=by
      rw [cl,show z0o x.kind=false by simp [z0o];omega] at v2
      intro e;rw [e] at v2;cases v2
    obtain ⟨b1,b2,b3⟩:=z4m (show (dN x++dL l').Nodup from hc.nd)
    refine .eff (J:=HI (S++x.outs) H) ⟨n1,n2,n10,n11,by omega,by omega,by omega,by omega⟩ rfl rfl rfl rfl (fun a b p p' hI g g'=>?_) (fun a b a2' b2' z hI ha hb=>?_) (ih deep w _ deep' w' _ y lv S0 H0 S1 H1 hl ⟨v3,v3',b2,fun v hv hS=>?_,fun v hv=>?_,hc.safe.up fun v hv=>List.mem_append_left _ hv⟩ (fun v hv=>List.mem_append_left _ (s0 v hv)) h0 (fun v hv=>List.mem_append_left _ (s1 v hv)) h1 (fun e=>hy (by rw [z90 hl];exact e)) fun e=>hlv (by simp [z0b,e]))
    ·rw [hI.1.of a1,g'] at g;exact Option.some.inj g
    ·exact ⟨hI.1.setO a2 ha hb,hc.safe.held hI.2 fun v hv=>setO_get hb fun e=>hc.fr v (by show v∈dN x++dL l';rw [q2];exact List.mem_append_left _ e) hv⟩
    ·rcases List.mem_append.1 hS with hS | hS
     ·exact hc.fr v (List.mem_append_right _ hv) hS
     exact b3 v (by rw [q2];exact hS) hv
    rcases List.mem_append.1 hv with hv | hv
    ·exact List.mem_append_left _ (hc.sub v hv)
    exact List.mem_append_right _ hv
  | @ite H x q0 q1 q0' q1' l l' h10 hq _ _ _ i0 i1 ih =>
    intro deep w S deep' w' S' y lv S0 H0 S1 H1 hne hc s0 h0 s1 h1 hy hlv
    obtain ⟨v1,v2,v3⟩:=z50 hc.v
    obtain ⟨v1',v2',v3'⟩:=z50 hc.v'
    have hb:=z1x u f deep w S v1
    have hb':=y5n v1'
    have eo:(mkK x [q0',q1']).outs=x.outs:=rfl
    rw [z46 u f deep w S hb h10 hq] at v1
    rw [z46 u f deep' w' S' hb' (x:=mkK x [q0',q1']) h10 rfl] at v1'
    simp only [Bool.and_eq_true,z2j] at v1 v1'
    have hargs:=z1w v1.1.1.1.1
    have edN:dN (mkK x [q0',q1'])=dL q0'++(dL q1'++x.outs):=dN_if hb' h10 rfl
    obtain ⟨b1,b2,b3⟩:=z4m (show (dN (mkK x [q0',q1'])++dL l').Nodup from hc.nd)
    have fr1:∀ o∈dN (mkK x [q0',q1']),o∉S':=fun o ho=>hc.fr o (List.mem_append_left _ ho)
    rw [edN] at b1 b3 fr1
    obtain ⟨c1,c2,c3⟩:=z4m b1
    obtain ⟨d1,d2,d3⟩:=z4m c2
    have hcl:z04 x=((z1d q0 != 12)&&(z1d q1 != 12)):=by simp [z04,h10,hq,kid0,kid1]
    have hlq:∀ q,q=q0∨q=q1->z0b q=true->lv=true:=fun q hq' e=>hlv (by
      have:z1k x=true:=by rw [z2h,h10,hq];rcases hq' with rfl | rfl<;>simp [z29,e]
      simp [z0b,this])
    have hout:∀ {p b b2},mSet b x.outs p=some b2->∀ v∈S',getV b2 v=getV b v:=fun g v hv=>zk8 g fun e=>fr1 v (by simp [e]) hv
    cases hcx:z04 x with
    | true =>
      have hl0:l=[]:=by rw [hcx] at v2;cases l with
        | nil=>rfl
        | cons z r=>cases v2
      rw [hcx] at hcl
      have hcl2:z1d q0≠12/\z1d q1≠12:=by
        have:=hcl.symm
        simpa using this
      refine .ite (J:=fun _ _=>False) (E2:=HE false lv S H S1 H1) h10 h10 hq rfl (fun a b p p' hI g g'=>?_) (i0 _ _ S _ _ S' false lv S H S1 H1 (by simpa using v1.1.1.1.2.1) ⟨v1.1.1.1.2.2,v1'.1.1.1.2.2,c1,fun o ho=>fr1 o (by simp [ho]),hc.sub,hc.safe⟩ (fun _ h=>h) (fun _ h=>h) s1 h1 (fun e=>absurd e hcl2.1) (hlq q0 (.inl rfl)))
        (i1 _ _ S _ _ S' false lv S H S1 H1 (by simpa using v1.1.1.2.1) ⟨v1.1.1.2.2,v1'.1.1.2.2,d1,fun o ho=>fr1 o (by simp [ho]),hc.sub,hc.safe⟩ (fun _ h=>h) (fun _ h=>h) s1 h1 (fun e=>absurd e hcl2.2) (hlq q1 (.inr rfl))) (fun n p p' a b he=>?_) (.dead fun _ _ h=>h)
      ·rw [hI.1.of hargs,show x.args=(mkK x [q0',q1']).args from rfl,g'] at g;rw [Option.some.inj g]
      rcases he with ⟨_,e,_⟩ | e | e | e
      ·cases e
      ·exact .inr ⟨by rw [e.1];decide,by rw [e.1];decide,.inl rfl,.inr (.inl e)⟩
      ·exact .inr ⟨by rw [e.1];decide,by rw [e.1];decide,.inl rfl,.inr (.inr (.inl e))⟩
      exact .inr ⟨by rw [e.1];decide,by rw [e.1];decide,.inl rfl,.inr (.inr (.inr e))⟩
    | false =>
      have hl:l≠[]:=by rw [hcx] at v2;intro e;rw [e] at v2;cases v2
      refine .ite (J:=HI (S++x.outs) H) (E2:=HE true lv S H S1 H1) h10 h10 hq rfl (fun a b p p' hI g g'=>?_) (i0 _ _ S _ _ S' true lv S H S1 H1 (by simpa using v1.1.1.1.2.1) ⟨v1.1.1.1.2.2,v1'.1.1.1.2.2,c1,fun o ho=>fr1 o (by simp [ho]),hc.sub,hc.safe⟩ (fun _ h=>h) (fun _ h=>h) s1 h1 (fun _=>rfl) (hlq q0 (.inl rfl)))
        (i1 _ _ S _ _ S' true lv S H S1 H1 (by simpa using v1.1.1.2.1) ⟨v1.1.1.2.2,v1'.1.1.2.2,d1,fun o ho=>fr1 o (by simp [ho]),hc.sub,hc.safe⟩ (fun _ h=>h) (fun _ h=>h) s1 h1 (fun _=>rfl) (hlq q1 (.inr rfl))) (fun n p p' a b he=>?_)
        (ih deep w _ deep' w' _ y lv S0 H0 S1 H1 hl ⟨v3,v3',b2,fun v hv hS=>?_,fun v hv=>?_,hc.safe.up fun v hv=>List.mem_append_left _ hv⟩ (fun v hv=>List.mem_append_left _ (s0 v hv)) h0 (fun v hv=>List.mem_append_left _ (s1 v hv)) h1 (fun e=>hy (by rw [z90 hl];exact e)) fun e=>hlv (by simp [z0b,e]))
      ·rw [hI.1.of hargs,show x.args=(mkK x [q0',q1']).args from rfl,g'] at g;rw [Option.some.inj g]
      ·rcases he with ⟨e1,_,rfl,e3⟩ | e | e | e
       ·exact .inl ⟨e1,fun a2 b2 g g'=>⟨e3.1.msets g g',hc.safe.held e3.2 (hout g')⟩⟩
       ·exact .inr ⟨by rw [e.1];decide,by rw [e.1];decide,.inl rfl,.inr (.inl e)⟩
       ·exact .inr ⟨by rw [e.1];decide,by rw [e.1];decide,.inl rfl,.inr (.inr (.inl e))⟩
       exact .inr ⟨by rw [e.1];decide,by rw [e.1];decide,.inl rfl,.inr (.inr (.inr e))⟩
      ·rcases List.mem_append.1 hS with hS | hS
       ·exact hc.fr v (List.mem_append_right _ hv) hS
       exact b3 v (by simp [show v∈x.outs from hS]) hv
      rcases List.mem_append.1 hv with hv | hv
      ·exact List.mem_append_left _ (hc.sub v hv)
      exact List.mem_append_right _ hv
  | @loop H k c x q q' l l' h11 hq _ _ i0 ih =>
    intro deep w S deep' w' S' y lv S0 H0 S1 H1 hne hc s0 h0 s1 h1 hy hlv
    obtain ⟨v1,v2,v3⟩:=z50 hc.v
    obtain ⟨v1',v2',v3'⟩:=z50 hc.v'
    have hb:=z1x u f deep w S v1
    have hb':=y5n v1'
    rw [z2d u f deep w S hb h11 hq] at v1
    rw [z2d u f deep' w' S' hb' (x:=mkK x [q']) h11 rfl] at v1'
    simp only [Bool.and_eq_true,z2j] at v1 v1'
    have hargs:=z1w v1.1.1.1.1
    have edN:dN (mkK x [q'])=x.params++(dL q'++x.outs):=y35 rfl
    obtain ⟨b1,b2,b3⟩:=z4m (show (dN (mkK x [q'])++dL l').Nodup from hc.nd)
    have fr1:∀ o∈dN (mkK x [q']),o∉S':=fun o ho=>hc.fr o (List.mem_append_left _ ho)
    rw [edN] at b1 b3 fr1
    obtain ⟨c1,c2,c3⟩:=z4m b1
    obtain ⟨d1,d2,d3⟩:=z4m c2
    have hcl:z04 x = !z0b q:=by simp [z04,h11,hq,kid0]
    have hqne:q≠[]:=by simpa using v1.1.1.2.1
    have hpar:∀ {p b b2},mSet b x.params p=some b2->∀ v∈S',getV b2 v=getV b v:=fun g v hv=>zk8 g fun e=>fr1 v (by simp [e]) hv
    have hout:∀ {p b b2},mSet b x.outs p=some b2->∀ v∈S',getV b2 v=getV b v:=fun g v hv=>zk8 g fun e=>fr1 v (by simp [e]) hv
    have body:LRel k c (HI (S++x.params) H) q [] q' (HE false (z0b q) [] [] S H) :=
      i0 _ _ (S++x.params) _ _ (S'++x.params) false (z0b q) [] [] S H hqne ⟨v1.1.1.2.2,v1'.1.1.2.2,d1,fun o ho hS=>by
        rcases List.mem_append.1 hS with hS | hS
        · exact fr1 o (by simp [ho]) hS
        · exact c3 o hS (by simp [ho]),fun v hv=>by
        rcases List.mem_append.1 hv with hv | hv
        · exact List.mem_append_left _ (hc.sub v hv)
        · exact List.mem_append_right _ hv,hc.safe.up fun v hv=>List.mem_append_left _ hv⟩ (fun _ h=>by simp at h) (fun _ h=>by simp at h) (fun v hv=>List.mem_append_left _ hv) (fun _ h=>h) (fun e=>by have:=y9m v1.1.1.2.2 e;cases this) (fun e=>e)
    have ent:∀ a b p p' a2 b2,HI S H a b->mOf a x.args=some p->mOf b (mkK x [q']).args=some p'->mSet a x.params p=some a2->mSet b (mkK x [q']).params p'=some b2->HI (S++x.params) H a2 b2:=by
      intro a b p p' a2 b2 hI g g' t t'
      rw [hI.1.of hargs,show x.args=(mkK x [q']).args from rfl,g'] at g
      cases g
      exact ⟨hI.1.msets t t',hc.safe.held hI.2 (hpar t')⟩
    cases hcx:z04 x with
    | true =>
      rw [hcx] at hcl
      refine .loop (J:=fun _ _=>False) (E2:=HE false (z0b q) [] [] S H) h11 h11 hq rfl ent body (fun n p p' a b he=>?_) (.dead fun _ _ h=>h)
      rcases he with ⟨_,e,_⟩ | ⟨e1,rfl,e3⟩ | ⟨_,e2,_⟩ | ⟨e1,e2⟩
      ·cases e
      ·exact .inr (.inr ⟨e1,fun a2 b2 t t'=>⟨e3.1.msets t t',hc.safe.held e3.2 (hpar t')⟩⟩)
      ·rw [e2] at hcl;cases hcl
      exact .inl ⟨e1,.inr (.inr (.inr ⟨rfl,e2⟩))⟩
    | false =>
      have hl:l≠[]:=by rw [hcx] at v2;intro e;rw [e] at v2;cases v2
      refine .loop (J:=HI (S++x.outs) H) (E2:=HE false (z0b q) [] [] S H) h11 h11 hq rfl ent body (fun n p p' a b he=>?_)
        (ih deep w _ deep' w' _ y lv S0 H0 S1 H1 hl ⟨v3,v3',b2,fun v hv hS=>?_,fun v hv=>?_,hc.safe.up fun v hv=>List.mem_append_left _ hv⟩ (fun v hv=>List.mem_append_left _ (s0 v hv)) h0 (fun v hv=>List.mem_append_left _ (s1 v hv)) h1 (fun e=>hy (by rw [z90 hl];exact e)) fun e=>hlv (by simp [z0b,e]))
      ·rcases he with ⟨_,e,_⟩ | ⟨e1,rfl,e3⟩ | ⟨e1,_,rfl,e3⟩ | ⟨e1,e2⟩
       ·cases e
       ·exact .inr (.inr ⟨e1,fun a2 b2 t t'=>⟨e3.1.msets t t',hc.safe.held e3.2 (hpar t')⟩⟩)
       ·exact .inr (.inl ⟨e1,fun a2 b2 t t'=>⟨e3.1.msets t t',hc.safe.held e3.2 (hout t')⟩⟩)
       exact .inl ⟨e1,.inr (.inr (.inr ⟨rfl,e2⟩))⟩
      ·rcases List.mem_append.1 hS with hS | hS
       ·exact hc.fr v (List.mem_append_right _ hv) hS
       exact b3 v (by simp [show v∈x.outs from hS]) hv
      rcases List.mem_append.1 hv with hv | hv
      ·exact List.mem_append_left _ (hc.sub v hv)
      exact List.mem_append_right _ hv
def G (m:Bool) (N k w:Nat) (F F':Int):Prop:=if m then F<=F'+k else F'*(N+1)+w<=F
theorem g_mul (F':Int) (N:Nat):(F' - 1)*((N:Int)+1)=F'*(N+1) - N - 1:=by rw [Int.sub_mul];omega
theorem G.step {m:Bool} {N k w:Nat} {F F':Int} (h:G m N k w F F') (hw:1<=w):G m N k (N+1) (F - 1) (F' - 1):=by
  unfold G at h ⊢
  cases m with
  | true=>simp only [if_true] at h ⊢;omega
  | false =>
    simp only [Bool.false_eq_true,if_false] at h ⊢
    rw [g_mul];generalize F'*((N:Int)+1)=P at h ⊢;omega
theorem G.weak {m:Bool} {N k w k2 w2:Nat} {F F':Int} (h:G m N k w F F') (hk:k<=k2) (hw:w2<=w):G m N k2 w2 F F':=by
  unfold G at h ⊢
  cases m with
  | true=>simp only [if_true] at h ⊢;omega
  | false=>simp only [Bool.false_eq_true,if_false] at h ⊢;omega
theorem G.left {m:Bool} {N k w:Nat} {F F':Int} (h:G m N k (w+1) F F'):G m N k w (F - 1) F':=by
  unfold G at h ⊢
  cases m with
  | true=>simp only [if_true] at h ⊢;omega
  | false=>simp only [Bool.false_eq_true,if_false] at h ⊢;omega
theorem G.pay {m:Bool} {N k w:Nat} {F F':Int} (h:G m N (k+1) (w+1) F F'):G m N k w (F - 1) F':=by
  unfold G at h ⊢
  cases m with
  | true=>simp only [if_true] at h ⊢;omega
  | false=>simp only [Bool.false_eq_true,if_false] at h ⊢;omega
theorem G.right {m:Bool} {N k w:Nat} {F F':Int} (h:G m N k w F F'):G m N (k+1) w F (F' - 1):=by
  unfold G at h ⊢
  cases m with
  | true=>simp only [if_true] at h ⊢;omega
  | false =>
    simp only [Bool.false_eq_true,if_false] at h ⊢
    rw [g_mul];generalize F'*((N:Int)+1)=P at h ⊢;omega
structure Alike (s s':Rs):Prop where
  l:Live s
  l':Live s'
  ins:s'.ins=s.ins
  ar:s'.ar=s.ar
  out:s'.out=s.out
  code:s'.code=s.code
structure RelR (m:Bool) (N k w c:Nat) (s s':Rs):Prop where
  al:Alike s s'
  g:G m N k w s.fuel s'.fuel
  co:s'.cost<=s.cost+c
structure Halt (m:Bool) (s s':Rs):Prop where
  st:s.st≠0
  st':s'.st=s.st
  sp:s.spent=false
  sp':s'.spent=false
  out:s'.out=s.out
  code:s'.code=s.code
  co:s'.cost<=s.cost
  fu:m=true->s.fuel<=s'.fuel
def Cut (m:Bool) (s s':Rs):Prop:=if m then s.spent=true/\s.st=0/\s.out <+: s'.out else s'.spent=true/\s'.st=0/\s'.out <+: s.out
inductive RR (m:Bool) (N:Nat) (E:ER) (r r':Rres):Prop
  | ok:r'.1.1=r.1.1->E r.1.1 r.1.2 r'.1.2 r.2.1 r'.2.1->RelR m N 0 (N+1) 0 r.2.2 r'.2.2->RR m N E r r'
  | halt:Halt m r.2.2 r'.2.2->RR m N E r r'
  | cut:Cut m r.2.2 r'.2.2->RR m N E r r'
inductive RC (m:Bool) (N:Nat) (q q':Int × Rs):Prop
  | ok:q'.1=q.1->RelR m N 0 (N+1) 0 q.2 q'.2->RC m N q q'
  | halt:Halt m q.2 q'.2->RC m N q q'
  | cut:Cut m q.2 q'.2->RC m N q q'
theorem Halt.over {m:Bool} {s s':Rs} (h:Halt m s s'):z11 s=true/\z11 s'=true:=by
  have h1:=h.st
  have h2:=h.st'
  unfold z11
  rw [h2]
  have:(s.st != 0)=true:=by simpa using h1
  rw [this,Bool.or_true,Bool.or_true]
  exact ⟨rfl,rfl⟩
section
section
variable {u v:Un} {D:Nat} {B:Int} {m:Bool} {N:Nat}
theorem zt7 {k w c:Nat} {E:ER} {s s':Rs} {a:List Int} {r r':Rres} (h:RelR m N k w c s s') (hw:1<=w) (hf:s.fuel<1) (h0:0<=s'.fuel) (ho:s'.out <+: r'.2.2.out) (hr:r=((0,[]),a,gone s)):RR m N E r r':=by
  subst hr
  cases m with
  | true=>exact .cut (by unfold Cut;rw [if_pos rfl];exact ⟨rfl,h.al.l.2,by show s.out <+: _;rw [<- h.al.out];exact ho⟩)
  | false =>
    have:=h.g
    unfold G at this
    simp only [Bool.false_eq_true,if_false] at this
    have h2:0<=s'.fuel*((N:Int)+1):=Int.mul_nonneg h0 oM0
    omega
theorem poor (hB:B<=4611686018427387903) {k c:Nat} {I:VR} {l:List Nd} {K:List KF} {l':List Nd} {E:ER} (h:LRel k c I l K l' E) :
    ∀ (D:Nat) (a:List Int) (s:Rs) (r:Rres),KRun u D l K a s r->Oks B s->Live s->l≠[]->s.fuel<=k->r.2.2.spent=true/\r.2.2.st=0/\r.2.2.out=s.out:=by
  have G0:∀ {s:Rs} {a:List Int} {r:Rres},Live s->r=((0,[]),a,gone s)->r.2.2.spent=true/\r.2.2.st=0/\r.2.2.out=s.out:=fun hl e=>by subst e;exact ⟨rfl,hl.2,rfl⟩
  have Z:∀ {D:Nat} {l:List Nd} {K:List KF} {a:List Int} {s:Rs} {r:Rres},KRun u D l K a s r->Oks B s->Live s->l≠[]->s.fuel<=(0:Nat)->r.2.2.spent=true/\r.2.2.st=0/\r.2.2.out=s.out:=by
    intro D l K a s r hk ho hl hn hf
    cases l with
    | nil=>exact absurd rfl hn
    | cons x l =>
      rcases zj7 hB hk ho hl with ⟨_,e⟩ | ⟨e,_⟩
      ·exact G0 hl e
      exact absurd hf (by simp;omega)
  have ne:∀ {k c:Nat} {I:VR} {l:List Nd} {K:List KF} {l':List Nd} {E:ER} {f:Int},LRel k c I l K l' E->1<=f->f<=k->l≠[]:=by
    intro k c I l K l' E f h h1 h2 e
    have:=LRel.nil h e
    subst this
    simp at h2;omega
  induction h with
  | dead _=>exact fun _ _ _ _=>Z
  | weak _ _ ih=>exact ih
  | both hx _ _ _ hL ih =>
    intro D a s r hk ho hl hn hf
    rcases y1e hB hx hk ho hl with ⟨_,e⟩ | ⟨e,a2,_,h2⟩
    ·exact G0 hl e
    have t:=ih _ _ _ _ h2 (zi6 ho e) (zy8 (z5g hl)) (ne hL e hf) (by show s.fuel - 1<=_;omega)
    exact t
  | skip hx _ hL ih =>
    intro D a s r hk ho hl hn hf
    rcases y1e hB hx hk ho hl with ⟨_,e⟩ | ⟨e,a2,_,h2⟩
    ·exact G0 hl e
    have t:=ih _ _ _ _ h2 (zi6 ho e) (zy8 (z5g hl)) (ne hL e hf) (by show s.fuel - 1<=_;omega)
    exact t
  | paid hx _ hne hL ih =>
    intro D a s r hk ho hl hn hf
    rcases y1e hB hx hk ho hl with ⟨_,e⟩ | ⟨e,a2,_,h2⟩
    ·exact G0 hl e
    have t:=ih _ _ _ _ h2 (zi6 ho e) (zy8 (z5g hl)) hne (by show s.fuel - 1<=_;omega)
    exact t
  | add _ _ _ _ ih =>
    intro D a s r hk ho hl hn hf
    exact ih _ _ _ _ hk ho hl hn oM0
  | eff=>exact fun _ _ _ _=>Z
  | ite=>exact fun _ _ _ _=>Z
  | ender=>exact fun _ _ _ _=>Z
  | loop hx _ hq _ _ hL _ _ ih _ =>
    intro D a s r hk ho hl hn hf
    rcases zj7 hB hk ho hl with ⟨_,e⟩ | ⟨e,d1,p,r1,_,_,h3,h4⟩
    ·exact G0 hl e
    have h5:=z5p h3 (by rw [hx];rfl)
    have ho1:=(z3u ho e).1
    obtain ⟨d2,v2,q2,r2,rfl,_,g2,g3,g4⟩:=z4c h5
    rw [hq] at g2
    obtain rfl:=Option.some.inj g2
    have h6:=ih d2 v2 (dec s) r2 ⟨d2,r2,Nat.le_refl _,g3,by split<;>rfl⟩ ho1 (z5g hl) (ne hL e hf) (by show s.fuel - 1<=_;omega)
    have hov:z11 r2.2.2=true:=by unfold z11;rw [h6.1];rfl
    rw [hov] at g4
    cases g4
    rcases h4 with ⟨_,h4⟩ | ⟨h4,_⟩ | ⟨h4,_⟩
    ·subst h4;exact h6
    ·rw [z0r h4] at hov;cases hov
    rw [z0r h4] at hov;cases hov
  | once hx hq _ hL ih =>
    intro D a s r hk ho hl hn hf
    rcases y1t hB hx hq hk ho hl with ⟨_,e⟩ | ⟨e,p,a2,_,_,h2⟩
    ·exact G0 hl e
    have t:=ih _ _ _ _ h2 (z3u ho e).1 (z5g hl) (ne hL e hf) (by show s.fuel - 1<=_;omega)
    exact t
  | leave hy hy2 _ hL ih =>
    intro D a s r hk ho hl hn hf
    rcases zv6 hB hy hy2 hk ho hl with ⟨_,e⟩ | ⟨e,p,a2,_,_,h2⟩
    ·exact G0 hl e
    have t:=ih _ _ _ _ h2 (z3u ho e).1 (z5g hl) (ne hL e hf) (by show s.fuel - 1<=_;omega)
    exact t
  | fork hx hq hL0 hL1 ih0 ih1 =>
    intro D a s r hk ho hl hn hf
    rcases y18 hB hx hq hk ho hl with ⟨_,e⟩ | ⟨e,q,hq',h2⟩
    ·exact G0 hl e
    rcases hq' with rfl | rfl
    ·have t:=ih0 _ _ _ _ h2 (z3u ho e).1 (z5g hl) (ne hL0 e hf) (by show s.fuel - 1<=_;omega)
     exact t
    have t:=ih1 _ _ _ _ h2 (z3u ho e).1 (z5g hl) (ne hL1 e hf) (by show s.fuel - 1<=_;omega)
    exact t
theorem y7x {k w c:Nat} {I:VR} {l:List Nd} {K:List KF} {l':List Nd} {E:ER} {a b:List Int} {s s':Rs} {r r':Rres} (hB:B<=4611686018427387903) (hL:LRel k c I l K l' E) (hn:l≠[]) (hk:KRun u D l K a s r) (ho:Oks B s)
    (h:RelR m N k w c s s') (hf:s'.fuel<1) (hr:r'=((0,[]),b,gone s')):RR m N E r r':=by
  subst hr
  refine .cut ?_
  unfold Cut
  cases m with
  | true =>
    rw [if_pos rfl]
    have hg:=h.g
    unfold G at hg
    simp only [if_true] at hg
    obtain ⟨h1,h2,h3⟩:=poor hB hL _ _ _ _ hk ho h.al.l hn oM0
    exact ⟨h1,h2,by rw [h3];show s.out <+: s'.out;rw [h.al.out];exact List.prefix_refl _⟩
  | false =>
    rw [if_neg dC0]
    refine ⟨rfl,h.al.l'.2,?_⟩
    show s'.out <+: _
    rw [h.al.out]
    exact hk.out hB ho
def upd (s:Rs) (ins:List Int) (ar:List (List Int)) (st:Int) (out:List Int):Rs:={ bmp s with ins:=ins,ar:=ar,st:=st,out:=out }
theorem ye7 {d d':Nat} {x x':Nd} {p:List Int} {s s':Rs} {q q':Int × Rs} (hk:x'.kind=x.kind) (hop:x'.op=x.op) (hnm:x'.name=x.name) (h7:x.kind≠7) (hA:v.arrays=u.arrays)
    (hB:B<=4611686018427387903) (ho:Oks B s) (ho':Oks B s') (hal:Alike s s') (h:mSum u d x p s=some q) (h':mSum v d' x' p s'=some q') :
    q'.1=q.1/\∃ ins ar st out,q.2=upd s ins ar st out/\q'.2=upd s' ins ar st out:=by
  obtain ⟨d,rfl⟩:=z6c h
  obtain ⟨d',rfl⟩:=z6c h'
  have e:=zi0 hB ho
  have e':=zi0 hB ho'
  obtain ⟨hl,hl',i1,i2,i3,i4⟩:=hal
  have U:bmp s=upd s s.ins s.ar s.st s.out:=rfl
  have U':bmp s'=upd s' s.ins s.ar s.st s.out:=by unfold upd bmp;rw [<- i1,<- i2,<- i3,hl.2,<- hl'.2]
  have ne:∀ {i:Int},x.kind≠i->(x.kind==i)=false:=fun h=>beq_eq_false_iff_ne.2 h
  have ne':∀ {i:Int},x.kind≠i->(x'.kind==i)=false:=fun h=>beq_eq_false_iff_ne.2 (by rw [hk];exact h)
  by_cases k3:x.kind=3
  ·obtain ⟨a0,g1,rfl⟩:=z91 h (beq_iff_eq.2 k3)
   obtain ⟨a0',g1',rfl⟩:=z91 h' (beq_iff_eq.2 (hk.trans k3))
   rw [g1] at g1';cases g1'
   rw [e,e',hop];exact ⟨rfl,_,_,_,_,U,U'⟩
  by_cases k4:x.kind=4
  ·obtain ⟨a0,a1,g1,g2,rfl⟩:=z92 h (beq_iff_eq.2 k4)
   obtain ⟨a0',a1',g1',g2',rfl⟩:=z92 h' (beq_iff_eq.2 (hk.trans k4))
   rw [g1] at g1';cases g1'
   rw [g2] at g2';cases g2'
   rw [e,e',hop]
   refine ⟨rfl,?_⟩
   cases (mTwo x.op a0 a1).2 with
   | true=>exact ⟨_,_,_,_,U,U'⟩
   | false=>exact ⟨s.ins,s.ar,2,s.out,rfl,by show ({ bmp s' with st:=2 }:Rs)=_;rw [U'];rfl⟩
  have cell:∀ (k n:Int) (q q':Bool × Rs),z89 (bmp s) k n=some q->z89 (bmp s') k n=some q'->q'.1=q.1/\((q.1=false->q.2=upd s s.ins s.ar 3 s.out/\q'.2=upd s' s.ins s.ar 3 s.out)):=by
    intro k n q q' g g'
    rw [U'] at g'
    unfold z89 at g g'
    have S:({ upd s' s.ins s.ar s.st s.out with st:=3 }:Rs)=upd s' s.ins s.ar 3 s.out:=rfl
    split at g
    ·rename_i c1
     rw [if_pos c1] at g'
     cases g;cases g'
     exact ⟨rfl,fun _=>⟨rfl,S⟩⟩
    rename_i c1
    rw [if_neg c1] at g'
    split at g
    ·rename_i c2
     rw [if_pos c2] at g'
     obtain ⟨row,r1,r2⟩:=Option.bind_eq_some_iff.1 g
     obtain ⟨row',r1',r2'⟩:=Option.bind_eq_some_iff.1 g'
     have:s.ar[k.toNat]? = some row:=r1
     have h2:s.ar[k.toNat]? = some row':=r1'
     rw [this] at h2;cases h2
     split at r2
     ·rename_i c3
      rw [if_pos c3] at r2'
      cases r2;cases r2'
      exact ⟨rfl,fun _=>⟨rfl,S⟩⟩
     rename_i c3
     rw [if_neg c3] at r2'
     cases r2;cases r2'
     exact ⟨rfl,fun h=>by cases h⟩
    cases g
  by_cases k5:x.kind=5
  ·obtain ⟨a0,b,t,g1,g2,g3⟩:=z6u h k5
   obtain ⟨a0',b',t',g1',g2',g3'⟩:=z6u h' (hk.trans k5)
   rw [g1] at g1';cases g1'
   rw [e] at g2 g3
   rw [e'] at g2' g3'
   rw [hA,hnm] at g2' g3'
   obtain ⟨c1,c2⟩:=cell _ _ _ _ g2 g2'
   have c1:b'=b:=c1
   subst c1
   rcases g3 with ⟨rfl,rfl⟩ | ⟨rfl,row,y,h4,h5,rfl⟩
   ·rcases g3' with ⟨_,rfl⟩ | ⟨h0,_⟩
    ·obtain ⟨c3,c4⟩:=c2 rfl
     exact ⟨rfl,_,_,_,_,c3,c4⟩
    cases h0
   rcases g3' with ⟨h0,_⟩ | ⟨_,row',y',h4',h5',rfl⟩
   ·cases h0
   rw [U'] at h4'
   have e1:s.ar[(z0f x.name u.arrays 0).toNat]? = some row:=h4
   have e2:s.ar[(z0f x.name u.arrays 0).toNat]? = some row':=h4'
   rw [e1] at e2;cases e2
   rw [h5] at h5';cases h5'
   exact ⟨rfl,_,_,_,_,U,U'⟩
  by_cases k6:x.kind=6
  ·obtain ⟨a0,b,t,g1,g2,g3⟩:=z5x h k6
   obtain ⟨a0',b',t',g1',g2',g3'⟩:=z5x h' (hk.trans k6)
   rw [g1] at g1';cases g1'
   rw [e] at g2 g3
   rw [e'] at g2' g3'
   rw [hA,hnm] at g2' g3'
   obtain ⟨c1,c2⟩:=cell _ _ _ _ g2 g2'
   have c1:b'=b:=c1
   subst c1
   rcases g3 with ⟨rfl,rfl⟩ | ⟨rfl,row,y,h4,h5,rfl⟩
   ·rcases g3' with ⟨_,rfl⟩ | ⟨h0,_⟩
    ·obtain ⟨c3,c4⟩:=c2 rfl
     exact ⟨rfl,_,_,_,_,c3,c4⟩
    cases h0
   rcases g3' with ⟨h0,_⟩ | ⟨_,row',y',h4',h5',rfl⟩
   ·cases h0
   rw [U'] at h4'
   have e1:s.ar[(z0f x.name u.arrays 0).toNat]? = some row:=h4
   have e2:s.ar[(z0f x.name u.arrays 0).toNat]? = some row':=h4'
   rw [e1] at e2;cases e2
   rw [h5] at h5';cases h5'
   refine ⟨rfl,s.ins,s.ar.set (z0f x.name u.arrays 0).toNat (row.set a0.toNat y),s.st,s.out,rfl,?_⟩
   rw [U'];rfl
  by_cases k9:x.kind=9
  ·obtain ⟨a0,g1,_,rfl⟩:=z6v h (beq_iff_eq.2 k9)
   obtain ⟨a0',g1',_,rfl⟩:=z6v h' (beq_iff_eq.2 (hk.trans k9))
   rw [g1] at g1';cases g1'
   rw [e,e',U',i3]
   exact ⟨rfl,s.ins,s.ar,s.st,s.out++[a0],rfl,rfl⟩
  by_cases k8:x.kind=8
  ·have R1:=z8c h (beq_iff_eq.2 k8)
   have R2:=z8c h' (beq_iff_eq.2 (hk.trans k8))
   rw [e] at R1
   rw [e',U',i1] at R2
   rcases R1 with ⟨c1,rfl⟩ | ⟨y,z,c1,rfl⟩
   ·rcases R2 with ⟨c2,rfl⟩ | ⟨y',z',c2,rfl⟩
    ·exact ⟨rfl,s.ins,s.ar,4,s.out,rfl,rfl⟩
    rw [c1] at c2;cases c2
   rcases R2 with ⟨c2,rfl⟩ | ⟨y',z',c2,rfl⟩
   ·rw [c1] at c2;cases c2
   rw [c1] at c2;cases c2
   exact ⟨rfl,z,s.ar,s.st,s.out,rfl,rfl⟩
  obtain rfl:=z8b h (ne k3) (ne k4) (ne k5) (ne k6) (ne h7) (ne k9) (ne k8)
  obtain rfl:=z8b h' (ne' k3) (ne' k4) (ne' k5) (ne' k6) (ne' h7) (ne' k9) (ne' k8)
  rw [e,e'];exact ⟨rfl,_,_,_,_,U,U'⟩
end
end
section
def HCall (u v:Un) (D:Nat) (B:Int) (m:Bool) (N:Nat):Prop:=∀ e e' k p s s' q q',e<D->z3m u e k p s=some q->z3m v e' k p s'=some q'->Oks B s->Oks B s'->RelR m N 0 (N+1) 0 s s'->RC m N q q'
inductive RN (m:Bool) (N:Nat) (J:VR) (F:Int->Prop) (E:ER) (r r':Rres):Prop
  | go:r.1.1=0->r'.1.1=0->RelR m N 0 (N+1) 0 r.2.2 r'.2.2->J r.2.1 r'.2.1->RN m N J F E r r'
  | fin:r.1.1≠0->r'.1.1=r.1.1->F r.1.1->RelR m N 0 (N+1) 0 r.2.2 r'.2.2->E r.1.1 r.1.2 r'.1.2 r.2.1 r'.2.1->RN m N J F E r r'
  | halt:Halt m r.2.2 r'.2.2->RN m N J F E r r'
  | cut:Cut m r.2.2 r'.2.2->RN m N J F E r r'
theorem z5r {s:Rs} (h:s.spent=true):z11 s=true:=by unfold z11;rw [h];rfl
section
variable {u v:Un} {D:Nat} {B:Int} {m:Bool} {N:Nat}
theorem RelR.weak {k w c k2 w2 c2:Nat} {s s':Rs} (h:RelR m N k w c s s') (hk:k<=k2) (hw:w2<=w) (hc:c<=c2):RelR m N k2 w2 c2 s s':=⟨h.al,h.g.weak hk hw,by have:=h.co;omega⟩
theorem RelR.dec {k w c:Nat} {s s':Rs} (h:RelR m N k w c s s') (hw:1<=w):RelR m N k (N+1) c (dec s) (dec s'):=⟨⟨h.al.l,h.al.l',h.al.ins,h.al.ar,h.al.out,h.al.code⟩,h.g.step hw,h.co⟩
theorem sum_sim (hB:B<=4611686018427387903) (hA:v.arrays=u.arrays) (hP:∀ name,z02 name v.flows 0=z02 name u.flows 0) (HC:HCall u v D B m N) {d d':Nat} (hd:d<=D) {x x':Nd} {p:List Int} {s s':Rs} {q q':Int × Rs}
    (hk:x'.kind=x.kind) (hop:x'.op=x.op) (hnm:x'.name=x.name) (h:mSum u d x p s=some q) (h':mSum v d' x' p s'=some q') (ho:Oks B s) (ho':Oks B s') (ho1:s.cost+s.fuel+1<=B) (ho1':s'.cost+s'.fuel+1<=B)
    (hr:RelR m N 0 (N+1) 0 s s'):RC m N q q':=by
  by_cases k7:x.kind=7
  ·obtain ⟨d,rfl⟩:=z6c h
   obtain ⟨d',rfl⟩:=z6c h'
   have g:=z8a h (beq_iff_eq.2 k7)
   have g':=z8a h' (beq_iff_eq.2 (hk.trans k7))
   rw [zi0 hB ho] at g
   rw [zi0 hB ho',hnm,hP] at g'
   have hb:∀ {s:Rs},Oks B s->s.cost+s.fuel+1<=B->Oks B (bmp s):=fun {s} ho ho1=>⟨ho.1,by have:=ho.2.1;show 0<=s.cost+1;omega,by show s.cost+1+s.fuel<=B;omega⟩
   refine HC _ _ _ _ _ _ _ _ oM0 g g' (hb ho ho1) (hb ho' ho1') ⟨⟨hr.al.l,hr.al.l',hr.al.ins,hr.al.ar,hr.al.out,hr.al.code⟩,hr.g,?_⟩
   have:=hr.co
   show s'.cost+1<=s.cost+1+(0:Nat);omega
  obtain ⟨h1,ins,ar,st,out,h2,h3⟩:=ye7 hk hop hnm k7 hA hB ho ho' hr.al h h'
  have hco:q'.2.cost<=q.2.cost:=by rw [h2,h3];have:=hr.co;show s'.cost+1<=s.cost+1;omega
  by_cases hst:st=0
  ·subst hst
   refine .ok h1 ⟨?_,?_,by simpa using hco⟩
   ·rw [h2,h3];exact ⟨⟨hr.al.l.1,rfl⟩,⟨hr.al.l'.1,rfl⟩,rfl,rfl,rfl,hr.al.code⟩
   rw [h2,h3];exact hr.g
  refine .halt ⟨by rw [h2];exact hst,by rw [h2,h3];rfl,by rw [h2];exact hr.al.l.1,by rw [h3];exact hr.al.l'.1,by rw [h2,h3];rfl,by rw [h2,h3];exact hr.al.code,hco,fun hm=>?_⟩
  have:=hr.g
  unfold G at this
  rw [if_pos hm] at this
  rw [h2,h3];show s.fuel<=s'.fuel;simpa using this
theorem zd2 {l:List Nd} {K:List KF} {r1 r:Rres} (h:KNext u D l K r1 r) (ho:z11 r1.2.2=true):r=r1:=by
  rcases h with ⟨_,h⟩ | ⟨h,_⟩ | ⟨h,_⟩
  ·exact h
  ·rw [z0r h] at ho;cases ho
  rw [z0r h] at ho;cases ho
theorem zz3 (hB:B<=4611686018427387903) {D':Nat} {J:VR} {F:Int->Prop} {E:ER} {l l':List Nd} {K:List KF} {r1 r1' r r':Rres} (h:KNext u D l K r1 r) (h':KNext v D' l' [] r1' r') (ho:Oks B r1.2.2) (ho':Oks B r1'.2.2)
    (hR:RN m N J F E r1 r1') (hF:∀ n,F n->K=[]∨n=15) (hN:lsz l+ksz K<=N)
    (ih:∀ (D':Nat) (a b:List Int) (s s':Rs) (r r':Rres),KRun u D l K a s r->KRun v D' l' [] b s' r'->Oks B s->Oks B s'->RelR m N 0 (lsz l+ksz K) 0 s s'->lsz l+ksz K<=N->J a b->RR m N E r r'):RR m N E r r':=by
  cases hR with
  | go e e' hr hJ =>
    rcases h with ⟨h,_⟩ | ⟨_,h,_⟩ | ⟨_,_,h⟩
    ·rw [z0r hr.al.l] at h;cases h
    ·exact absurd e h
    rcases h' with ⟨h',_⟩ | ⟨_,h',_⟩ | ⟨_,_,h'⟩
    ·rw [z0r hr.al.l'] at h';cases h'
    ·exact absurd e' h'
    exact ih _ _ _ _ _ _ _ h h' ho ho' (hr.weak (Nat.le_refl _) oM0 (Nat.le_refl _)) hN hJ
  | fin e e' hf hr hE =>
    rcases h with ⟨h,_⟩ | ⟨_,_,h⟩ | ⟨_,h,_⟩
    ·rw [z0r hr.al.l] at h;cases h
    ·rcases h' with ⟨h',_⟩ | ⟨_,_,h'⟩ | ⟨_,h',_⟩
     ·rw [z0r hr.al.l'] at h';cases h'
     ·obtain rfl:r'=r1':=h'
      have hr1:r=r1:=by
        rcases hF _ hf with rfl | k15
        ·exact h
        cases K with
        | nil=>exact h
        | cons f K=>unfold KFin at h;rw [if_pos k15] at h;exact h
      subst hr1
      exact .ok e' hE hr
     exact absurd (e'.symm.trans h') e
    exact absurd h e
  | halt hh =>
    obtain ⟨o1,o2⟩:=hh.over
    rw [zd2 h o1,zd2 h' o2]
    exact .halt hh
  | cut hc =>
    refine .cut ?_
    unfold Cut at hc ⊢
    cases m with
    | true =>
      simp only [if_true] at hc ⊢
      rw [zd2 h (z5r hc.1)]
      exact ⟨hc.1,hc.2.1,hc.2.2.trans (h'.out hB ho')⟩
    | false =>
      simp only [Bool.false_eq_true,if_false] at hc ⊢
      rw [zd2 h' (z5r hc.1)]
      exact ⟨hc.1,hc.2.1,hc.2.2.trans (h.out hB ho)⟩
theorem y1z (hB:B<=4611686018427387903) {d:Nat} {x:Nd} {r1 r:Rres} (ho:Oks B r1.2.2)
    (h:(if z11 r1.2.2||r1.1.1==15 then some r1 else if r1.1.1==14 then (mSet r1.2.1 x.outs r1.1.2).map fun v=>((0,[]),v,r1.2.2) else z35 u d x r1.2.1 r1.1.2 r1.2.2)=some r):r1.2.2.out <+: r.2.2.out/\(z11 r1.2.2=true->r=r1):=by
  split at h
  ·cases h;exact ⟨List.prefix_refl _,fun _=>rfl⟩
  rename_i hn
  refine ⟨?_,fun ho=>absurd (by rw [ho];rfl) hn⟩
  split at h
  ·obtain ⟨v3,_,rfl⟩:=Option.map_eq_some_iff.1 h
   exact List.prefix_refl _
  exact (zb5 hB h ho).out
theorem y5i (hB:B<=4611686018427387903) {k c:Nat} {I2 J:VR} {E E2:ER} {x x':Nd} {q q':List Nd} (hq:x.kids=[q]) (hq':x'.kids=[q']) (hN:lsz q<=N)
    (ih:∀ (D':Nat) (a b:List Int) (s s':Rs) (r r':Rres),KRun u D q [] a s r->KRun v D' q' [] b s' r'->Oks B s->Oks B s'->RelR m N k (lsz q+ksz []) c s s'->lsz q+ksz []<=N->I2 a b->RR m N E2 r r')
    (hE:∀ n p p' a b,E2 n p p' a b->(n=15/\E 15 p p' a b)∨(n=14/\∀ a2 b2,mSet a x.outs p=some a2->mSet b x'.outs p'=some b2->J a2 b2)∨(n=13/\∀ a2 b2,mSet a x.params p=some a2->mSet b x'.params p'=some b2->I2 a2 b2)) :
    ∀ (d d':Nat) (a b p p':List Int) (s s':Rs) (r r':Rres),d<=D->z35 u d x a p s=some r->z35 v d' x' b p' s'=some r'->Oks B s->Oks B s'->RelR m N k (lsz q) c s s' ->
      (∀ a2 b2,mSet a x.params p=some a2->mSet b x'.params p'=some b2->I2 a2 b2)->RN m N J (fun n=>n=15) E r r'
  | 0,_,_,_,_,_,_,_,_,_,_,h,_,_,_,_,_=>by simp [z35] at h
  | d+1,d',a,b,p,p',s,s',r,r',hd,h,h',ho,ho',hr,hI=>by
    obtain ⟨d1,v2,q2,r1,e,g1,g2,g3,g4⟩:=z4c h
    obtain ⟨d1',v2',q2',r1',e',g1',g2',g3',g4'⟩:=z4c h'
    obtain rfl:d1=d:=by omega
    rw [hq] at g2
    rw [hq'] at g2'
    obtain rfl:=Option.some.inj g2
    obtain rfl:=Option.some.inj g2'
    have R:=ih d1' v2 v2' s s' r1 r1' ⟨d1,r1,by omega,g3,by split<;>rfl⟩ ⟨d1',r1',Nat.le_refl _,g3',by split<;>rfl⟩ ho ho' hr hN (hI _ _ g1 g1')
    have o1:=(z69 hB g3 ho).ok
    have o1':=(z69 hB g3' ho').ok
    have W:=y1z hB o1 g4
    have W':=y1z hB o1' g4'
    cases R with
    | halt hh =>
      obtain ⟨t1,t2⟩:=hh.over
      rw [W.2 t1,W'.2 t2]
      exact .halt hh
    | cut hc =>
      refine .cut ?_
      unfold Cut at hc ⊢
      cases m with
      | true =>
        simp only [if_true] at hc ⊢
        rw [W.2 (z5r hc.1)]
        exact ⟨hc.1,hc.2.1,hc.2.2.trans W'.1⟩
      | false =>
        simp only [Bool.false_eq_true,if_false] at hc ⊢
        rw [W'.2 (z5r hc.1)]
        exact ⟨hc.1,hc.2.1,hc.2.2.trans W.1⟩
    | ok ek eE hr2 =>
      rw [z0r hr2.al.l] at g4
      rw [z0r hr2.al.l',ek] at g4'
      obtain ⟨⟨n,pp⟩,va,sa⟩:=r1
      obtain ⟨⟨n',pp'⟩,vb,sb⟩:=r1'
      obtain rfl:n'=n:=ek
      rcases hE _ _ _ _ _ eE with ⟨rfl,h15⟩ | ⟨rfl,h14⟩ | ⟨rfl,h13⟩
      ·cases g4;cases g4'
       exact .fin (show (15:Int)≠0 by decide) rfl rfl hr2 h15
      ·obtain ⟨w,g5,rfl⟩:=Option.map_eq_some_iff.1 g4
       obtain ⟨w',g5',rfl⟩:=Option.map_eq_some_iff.1 g4'
       exact .go rfl rfl hr2 (h14 _ _ g5 g5')
      exact y5i hB hq hq' hN ih hE d1 d1' va vb pp pp' sa sb r r' oM0 g4 g4' o1 o1' (hr2.weak (Nat.zero_le _) oM0 (Nat.zero_le _)) h13
end
end
section
section
variable {u v:Un} {D:Nat} {B:Int} {m:Bool} {N:Nat}
theorem z8f (x:Nd):1<=nsz x:=by rw [zv9];omega
theorem yd6 {x:Nd} {q:Int × Rs} {a:List Int} {r1:Rres} (hl:Live q.2)
    (h:(if !z11 q.2&&decide (0<x.outs.length) then (x.outs[0]?).bind fun o=>(setV a o q.1).map fun v'=>((0,[]),v',q.2) else some ((0,[]),a,q.2))=some r1):∃ a2,setO x.outs a q.1 a2/\r1=((0,[]),a2,q.2):=by
  rw [z0r hl] at h
  cases ho:x.outs with
  | nil=>rw [ho] at h;cases h;exact ⟨a,rfl,rfl⟩
  | cons o os =>
    rw [ho] at h
    simp only [Bool.not_false,Bool.true_and,List.length_cons,Nat.zero_lt_succ,decide_true,if_true,List.getElem?_cons_zero,Option.bind_some,Option.map_eq_some_iff] at h
    obtain ⟨a2,h1,rfl⟩:=h
    exact ⟨a2,h1,rfl⟩
theorem y1o {x:Nd} {q:Int × Rs} {a:List Int} {r1:Rres}
    (h:(if !z11 q.2&&decide (0<x.outs.length) then (x.outs[0]?).bind fun o=>(setV a o q.1).map fun v'=>((0,[]),v',q.2) else some ((0,[]),a,q.2))=some r1):r1.2.2=q.2:=by
  split at h
  ·simp only [Option.bind_eq_some_iff,Option.map_eq_some_iff] at h
   obtain ⟨o,_,v',_,rfl⟩:=h
   rfl
  cases h;rfl
theorem sound (hB:B<=4611686018427387903) (hA:v.arrays=u.arrays) (hP:∀ name,z02 name v.flows 0=z02 name u.flows 0) (HC:HCall u v D B m N)
    {k c:Nat} {I:VR} {l:List Nd} {K:List KF} {l':List Nd} {E:ER} (h:LRel k c I l K l' E) :
    ∀ (D':Nat) (a b:List Int) (s s':Rs) (r r':Rres),KRun u D l K a s r->KRun v D' l' [] b s' r'->Oks B s->Oks B s'->RelR m N k (lsz l+ksz K) c s s'->lsz l+ksz K<=N->I a b->RR m N E r r':=by
  induction h with
  | dead hd=>intro D' a b s s' r r' h h' ho ho' hr hN hI;exact absurd hI (hd a b)
  | weak hw _ ih=>intro D' a b s s' r r' h h' ho ho' hr hN hI;exact ih D' a b s s' r r' h h' ho ho' hr hN (hw a b hI)
  | @both k c I J x x' l K l' E hx hx' hcc hJ hL ih =>
    intro D' a b s s' r r' h h' ho ho' hr hN hI
    have hs:=z8f x
    have ez:lsz (x::l)=nsz x+lsz l:=rfl
    rcases y1e hB hx h ho hr.al.l with ⟨hf,e⟩ | ⟨hf,a2,ha,hk⟩
    ·exact zt7 hr oM0 hf ho'.1 (h'.out hB ho') e
    rcases y1e hB hx' h' ho' hr.al.l' with ⟨hf',e'⟩ | ⟨hf',b2,hb,hk'⟩
    ·exact y7x hB (LRel.both hx hx' hcc hJ hL) (List.cons_ne_nil _ _) h ho hr hf' e'
    have h2:=hr.dec oM0
    refine ih D' a2 b2 _ _ r r' hk hk' (zi6 ho hf) (zi6 ho' hf') ⟨⟨h2.al.l,h2.al.l',h2.al.ins,h2.al.ar,h2.al.out,h2.al.code⟩,h2.g.weak (Nat.le_refl _) oM0,?_⟩ oM0 (hJ _ _ _ _ hI ha hb)
    have:=hr.co
    show s'.cost+(hc x':Int)<=s.cost+(hc x:Int)+(c:Int);omega
  | @skip k c I J x l K l' E hx hJ hL ih =>
    intro D' a b s s' r r' h h' ho ho' hr hN hI
    have hs:=z8f x
    have ez:lsz (x::l)=nsz x+lsz l:=rfl
    rcases y1e hB hx h ho hr.al.l with ⟨hf,e⟩ | ⟨hf,a2,ha,hk⟩
    ·exact zt7 hr oM0 hf ho'.1 (h'.out hB ho') e
    refine ih D' a2 b _ _ r r' hk h' (zi6 ho hf) ho' ⟨⟨hr.al.l,hr.al.l',hr.al.ins,hr.al.ar,hr.al.out,hr.al.code⟩,(hr.g.weak (Nat.le_refl _) (w2:=lsz l+ksz K+1) oM0).left,?_⟩ oM0 (hJ _ _ _ hI ha)
    have:=hr.co
    show s'.cost<=s.cost+(hc x:Int)+(c:Int);omega
  | @paid k c I J x l K l' E hx hJ hne hL ih =>
    intro D' a b s s' r r' h h' ho ho' hr hN hI
    have hs:=z8f x
    have ez:lsz (x::l)=nsz x+lsz l:=rfl
    rcases y1e hB hx h ho hr.al.l with ⟨hf,e⟩ | ⟨hf,a2,ha,hk⟩
    ·exact zt7 hr oM0 hf ho'.1 (h'.out hB ho') e
    refine ih D' a2 b _ _ r r' hk h' (zi6 ho hf) ho' ⟨⟨hr.al.l,hr.al.l',hr.al.ins,hr.al.ar,hr.al.out,hr.al.code⟩,(hr.g.weak (Nat.le_refl _) (w2:=lsz l+ksz K+1) oM0).pay,?_⟩ oM0 (hJ _ _ _ hI ha)
    have:=hr.co
    show s'.cost<=s.cost+(hc x:Int)+(c:Int);omega
  | @add k c I J x' l K l' E hx' hne hJ hL ih =>
    intro D' a b s s' r r' h h' ho ho' hr hN hI
    rcases y1e hB hx' h' ho' hr.al.l' with ⟨hf',e'⟩ | ⟨hf',b2,hb,hk'⟩
    ·exact y7x hB (LRel.add hx' hne hJ hL) hne h ho hr hf' e'
    refine ih D' a b2 _ _ r r' h hk' ho (zi6 ho' hf') ⟨⟨hr.al.l,hr.al.l',hr.al.ins,hr.al.ar,hr.al.out,hr.al.code⟩,hr.g.right,?_⟩ hN (hJ _ _ _ hI hb)
    have:=hr.co
    show s'.cost+(hc x':Int)<=s.cost+((c+hc x':Nat):Int);omega
  | @eff I J x x' l K l' E hk hkk hop hnm hlen hp hJ hL ih =>
    intro D' a b s s' r r' h h' ho ho' hr hN hI
    have hs:=z8f x
    have ez:lsz (x::l)=nsz x+lsz l:=rfl
    rcases zj7 hB h ho hr.al.l with ⟨hf,e⟩ | ⟨hf,d1,p,r1,hd,g1,g2,g3⟩
    ·exact zt7 hr oM0 hf ho'.1 (h'.out hB ho') e
    rcases zj7 hB h' ho' hr.al.l' with ⟨hf',e'⟩ | ⟨hf',d1',p',r1',hd',g1',g2',g3'⟩
    ·exact y7x hB (LRel.eff hk hkk hop hnm hlen hp hJ hL) (List.cons_ne_nil _ _) h ho hr hf' e'
    obtain ⟨k1,k2,k10,k11,k12,k13,k14,k15⟩:=hk
    have ne:∀ {i:Int},x.kind≠i->(x.kind==i)=false:=fun h=>beq_eq_false_iff_ne.2 h
    have ne':∀ {i:Int},x.kind≠i->(x'.kind==i)=false:=fun h=>beq_eq_false_iff_ne.2 (by rw [hkk];exact h)
    obtain ⟨q,t1,t2⟩:=z6t g2 (by rw [ne k1,ne k2];rfl) (by rw [ne k12,ne k13,ne k14,ne k15];rfl) (ne k10) (ne k11)
    obtain ⟨q',t1',t2'⟩:=z6t g2' (by rw [ne' k1,ne' k2];rfl) (by rw [ne' k12,ne' k13,ne' k14,ne' k15];rfl) (ne' k10) (ne' k11)
    have hpp:=hp _ _ _ _ hI g1 g1'
    subst hpp
    have h2:=hr.dec oM0
    obtain ⟨o1,o2⟩:=z3u ho hf
    obtain ⟨o1',o2'⟩:=z3u ho' hf'
    have e1:r1.2.2=q.2:=y1o t2
    have e1':r1'.2.2=q'.2:=y1o t2'
    have R:RN m N J (fun n=>K=[]∨n=15) E r1 r1':=by
      cases sum_sim hB hA hP HC oM0 hkk hop hnm t1 t1' o1 o1' o2 o2' h2 with
      | ok hv hrel =>
        obtain ⟨a2,s1,rfl⟩:=yd6 hrel.al.l t2
        obtain ⟨b2,s2,rfl⟩:=yd6 hrel.al.l' t2'
        rw [hv] at s2
        exact .go rfl rfl hrel (hJ _ _ _ _ _ hI s1 s2)
      | halt hh=>exact .halt (by rw [e1,e1'];exact hh)
      | cut hh=>exact .cut (by rw [e1,e1'];exact hh)
    exact zz3 hB g3 g3' (by rw [e1];exact (y37 hB t1 o1 o2).ok) (by rw [e1'];exact (y37 hB t1' o1' o2').ok) R (fun _ h=>h) oM0 ih
  | @ite I J E2 x x' q0 q1 q0' q1' l K l' E hk hk' hq hq' hp hL0 hL1 hE hL ih0 ih1 ih =>
    intro D' a b s s' r r' h h' ho ho' hr hN hI
    have hs:=z8f x
    have ez:lsz (x::l)=nsz x+lsz l:=rfl
    have ezx:nsz x=1+(lsz q0+(lsz q1+0)):=by rw [zv9,hq];rfl
    rcases zj7 hB h ho hr.al.l with ⟨hf,e⟩ | ⟨hf,d1,p,r1,hd,g1,g2,g3⟩
    ·exact zt7 hr oM0 hf ho'.1 (h'.out hB ho') e
    rcases zj7 hB h' ho' hr.al.l' with ⟨hf',e'⟩ | ⟨hf',d1',p',r1',hd',g1',g2',g3'⟩
    ·exact y7x hB (LRel.ite hk hk' hq hq' hp hL0 hL1 hE hL) (List.cons_ne_nil _ _) h ho hr hf' e'
    have hpp:=hp _ _ _ _ hI g1 g1'
    obtain ⟨a0,q,r2,t1,t2,t3,t4⟩:=zc5 g2 (by rw [hk];rfl)
    obtain ⟨a0',q',r2',t1',t2',t3',t4'⟩:=zc5 g2' (by rw [hk'];rfl)
    rw [t1,t1'] at hpp
    obtain rfl:=Option.some.inj hpp
    have h2:=hr.dec oM0
    obtain ⟨o1,o2⟩:=z3u ho hf
    obtain ⟨o1',o2'⟩:=z3u ho' hf'
    have R2:RR m N E2 r2 r2':=by
      rw [hq] at t2
      rw [hq'] at t2'
      by_cases c0:(a0' != 0)=true
      ·rw [if_pos c0] at t2 t2'
       obtain rfl:q0=q:=by simpa using t2
       obtain rfl:q0'=q':=by simpa using t2'
       exact ih0 d1' a b _ _ r2 r2' ⟨d1,r2,by omega,t3,by split<;>rfl⟩ ⟨d1',r2',Nat.le_refl _,t3',by split<;>rfl⟩ o1 o1' (h2.weak (Nat.le_refl _) (by simp [ksz];omega) (Nat.le_refl _)) (by simp [ksz];omega) hI
      rw [if_neg c0] at t2 t2'
      obtain rfl:q1=q:=by simpa using t2
      obtain rfl:q1'=q':=by simpa using t2'
      exact ih1 d1' a b _ _ r2 r2' ⟨d1,r2,by omega,t3,by split<;>rfl⟩ ⟨d1',r2',Nat.le_refl _,t3',by split<;>rfl⟩ o1 o1' (h2.weak (Nat.le_refl _) (by simp [ksz];omega) (Nat.le_refl _)) (by simp [ksz];omega) hI
    have x1:=(z69 hB t3 o1).ok
    have x1':=(z69 hB t3' o1').ok
    have SS:∀ {x:Nd} {r2 r1:Rres},(if !z11 r2.2.2&&r2.1.1==12 then (mSet r2.2.1 x.outs r2.1.2).map fun v'=>(((0,[]),v',r2.2.2):Rres) else some r2)=some r1->r1.2.2=r2.2.2:=by
      intro x r2 r1 h
      split at h
      ·obtain ⟨w,_,rfl⟩:=Option.map_eq_some_iff.1 h;rfl
      cases h;rfl
    have e1:=SS t4
    have e1':=SS t4'
    have R:RN m N J (fun n=>K=[]∨n=15) E r1 r1':=by
      cases R2 with
      | halt hh=>exact .halt (by rw [e1,e1'];exact hh)
      | cut hh=>exact .cut (by rw [e1,e1'];exact hh)
      | ok ek eE hr2 =>
        rw [z0r hr2.al.l] at t4
        rw [z0r hr2.al.l',ek] at t4'
        obtain ⟨⟨n,pp⟩,va,sa⟩:=r2
        obtain ⟨⟨n',pp'⟩,vb,sb⟩:=r2'
        obtain rfl:n'=n:=ek
        rcases hE _ _ _ _ _ eE with ⟨rfl,h12⟩ | ⟨n12,n0,hKn,hEE⟩
        ·obtain ⟨w,g5,rfl⟩:=Option.map_eq_some_iff.1 t4
         obtain ⟨w',g5',rfl⟩:=Option.map_eq_some_iff.1 t4'
         exact .go rfl rfl hr2 (h12 _ _ g5 g5')
        have c:(!false&&n'==12)=false:=by simpa using n12
        simp only [c] at t4 t4'
        cases t4;cases t4'
        exact .fin n0 rfl hKn hr2 hEE
    exact zz3 hB g3 g3' (by rw [e1];exact x1) (by rw [e1'];exact x1') R (fun _ h=>h) oM0 ih
  | @loop k c I I2 J E2 x x' q q' l K l' E hk hk' hq hq' hI2 hL2 hE hL ih2 ih =>
    intro D' a b s s' r r' h h' ho ho' hr hN hI
    have hs:=z8f x
    have ez:lsz (x::l)=nsz x+lsz l:=rfl
    have ezx:nsz x=1+(lsz q+0):=by rw [zv9,hq];rfl
    rcases zj7 hB h ho hr.al.l with ⟨hf,e⟩ | ⟨hf,d1,p,r1,hd,g1,g2,g3⟩
    ·exact zt7 hr oM0 hf ho'.1 (h'.out hB ho') e
    rcases zj7 hB h' ho' hr.al.l' with ⟨hf',e'⟩ | ⟨hf',d1',p',r1',hd',g1',g2',g3'⟩
    ·exact y7x hB (LRel.loop hk hk' hq hq' hI2 hL2 hE hL) (List.cons_ne_nil _ _) h ho hr hf' e'
    have t:=z5p g2 (by rw [hk];rfl)
    have t':=z5p g2' (by rw [hk'];rfl)
    have h2:=hr.dec oM0
    obtain ⟨o1,_⟩:=z3u ho hf
    obtain ⟨o1',_⟩:=z3u ho' hf'
    have R:=y5i hB hq hq' oM0 ih2 hE d1 d1' a b p p' _ _ r1 r1' oM0 t t' o1 o1' (h2.weak (Nat.le_refl _) oM0 (Nat.le_refl _)) fun a2 b2=>hI2 a b p p' a2 b2 hI g1 g1'
    exact zz3 hB g3 g3' (zb5 hB t o1).ok (zb5 hB t' o1').ok R (fun n hn=>.inr hn) oM0 ih
  | @ender I x x' l K l' E h1 h2 hkk hKn hE =>
    intro D' a b s s' r r' h h' ho ho' hr hN hI
    have hs:=z8f x
    have ez:lsz (x::l)=nsz x+lsz l:=rfl
    rcases zf0 hB h1 h2 h ho hr.al.l with ⟨hf,e⟩ | ⟨hf,p,g1,g2⟩
    ·exact zt7 hr oM0 hf ho'.1 (h'.out hB ho') e
    rcases zf0 hB (by rw [hkk];exact h1) (by rw [hkk];exact h2) h' ho' hr.al.l' with ⟨hf',e'⟩ | ⟨hf',p',g1',g2'⟩
    ·exact y7x (l':=x'::l') hB (LRel.ender h1 h2 hkk hKn hE) (List.cons_ne_nil _ _) h ho hr hf' e'
    obtain rfl:r'=((x'.kind,p'),b,dec s'):=g2'
    obtain rfl:r=((x.kind,p),a,dec s):=by
      rcases hKn with rfl | k15
      ·exact g2
      cases K with
      | nil=>exact g2
      | cons f K=>unfold KFin at g2;rw [show (((x.kind,p),a,dec s):Rres).1.1=15 from k15,if_pos rfl] at g2;exact g2
    exact .ok hkk (hE _ _ _ _ hI g1 g1') (hr.dec oM0)
  | @once k c I J x q l K l' E hk hq hJ hL ih =>
    intro D' a b s s' r r' h h' ho ho' hr hN hI
    have ez:lsz (x::l)=nsz x+lsz l:=rfl
    have ezx:nsz x=1+(lsz q+0):=by rw [zv9,hq];rfl
    have ek:ksz (⟨14,x.outs,l⟩::K)=lsz l+ksz K:=rfl
    rcases y1t hB hk hq h ho hr.al.l with ⟨hf,e⟩ | ⟨hf,p,a2,g1,g2,g3⟩
    ·exact zt7 hr oM0 hf ho'.1 (h'.out hB ho') e
    exact ih D' a2 b _ _ r r' g3 h' (z3u ho hf).1 ho' ⟨⟨hr.al.l,hr.al.l',hr.al.ins,hr.al.ar,hr.al.out,hr.al.code⟩,(hr.g.weak (Nat.le_refl _) (w2:=lsz q+(lsz l+ksz K)+1) oM0).left,hr.co⟩ oM0 (hJ _ _ _ _ hI g1 g2)
  | @leave k c I J y l f K l' E hk hk2 hJ hL ih =>
    intro D' a b s s' r r' h h' ho ho' hr hN hI
    have hs:=z8f y
    have ez:lsz (y::l)=nsz y+lsz l:=rfl
    have ek:ksz (f::K)=lsz f.rest+ksz K:=rfl
    rcases zv6 hB hk hk2 h ho hr.al.l with ⟨hf,e⟩ | ⟨hf,p,a2,g1,g2,g3⟩
    ·exact zt7 hr oM0 hf ho'.1 (h'.out hB ho') e
    exact ih D' a2 b _ _ r r' g3 h' (z3u ho hf).1 ho' ⟨⟨hr.al.l,hr.al.l',hr.al.ins,hr.al.ar,hr.al.out,hr.al.code⟩,(hr.g.weak (Nat.le_refl _) (w2:=lsz f.rest+ksz K+1) oM0).left,hr.co⟩ oM0 (hJ _ _ _ _ hI g1 g2)
  | @fork k c I x q0 q1 l K l' E hk hq hL0 hL1 ih0 ih1 =>
    intro D' a b s s' r r' h h' ho ho' hr hN hI
    have ez:lsz (x::l)=nsz x+lsz l:=rfl
    have ezx:nsz x=1+(lsz q0+(lsz q1+0)):=by rw [zv9,hq];rfl
    have ek:ksz (⟨12,x.outs,l⟩::K)=lsz l+ksz K:=rfl
    rcases y18 hB hk hq h ho hr.al.l with ⟨hf,e⟩ | ⟨hf,q,hq',g3⟩
    ·exact zt7 hr oM0 hf ho'.1 (h'.out hB ho') e
    rcases hq' with rfl | rfl
    ·exact ih0 D' a b _ _ r r' g3 h' (z3u ho hf).1 ho' ⟨⟨hr.al.l,hr.al.l',hr.al.ins,hr.al.ar,hr.al.out,hr.al.code⟩,(hr.g.weak (Nat.le_refl _) (w2:=lsz q+(lsz l+ksz K)+1) oM0).left,hr.co⟩ oM0 hI
    exact ih1 D' a b _ _ r r' g3 h' (z3u ho hf).1 ho' ⟨⟨hr.al.l,hr.al.l',hr.al.ins,hr.al.ar,hr.al.out,hr.al.code⟩,(hr.g.weak (Nat.le_refl _) (w2:=lsz q+(lsz l+ksz K)+1) oM0).left,hr.co⟩ oM0 hI
def EF:ER:=fun _ p p' _ _=>p'.headD 0=p.headD 0
def FRel (N:Nat) (f g:Fl):Prop:=g.types.length=f.types.length/\lsz f.body<=N/\LRel 0 0 (fun a b=>a=b/\a.length=f.types.length) f.body [] g.body EF
theorem y0w (hB:B<=4611686018427387903) (hA:v.arrays=u.arrays) (hP:∀ name,z02 name v.flows 0=z02 name u.flows 0)
    (hF:∀ (i:Nat) f g,u.flows[i]? = some f->v.flows[i]? = some g->FRel N f g):∀ D,HCall u v D B m N
  | 0=>fun e _ _ _ _ _ _ _ h=>absurd h (Nat.not_lt_zero e)
  | D+1=>by
    intro e e' k p s s' q q' he h h' ho ho' hr
    have HC:=y0w hB hA hP hF D
    obtain ⟨d1,f,r1,rfl,hk,hf,hl1,_,h1,rfl⟩:=z5o h
    obtain ⟨d1',g,r1',rfl,_,hg,hl1',_,h1',rfl⟩:=z5o h'
    obtain ⟨ht,hsz,hL⟩:=hF _ _ _ hf hg
    have R:=sound hB hA hP HC hL d1' _ _ s s' r1 r1' ⟨d1,r1,by omega,h1,by split<;>rfl⟩ ⟨d1',r1',Nat.le_refl _,h1',by split<;>rfl⟩ ho ho' (hr.weak (Nat.le_refl _) (by simp [ksz];omega) (Nat.le_refl _)) (by simp [ksz];omega) ⟨by rw [ht],by simp;omega⟩
    cases R with
    | ok ek eE hr2 =>
      refine .ok ?_ hr2
      rw [z0r hr2.al.l,z0r hr2.al.l']
      exact eE
    | halt hh=>exact .halt hh
    | cut hc=>exact .cut hc
end
end
section
variable {P:Program} {c:Cx} {fr:Fr} {hp:Hp} {Q:Exit->Fr->Heap'->Prop}
def ISub (x y:IV):Prop:=∀ F ρ σ w v,RepI F ρ σ w x v->RepI F ρ σ w y v
theorem ISub.refl (x:IV):ISub x x:=fun _ _ _ _ _ h=>h
theorem ISub.pv {p q:PV} (h:PSub p q):ISub (.pv p) (.pv q):=fun _ _ _ _ _ hv=>z6j h hv
def ISubs:List IV->List IV->Prop
  | [],[]=>True
  | x::xs,y::ys=>ISub x y/\ISubs xs ys
  | _,_=>False
theorem ISubs.length:∀ {xs ys:List IV},ISubs xs ys->xs.length=ys.length
  | [],[],_=>rfl
  | _::_,_::_,h=>congrArg (· + 1) (ISubs.length h.2)
theorem ISubs.at:∀ {xs ys:List IV},ISubs xs ys->∀ {j:Nat} {y:IV},ys[j]? = some y->∃ x,xs[j]? = some x/\ISub x y
  | [],[],_,_,_,hj=>by simp at hj
  | x::xs,y::ys,h,0,y',hj=>by simp at hj;subst hj;exact ⟨x,rfl,h.1⟩
  | x::xs,y::ys,h,j+1,y',hj=>by simpa using ISubs.at h.2 (by simpa using hj)
theorem All.subBox {ρ:Loc} {w:World} {a:Act} {k:Nat} {cs cs':List IV} (h:All c ρ (look hp) w fr a) (hk:look hp k=some (.box cs)) (hs:ISubs cs cs') (hR:¬ c.R k):All c ρ (look ((k,some (.box cs'))::hp)) w fr a:=by
  cases hρ:ρ k with
  | none=>obtain ⟨s,hs⟩:=h.rel.real k _ hk hρ;cases hs
  | some bc =>
    obtain ⟨b,cc⟩:=bc
    obtain ⟨o,ho,hro⟩:=h.rel.obj k b cc hρ
    rw [hk] at ho;cases ho
    refine h.write hρ hk trivial hR rfl rfl rfl rfl (fun _ _=>rfl) fun hI _=>?_
    cases hro with
    | box _ e a' u h1 h2 h3 h4 =>
      refine .box _ e a' u h1 (hs.length ▸ h2) (fun j x hj=>?_) fun j x hj=>?_
      ·obtain ⟨x0,h5,_⟩:=hs.at hj
       exact h3 j x0 h5
      obtain ⟨x0,h5,h6⟩:=hs.at hj
      exact h6 _ _ _ _ _ (hI _ _ (h4 j x0 h5))
theorem Tr.subBox {x:Code} {k:Nat} {cs:List IV} (cs':List IV) (hk:look hp k=some (.box cs)) (hs:ISubs cs cs') (hR:¬ c.R k) (h:Tr P c x fr (look ((k,some (.box cs'))::hp)) Q):Tr P c x fr (look hp) Q :=
  fun _ w a ha=>h _ w a (ha.subBox hk hs hR)
theorem ok_max {R1:Nat->Prop} {o:Oper} {σ:Heap'} {t:TypeId} {x y:Operand} {k:IntKind} {m n:Int} (ho:o.op = .call { callee:=.builtin .max,args:=#[x,y],argTypes:=#[t,t] }) (hx:fr.ev x=some (.pv (.val (.int k m)))) (hy:fr.ev y=some (.pv (.val (.int k n)))) :
    OkV P c R1 o fr σ (.pv (.val (.int k (if m<n then n else m)))):=by
  intro ρ w a h
  refine ⟨.int k (if m<n then n else m),fun w2 _=>?_,z2q _⟩
  simp [execOp,ho,z0p h hx,z0p h hy,resolve,invoke,builtin,Builtin.max_,Builtin.max2]
end
section
def sw (a b k:Nat):Nat:=bif Nat.beq k a then b else bif Nat.beq k b then a else k
theorem sw_sw (a b k:Nat):sw a b (sw a b k)=k:=by
  unfold sw
  by_cases h1:k=a
  ·subst h1
   have e1:Nat.beq k k=true:=Nat.beq_refl k
   simp only [e1,cond_true]
   by_cases h2:b=k
   ·subst h2;simp
   have e2:Nat.beq b k=false:=z0k h2
   have e3:Nat.beq b b=true:=Nat.beq_refl b
   simp [e2,e3]
  have e1:Nat.beq k a=false:=z0k h1
  simp only [e1,cond_false]
  by_cases h2:k=b
  ·subst h2
   simp
  have e2:Nat.beq k b=false:=z0k h2
  simp [e1,e2]
mutual
def IV.ren (p:Nat->Nat):IV->IV
  | .pv x=>.pv x
  | .ptr k off=>.ptr (p k) off
  | .sl k len=>.sl (p k) len
  | .rpt k len off=>.rpt (p k) len off
  | .bs k n=>.bs (p k) n
  | .mp k=>.mp (p k)
  | .agg cs=>.agg (renL p cs)
  | .tup cs=>.tup (renL p cs)
  | .fn f xs ys=>.fn f (renL p xs) (renL p ys)
def renL (p:Nat->Nat):List IV->List IV
  | []=>[]
  | x::r=>x.ren p::renL p r
end
theorem zl3 (p:Nat->Nat):∀ xs:List IV,renL p xs=xs.map (IV.ren p)
  | []=>rfl
  | x::r=>by simp [renL,zl3 p r]
theorem z4y {p:Nat->Nat} {xs:List IV} {j:Nat} {c:IV} (h:(renL p xs)[j]? = some c):∃ x,xs[j]? = some x/\c=x.ren p:=by
  rw [zl3,List.getElem?_map,Option.map_eq_some_iff] at h
  obtain ⟨x,h1,rfl⟩:=h
  exact ⟨x,h1,rfl⟩
theorem z99 (p:Nat->Nat) (xs:List IV):(renL p xs).length=xs.length:=by rw [zl3,List.length_map]
def HO.ren (p:Nat->Nat):HO->HO
  | .box cs=>.box (renL p cs)
  | .row s els=>.row s els
  | .map es=>.map es
def renP (p:Nat->Nat) (l:List (Nat × HO)):List (Nat × HO):=l.map fun x=>(p x.1,x.2.ren p)
section
variable {p:Nat->Nat} (hp:∀ k,p (p k)=k) {F:Nat->Prop} {ρ:Loc} {σ σ':Heap'} {w:World}
include hp
theorem zp9 {b:Nat}:owned F (fun k=>ρ (p k)) b↔owned F ρ b:=by
  constructor
  ·rintro (h | ⟨k,c,h⟩)
   ·exact .inl h
   exact .inr ⟨p k,c,h⟩
  rintro (h | ⟨k,c,h⟩)
  ·exact .inl h
  exact .inr ⟨p k,c,by show ρ (p (p k))=_;rw [hp];exact h⟩
theorem y03 (hσ:∀ k,σ' (p k)=(σ k).map (HO.ren p)) {x:IV} {v:Value} (h:RepI F ρ σ w x v):RepI F (fun k=>ρ (p k)) σ' w (x.ren p) v:=by
  induction h with
  | pv q v h=>exact .pv q v (h.own fun b hb=>(zp9 hp).1 hb)
  | ptr k off v h =>
    refine .ptr _ off v fun cs' h'=>?_
    rw [hσ,Option.map_eq_some_iff] at h'
    obtain ⟨o,h1,h2⟩:=h'
    cases o with
    | box cs=>obtain ⟨b,c,h3,h4⟩:=h cs h1;exact ⟨b,c,by rw [hp];exact h3,h4⟩
    | row=>cases h2
    | map=>cases h2
  | sl k len v h =>
    refine .sl _ len v fun s els h'=>?_
    rw [hσ,Option.map_eq_some_iff] at h'
    obtain ⟨o,h1,h2⟩:=h'
    cases o with
    | row s' els'=>cases h2;rw [hp];exact h _ _ h1
    | box=>cases h2
    | map=>cases h2
  | rpt k len off v h =>
    refine .rpt _ len off v fun s els h'=>?_
    rw [hσ,Option.map_eq_some_iff] at h'
    obtain ⟨o,h1,h2⟩:=h'
    cases o with
    | row s' els'=>cases h2;rw [hp];exact h _ _ h1
    | box=>cases h2
    | map=>cases h2
  | bs k n v h =>
    refine .bs _ n v fun cs' h'=>?_
    rw [hσ,Option.map_eq_some_iff] at h'
    obtain ⟨o,h1,h2⟩:=h'
    cases o with
    | box cs=>obtain ⟨b,c,h3,h4⟩:=h cs h1;exact ⟨b,c,by rw [hp];exact h3,h4⟩
    | row=>cases h2
    | map=>cases h2
  | mp k v h =>
    refine .mp _ v fun es h'=>?_
    rw [hσ,Option.map_eq_some_iff] at h'
    obtain ⟨o,h1,h2⟩:=h'
    cases o with
    | map es'=>cases h2;rw [hp];exact h _ h1
    | row=>cases h2
    | box=>cases h2
  | agg cs vs u hl hv _ ih =>
    refine .agg _ vs u (by rw [z99];exact hl) (fun j c hj=>?_) fun j c hj=>?_
    ·obtain ⟨x,h1,rfl⟩:=z4y hj;exact hv j x h1
    obtain ⟨x,h1,rfl⟩:=z4y hj;exact ih j x h1
  | tup cs vs u hl hv _ ih =>
    refine .tup _ vs u (by rw [z99];exact hl) (fun j c hj=>?_) fun j c hj=>?_
    ·obtain ⟨x,h1,rfl⟩:=z4y hj;exact hv j x h1
    obtain ⟨x,h1,rfl⟩:=z4y hj;exact ih j x h1
  | fn f xs ys vs ws u t hl hv _ hl' hv' _ ih ih' =>
    refine .fn f _ _ vs ws u t (by rw [z99];exact hl) (fun j c hj=>?_) (fun j c hj=>?_) (by rw [z99];exact hl') (fun j c hj=>?_) fun j c hj=>?_
    ·obtain ⟨x,h1,rfl⟩:=z4y hj;exact hv j x h1
    ·obtain ⟨x,h1,rfl⟩:=z4y hj;exact ih j x h1
    ·obtain ⟨x,h1,rfl⟩:=z4y hj;exact hv' j x h1
    obtain ⟨x,h1,rfl⟩:=z4y hj;exact ih' j x h1
mutual
theorem ya8:∀ x:IV,(x.ren p).ren p=x
  | .pv _=>rfl
  | .ptr k off=>by simp only [IV.ren,hp]
  | .sl k len=>by simp only [IV.ren,hp]
  | .rpt k len off=>by simp only [IV.ren,hp]
  | .bs k n=>by simp only [IV.ren,hp]
  | .mp k=>by simp only [IV.ren,hp]
  | .agg cs=>by simp only [IV.ren,z70 cs]
  | .tup cs=>by simp only [IV.ren,z70 cs]
  | .fn f xs ys=>by simp only [IV.ren,z70 xs,z70 ys]
theorem z70:∀ xs:List IV,renL p (renL p xs)=xs
  | []=>rfl
  | x::r=>by simp only [renL,ya8 x,z70 r]
end
theorem HO.ren_ren (o:HO):(o.ren p).ren p=o:=by cases o<;>simp [HO.ren,z70 hp]
theorem repO_ren (hσ:∀ k,σ' (p k)=(σ k).map (HO.ren p)) {b c:Nat} {o:HO} (h:RepO F ρ σ w b c o):RepO F (fun k=>ρ (p k)) σ' w b c (o.ren p):=by
  cases h with
  | box cs e a u h1 h2 h3 h4 =>
    refine .box _ e a u h1 (by rw [z99];exact h2) (fun j x hj=>?_) fun j x hj=>?_
    ·obtain ⟨y,h5,rfl⟩:=z4y hj;exact h3 j y h5
    obtain ⟨y,h5,rfl⟩:=z4y hj;exact y03 hp hσ (h4 j y h5)
  | row s els a u h1 h2 h3 h4 h5 h6 h7=>exact .row s els a u h1 h2 h3 h4 h5 h6 fun i el hi j x hj=>(h7 i el hi j x hj).own fun b hb=>(zp9 hp).1 hb
  | map es a t u h1 h2 h3 h4=>exact .map es a t u h1 h2 h3 fun i k q hi=>(h4 i k q hi).own fun b hb=>(zp9 hp).1 hb
theorem y5w (hσ:∀ k,σ' (p k)=(σ k).map (HO.ren p)) (h:RelH F ρ σ w):RelH F (fun k=>ρ (p k)) σ' w where
  inj k k' b c c' h1 h2:=by
    have:=h.inj _ _ _ _ _ h1 h2
    rw [<- hp k,this,hp]
  apart k b c h1:=h.apart _ _ _ h1
  old:=h.old
  obj k b c h1:=by
    obtain ⟨o,h2,h3⟩:=h.obj _ _ _ h1
    refine ⟨o.ren p,?_,repO_ren hp hσ h3⟩
    have:=hσ (p k)
    rw [hp,h2] at this
    exact this
  real k o h1 h2:=by
    have h3:=hσ (p k)
    rw [hp,h1] at h3
    obtain ⟨o',h4,h5⟩:=Option.map_eq_some_iff.1 h3.symm
    obtain ⟨s,rfl⟩:=h.real _ _ h4 h2
    exact ⟨s,h5.symm⟩
end
theorem yf2 {p:Nat->Nat} (hp:∀ k,p (p k)=k) {F R:Nat->Prop} {ρ ρ1:Loc} {σ σ1 τ τ1:Heap'} {w w':World} (hσ:∀ k,τ (p k)=(σ k).map (HO.ren p)) (hσ1:∀ k,τ1 (p k)=(σ1 k).map (HO.ren p)) (t:Trans F R ρ σ w ρ1 σ1 w') :
    Trans F (fun k=>R (p k)) (fun k=>ρ (p k)) τ w (fun k=>ρ1 (p k)) τ1 w' where
  os:=t.os
  tape:=t.tape
  output:=t.output
  size:=t.size
  blk b hb h:=t.blk b hb fun k c hk=>by
    have:=h (p k) c (by rw [hp];exact hk)
    rwa [hp] at this
  own k b c h hb:=t.own _ b c h hb
  box k cs cs' h h':=by
    have e:=hσ (p k);have e':=hσ1 (p k)
    rw [hp,h] at e;rw [hp,h'] at e'
    obtain ⟨o,h1,h2⟩:=Option.map_eq_some_iff.1 e.symm
    obtain ⟨o',h3,h4⟩:=Option.map_eq_some_iff.1 e'.symm
    cases o with
    | box cs0=>cases o' with
      | box cs1=>exact t.box _ _ _ h1 h3
      | row=>cases h4
      | map=>cases h4
    | row=>cases h2
    | map=>cases h2
  map k cs cs' h h':=by
    have e:=hσ (p k);have e':=hσ1 (p k)
    rw [hp,h] at e;rw [hp,h'] at e'
    obtain ⟨o,h1,h2⟩:=Option.map_eq_some_iff.1 e.symm
    obtain ⟨o',h3,h4⟩:=Option.map_eq_some_iff.1 e'.symm
    cases o with
    | map cs0=>cases o' with
      | map cs1=>exact t.map _ _ _ h1 h3
      | row=>cases h4
      | box=>cases h4
    | row=>cases h2
    | box=>cases h2
  row k s s' els els' h h' hl:=by
    have e:=hσ (p k);have e':=hσ1 (p k)
    rw [hp,h] at e;rw [hp,h'] at e'
    obtain ⟨o,h1,h2⟩:=Option.map_eq_some_iff.1 e.symm
    obtain ⟨o',h3,h4⟩:=Option.map_eq_some_iff.1 e'.symm
    cases o with
    | row s0 cs0=>cases o' with
      | row s1 cs1=>cases h2;cases h4;exact t.row _ _ _ _ _ h1 h3 hl
      | map=>cases h4
      | box=>cases h4
    | map=>cases h2
    | box=>cases h2
  grow k s s' els els' h h':=by
    have e:=hσ (p k);have e':=hσ1 (p k)
    rw [hp,h] at e;rw [hp,h'] at e'
    obtain ⟨o,h1,h2⟩:=Option.map_eq_some_iff.1 e.symm
    obtain ⟨o',h3,h4⟩:=Option.map_eq_some_iff.1 e'.symm
    cases o with
    | row s0 cs0=>cases o' with
      | row s1 cs1=>cases h2;cases h4;exact t.grow _ _ _ _ _ h1 h3
      | map=>cases h4
      | box=>cases h4
    | map=>cases h2
    | box=>cases h2
  kindB k cs' h':=by
    have e':=hσ1 (p k);have e:=hσ (p k)
    rw [hp,h'] at e';rw [hp] at e
    obtain ⟨o',h3,h4⟩:=Option.map_eq_some_iff.1 e'.symm
    cases o' with
    | box cs1 =>
      rcases t.kindB _ _ h3 with h5 | ⟨cs,h5⟩
      ·rw [h5] at e;exact .inl e
      rw [h5] at e;exact .inr ⟨_,e⟩
    | row=>cases h4
    | map=>cases h4
  kindM k cs' h':=by
    have e':=hσ1 (p k);have e:=hσ (p k)
    rw [hp,h'] at e';rw [hp] at e
    obtain ⟨o',h3,h4⟩:=Option.map_eq_some_iff.1 e'.symm
    cases o' with
    | map cs1 =>
      rcases t.kindM _ _ h3 with h5 | ⟨cs,h5⟩
      ·rw [h5] at e;exact .inl e
      rw [h5] at e;exact .inr ⟨_,e⟩
    | row=>cases h4
    | box=>cases h4
  kindR k s cs' h':=by
    have e':=hσ1 (p k);have e:=hσ (p k)
    rw [hp,h'] at e';rw [hp] at e
    obtain ⟨o',h3,h4⟩:=Option.map_eq_some_iff.1 e'.symm
    cases o' with
    | row s1 cs1 =>
      cases h4
      rcases t.kindR _ _ _ h3 with h5 | ⟨cs,h5⟩
      ·rw [h5] at e;exact .inl e
      rw [h5] at e;exact .inr ⟨_,e⟩
    | map=>cases h4
    | box=>cases h4
theorem beq_ren {p:Nat->Nat} (hp:∀ k,p (p k)=k) (a k:Nat):Nat.beq (p a) (p k)=Nat.beq a k:=by
  by_cases h:a=k
  ·subst h;simp
  rw [z0k h,z0k fun e=>h (by rw [<- hp a,e,hp])]
theorem z8z {p:Nat->Nat} (hp:∀ k,p (p k)=k):∀ (l:List (Nat × HO)) (k:Nat),look (up (renP p l)) (p k)=(look (up l) k).map (HO.ren p)
  | [],_=>rfl
  | (a,o)::r,k=>by
    simp only [renP,up,List.map_cons,look]
    rw [beq_ren hp]
    cases Nat.beq a k with
    | true=>rfl
    | false=>exact z8z hp r k
theorem SC.ren {P:Program} {p:Nat->Nat} (hp:∀ k,p (p k)=k) {f:FuncId} {args:List IV} {pre post:List (Nat × HO)} {R:Nat->Prop} {r:IV} (h:SC P f args pre R r post):SC P f (renL p args) (renP p pre) (fun k=>R (p k)) (r.ren p) (renP p post):=by
  intro F ρ w vs hrel hargs
  have hb:∀ (l:List (Nat × HO)) (k:Nat),look (up l) (p k)=(look (up (renP p l)) k).map (HO.ren p):=by
    intro l k
    have:=z8z hp l (p k)
    rw [hp] at this
    rw [this]
    cases look (up l) (p k) with
    | none=>rfl
    | some o=>exact congrArg some (HO.ren_ren hp o).symm
  have h1:RelH F (fun k=>ρ (p k)) (look (up pre)) w:=y5w hp (hb pre) hrel
  have h2:RepL F (fun k=>ρ (p k)) (look (up pre)) w args vs:=by
    refine ⟨by rw [<- hargs.1,z99],fun j x hj=>?_⟩
    obtain ⟨v,h3,h4⟩:=hargs.2 j (x.ren p) (by rw [zl3,List.getElem?_map,hj];rfl)
    have h5:=y03 hp (hb pre) h4
    rw [ya8 hp] at h5
    exact ⟨v,h3,h5⟩
  refine Calls.mono (h F _ w vs h1 h2) fun e w' hq=>?_
  obtain ⟨ρ',v,h3,h4,h5,h6⟩:=hq
  refine ⟨fun k=>ρ' (p k),v,h3,y03 hp (z8z hp post) h4,y5w hp (z8z hp post) h5,?_⟩
  have:=yf2 hp (z8z hp pre) (z8z hp post) h6
  simpa only [hp] using this
theorem SC.sw {P:Program} {f:FuncId} {args:List IV} {pre post:List (Nat × HO)} {R:Nat->Prop} {r:IV} (a b:Nat) (h:SC P f args pre R r post):SC P f (renL (sw a b) args) (renP (sw a b) pre) (fun k=>R (Proofs.YtfaeemilgahcpaaGreat.sw a b k)) (r.ren (Proofs.YtfaeemilgahcpaaGreat.sw a b)) (renP (Proofs.YtfaeemilgahcpaaGreat.sw a b) post):=h.ren (sw_sw a b)
end
section
section
variable {α β:Type} [DecidableEq α]
end
structure Ky where
  kind:Int
  op:Int
  n:Int
  a:Int
  b:Int
  deriving DecidableEq
abbrev TT:=List (Int × Int)
structure Tb where
  seen:List (Ky × Int)
  nums:TT
end
section
variable {P:Program} {c:Cx} {R1:Nat->Prop} {o:Oper} {fr:Fr} {hp:Hp} {σ:Heap'} {Q:Exit->Fr->Heap'->Prop}
theorem Names.one {Q:Nat->Prop} {x:IV} (h:Names Q x):∃ k,Q k/\Names (· = k) x:=by
  induction h with
  | ptr h=>exact ⟨_,h,.ptr rfl⟩
  | sl h=>exact ⟨_,h,.sl rfl⟩
  | rpt h=>exact ⟨_,h,.rpt rfl⟩
  | bs h=>exact ⟨_,h,.bs rfl⟩
  | mp h=>exact ⟨_,h,.mp rfl⟩
  | agg hc _ ih=>obtain ⟨k,h1,h2⟩:=ih;exact ⟨k,h1,.agg hc h2⟩
  | tup hc _ ih=>obtain ⟨k,h1,h2⟩:=ih;exact ⟨k,h1,.tup hc h2⟩
  | fn1 hc _ ih=>obtain ⟨k,h1,h2⟩:=ih;exact ⟨k,h1,.fn1 hc h2⟩
  | fn2 hc _ ih=>obtain ⟨k,h1,h2⟩:=ih;exact ⟨k,h1,.fn2 hc h2⟩
open Classical in
theorem SC.stepN {ns:List Nat} {f:FuncId} {args:List IV} {pre post:List (Nat × HO)} {R:Nat->Prop} {r:IV} {hp:Hp} {ρ:Loc} {w:World} {a:Act} {vs:List Value} (hsc:SC P f args pre R r post)
    (h:All c ρ (look hp) w fr a) (hargs:RepL c.F ρ (look hp) w args vs) (hpre:∀ k o,look (up pre) k=some o->look hp k=some o) (hdom:post.map (·.1)=ns++pre.map (·.1)) (hσ0:∀ k∈ns,look hp k=none) (hc0:∀ k∈ns,c.σ k=none) (hfr0:∀ k∈ns,nmFr k fr=false) (hhp0:∀ k∈ns,nmHp k hp=false)
    (hR:∀ k,c.R k->look (up pre) k=none∨R k) (hr:only (post.map (·.1)) r=true) (hpost:z2s (post.map (·.1)) post=true) :
    Calls P f vs.toArray w fun e w'=>∃ ρ' v,e = .returned v/\All c ρ' (look (up post++hp)) w' fr a/\RepI c.F ρ' (look (up post++hp)) w' r v:=by
  have hd:∀ k,look (up post) k=none↔look (up pre) k=none/\k∉ns:=fun k=>by
    rw [z1b,z1b,hdom,List.mem_append,not_or]
    exact And.comm
  have hpp:∀ k,look (up post) k≠none->look hp k≠none->look (up pre) k≠none:=fun k e e1 e2=>by
    by_cases e3:k∈ns
    ·exact e1 (hσ0 k e3)
    exact e ((hd k).2 ⟨e2,e3⟩)
  let ρ1:Loc:=fun k=>if look (up pre) k=none then none else ρ k
  let F1:Nat->Prop:=fun b=>c.F b∨∃ k cc,ρ k=some (b,cc)/\look (up pre) k=none
  have h1in:∀ k,look (up pre) k≠none -> ρ1 k = ρ k:=fun k hk=>if_neg hk
  have h1out:∀ k,look (up pre) k=none -> ρ1 k=none:=fun k hk=>if_pos hk
  have h1:∀ k l,ρ1 k=some l->look (up pre) k≠none /\ ρ k=some l:=fun k l hk=>by
    by_cases e:look (up pre) k=none
    ·rw [h1out k e] at hk;cases hk
    exact ⟨e,(h1in k e) ▸ hk⟩
  have hown1:∀ b,owned F1 ρ1 b->owned c.F ρ b:=fun b hb=>by
    rcases hb with (hb | ⟨k,cc,hk,_⟩) | ⟨k,cc,hk⟩
    ·exact .inl hb
    ·exact .inr ⟨k,cc,hk⟩
    exact .inr ⟨k,cc,(h1 k _ hk).2⟩
  have hconv:∀ x:IV,¬ Names (fun k=>¬ ∀ o,look (up pre) k=some o->look hp k=some o /\ ρ1 k = ρ k) x:=fun x hx=>by
    obtain ⟨k,hk⟩:=hx.some
    exact hk fun o ho=>⟨hpre k o ho,h1in k (by simp [ho])⟩
  have hrel1:RelH F1 ρ1 (look (up pre)) w:=by
    refine ⟨fun k k' b cc cc' hk hk'=>h.rel.inj k k' b cc cc' (h1 _ _ hk).2 (h1 _ _ hk').2,fun k b cc hk hb=>?_,fun b hb=>?_,fun k b cc hk=>?_,fun k o hk hρ=>?_⟩
    ·rcases hb with hb | ⟨k',cc',hk',hn⟩
     ·exact h.rel.apart k b cc (h1 _ _ hk).2 hb
     obtain rfl:=h.rel.inj _ _ _ _ _ (h1 _ _ hk).2 hk'
     exact (h1 _ _ hk).1 hn
    ·rcases hb with hb | ⟨k',cc',hk',_⟩
     ·exact h.rel.old b hb
     exact h.rel.lt hk'
    ·obtain ⟨hne,hk2⟩:=h1 _ _ hk
     obtain ⟨o1,ho1,ho2⟩:=h.rel.obj k b cc hk2
     cases hl:look (up pre) k with
     | none=>exact absurd hl hne
     | some o2 =>
       rw [hpre k o2 hl] at ho1;cases ho1
       exact ⟨_,rfl,ho2.conv hown1 fun x _=>hconv x⟩
    rw [h1in k (by simp [hk])] at hρ
    exact h.rel.real k o (hpre k o hk) hρ
  refine (hsc F1 ρ1 w vs hrel1 ⟨hargs.1,fun j x hj=>?_⟩).mono ?_
  ·obtain ⟨v,hv,hx⟩:=hargs.2 j x hj
   exact ⟨v,hv,hx.conv hown1 (hconv x)⟩
  rintro e w' ⟨ρ2,v,rfl,hv,hrel2,t⟩
  let ρ':Loc:=fun k=>if look (up post) k=none then ρ k else ρ2 k
  have h2in:∀ k,look (up post) k≠none -> ρ' k = ρ2 k:=fun k hk=>if_neg hk
  have h2out:∀ k,look (up post) k=none -> ρ' k = ρ k:=fun k hk=>if_pos hk
  have h2none:∀ k,look (up post) k=none -> ρ2 k=none:=fun k hk=>by
    cases h3:ρ2 k with
    | none=>rfl
    | some l =>
      obtain ⟨o1,ho1,_⟩:=hrel2.obj k l.1 l.2 h3
      rw [hk] at ho1;cases ho1
  have hσin:∀ k,look (up post) k≠none->look (up post++hp) k=look (up post) k:=fun k hk=>by
    rw [z27]
    cases h3:look (up post) k with
    | none=>exact absurd h3 hk
    | some o=>rfl
  have hσout:∀ k,look (up post) k=none->look (up post++hp) k=look hp k:=fun k hk=>by
    rw [z27,hk];rfl
  have hown2:∀ b,owned c.F ρ' b->owned F1 ρ2 b:=fun b hb=>by
    rcases hb with hb | ⟨k,cc,hk⟩
    ·exact .inl (.inl hb)
    by_cases e:look (up post) k=none
    ·rw [h2out k e] at hk;exact .inl (.inr ⟨k,cc,hk,((hd k).1 e).1⟩)
    rw [h2in k e] at hk;exact .inr ⟨k,cc,hk⟩
  have hconv2:∀ x:IV,only (post.map (·.1)) x=true -> ¬ Names (fun k=>¬ ∀ o,look (up post++hp) k=some o->look (up post) k=some o /\ ρ' k = ρ2 k) x:=fun x hx hn=>by
    refine zg7 hx (hn.imp fun k hk hmem=>hk fun o ho=>?_)
    have hne:look (up post) k≠none:=fun e=>(z1b.1 e) hmem
    rw [hσin k hne] at ho
    exact ⟨ho,h2in k hne⟩
  have T:Trans c.F (fun k=>look (up pre) k=none∨R k) ρ (look hp) w ρ' (look (up post++hp)) w':=by
    refine ⟨t.os,t.tape,t.output,t.size,fun b hb hall=>t.blk b hb fun k cc hk=>?_,fun k b cc hk hb=>?_,fun k cs cs' e1 e2=>?_,fun k cs cs' e1 e2=>?_,fun k s s' els els' e1 e2 hl=>?_,fun k s s' els els' e1 e2=>?_,fun k cs' e2=>?_,fun k cs' e2=>?_,fun k s els' e2=>?_⟩
    ·obtain ⟨hne,hk2⟩:=h1 _ _ hk
     exact (hall k cc hk2).resolve_left hne
    ·by_cases e:look (up post) k=none
     ·rwa [h2out k e] at hk
     rw [h2in k e] at hk;exact (h1 _ _ (t.own k b cc hk hb)).2
    all_goals by_cases e:look (up post) k=none
    ·exact h2out k e
    ·cases h3:look (up pre) k with
     | none=>exact absurd h3 (hpp k e (by simp [e1]))
     | some o =>
       rw [hpre k o h3] at e1;cases e1
       rw [hσin k e] at e2
       rw [h2in k e,t.box k _ _ h3 e2,h1in k (by simp [h3])]
    ·exact h2out k e
    ·cases h3:look (up pre) k with
     | none=>exact absurd h3 (hpp k e (by simp [e1]))
     | some o =>
       rw [hpre k o h3] at e1;cases e1
       rw [hσin k e] at e2
       rw [h2in k e,t.map k _ _ h3 e2,h1in k (by simp [h3])]
    ·exact h2out k e
    ·cases h3:look (up pre) k with
     | none=>exact absurd h3 (hpp k e (by simp [e1]))
     | some o =>
       rw [hpre k o h3] at e1;cases e1
       rw [hσin k e] at e2
       rw [h2in k e,t.row k _ _ _ _ h3 e2 hl,h1in k (by simp [h3])]
    ·rw [hσout k e,e1] at e2;cases e2;exact Nat.le_refl _
    ·cases h3:look (up pre) k with
     | none=>exact absurd h3 (hpp k e (by simp [e1]))
     | some o =>
       rw [hpre k o h3] at e1;cases e1
       rw [hσin k e] at e2
       exact t.grow k _ _ _ _ h3 e2
    ·rw [hσout k e] at e2;exact .inr ⟨_,e2⟩
    ·rw [hσin k e] at e2
     rcases t.kindB k _ e2 with h3 | ⟨cs,h3⟩
     ·by_cases e3:k∈ns
      ·exact .inl (hσ0 k e3)
      exact absurd ((hd k).2 ⟨h3,e3⟩) e
     exact .inr ⟨cs,hpre k _ h3⟩
    ·rw [hσout k e] at e2;exact .inr ⟨_,e2⟩
    ·rw [hσin k e] at e2
     rcases t.kindM k _ e2 with h3 | ⟨cs,h3⟩
     ·by_cases e3:k∈ns
      ·exact .inl (hσ0 k e3)
      exact absurd ((hd k).2 ⟨h3,e3⟩) e
     exact .inr ⟨cs,hpre k _ h3⟩
    ·rw [hσout k e] at e2;exact .inr ⟨_,e2⟩
    rw [hσin k e] at e2
    rcases t.kindR k _ _ e2 with h3 | ⟨cs,h3⟩
    ·by_cases e3:k∈ns
     ·exact .inl (hσ0 k e3)
     exact absurd ((hd k).2 ⟨h3,e3⟩) e
    exact .inr ⟨cs,hpre k _ h3⟩
  have hnone:∀ k,(look hp k=none/\look (up post++hp) k≠none)->k∈ns:=fun k hk=>by
    by_cases e:look (up post) k=none
    ·rw [hσout k e] at hk;exact absurd hk.1 hk.2
    refine Classical.byContradiction fun e3=>?_
    have e4:look (up pre) k≠none:=fun h3=>e ((hd k).2 ⟨h3,e3⟩)
    cases h3:look (up pre) k with
    | none=>exact e4 h3
    | some o=>rw [hpre k o h3] at hk;cases hk.1
  have hnn:∀ x:IV,(∀ k∈ns,nm k x=false) -> ¬ Names (fun k=>look hp k=none/\look (up post++hp) k≠none) x:=fun x hx hn=>by
    obtain ⟨k,hk,hk2⟩:=(hn.imp hnone).one
    have:=hx k hk
    rw [zd0 hk2] at this;cases this
  refine ⟨ρ',v,rfl,h.step T hR ⟨fun k k' b cc cc' hk hk'=>?_,fun k b cc hk hb=>?_,fun b hb=>Nat.lt_of_lt_of_le (h.rel.old b hb) t.size,fun k b cc hk=>?_,fun k o hk hρ=>?_⟩ (fun k e1 e2=>hc0 k (hnone k ⟨e1,e2⟩)) fun _ x hx=>hnn x fun k hk=>z93 (hfr0 k hk) hx,hv.conv hown2 (hconv2 r hr)⟩
  ·by_cases e:look (up post) k=none<;>by_cases e':look (up post) k'=none
   ·rw [h2out k e] at hk;rw [h2out k' e'] at hk';exact h.rel.inj _ _ _ _ _ hk hk'
   ·rw [h2out k e] at hk;rw [h2in k' e'] at hk'
    exact absurd (.inr ⟨k,cc,hk,((hd k).1 e).1⟩) (hrel2.apart _ _ _ hk')
   ·rw [h2in k e] at hk;rw [h2out k' e'] at hk'
    exact absurd (.inr ⟨k',cc',hk',((hd k').1 e').1⟩) (hrel2.apart _ _ _ hk)
   rw [h2in k e] at hk;rw [h2in k' e'] at hk';exact hrel2.inj _ _ _ _ _ hk hk'
  ·by_cases e:look (up post) k=none
   ·rw [h2out k e] at hk;exact h.rel.apart _ _ _ hk hb
   rw [h2in k e] at hk;exact hrel2.apart _ _ _ hk (.inl hb)
  ·by_cases e:look (up post) k=none
   ·rw [h2out k e] at hk
    obtain ⟨o1,ho1,ho2⟩:=h.rel.obj k b cc hk
    refine ⟨o1,(hσout k e).trans ho1,ho2.keep T (t.blk b (h.rel.lt hk) fun k' cc' hk'=>?_) fun x ⟨cs,h3,h4⟩=>hnn x fun k hk=>by subst h3;exact z4u (z6w (hhp0 k hk) ho1) h4⟩
    obtain ⟨hne,hk2⟩:=h1 _ _ hk'
    obtain rfl:=h.rel.inj _ _ _ _ _ hk hk2
    exact absurd ((hd _).1 e).1 hne
   rw [h2in k e] at hk
   obtain ⟨o1,ho1,ho2⟩:=hrel2.obj k b cc hk
   refine ⟨o1,(hσin k e).trans ho1,ho2.conv hown2 fun x ⟨cs,h3,h4⟩=>hconv2 x ?_⟩
   subst h3
   exact z55 (z5q hpost (z15 ho1)) h4
  by_cases e:look (up post) k=none
  ·rw [hσout k e] at hk;rw [h2out k e] at hρ;exact h.rel.real k o hk hρ
  rw [hσin k e] at hk;rw [h2in k e] at hρ;exact hrel2.real k o hk hρ
theorem y9w {ns:List Nat} {f:FuncId} {os:Array Operand} {tys:Array TypeId} {xs args:List IV} {pre post:List (Nat × HO)} {R:Nat->Prop} {r:IV} {hp:Hp} (hsc:SC P f args pre R r post) (hf:z0d P f)
    (ho:o.op = .call { callee:=.value (.func f),args:=os,argTypes:=tys }) (hx:evs fr os.toList=some xs) (hs:Subs (look hp) xs args) (hpre:∀ k o,look (up pre) k=some o->look hp k=some o) (hdom:post.map (·.1)=ns++pre.map (·.1)) (hσ0:∀ k∈ns,look hp k=none) (hc0:∀ k∈ns,c.σ k=none) (hfr0:∀ k∈ns,nmFr k fr=false) (hhp0:∀ k∈ns,nmHp k hp=false)
    (hR:∀ k,c.R k->look (up pre) k=none∨R k) (hr:only (post.map (·.1)) r=true) (hpost:z2s (post.map (·.1)) post=true):Ok P c o fr (look hp) r (look (up post++hp)):=by
  intro ρ w a K Q h hK
  obtain ⟨fn,hfn,hname,hbody⟩:=hf
  have hargs:=hs _ _ _ _ (z82 h hx)
  have hrun:(execOp a.eval o).run P w = .ok (.enter f (os.toList.map a.eval).toArray) w:=by
    have hcall:(callFunc f (os.toList.map a.eval).toArray).run P w = .ok (.enter f (os.toList.map a.eval).toArray) w:=by
      unfold callFunc
      simp only [Sem.run_bind]
      show (Result.andThen (.ok P w) _)=_
      simp only [Result.andThen_ok,hfn,hname,hbody]
      rfl
    simp only [execOp,ho,resolve,Act.eval,Deferred.ofValue,Sem.run_bind,Sem.run_pure,Result.andThen_ok,invoke]
    rw [<- hcall]
    congr 2
    apply Array.ext'
    simp
  unfold Oper.wp
  rw [hrun,Oper.upon_enter]
  refine (hsc.stepN h hargs hpre hdom hσ0 hc0 hfr0 hhp0 hR hr hpost).mono ?_
  rintro e w' ⟨ρ',v,rfl,h1,h2⟩
  exact hK ρ' w' v h1 h2
structure K5 (P:Program) (t:TypeId) (f0 f1 f2 f3 f4:Field):Prop where
  hu:P.underlying t=some (.struct #[f0,f1,f2,f3,f4])
  hs:P.stoodInHeld t=false
  t0:P.underlying f0.type=some (.int .i64)
  t1:P.underlying f1.type=some (.int .i64)
  t2:P.underlying f2.type=some (.int .i64)
  t3:P.underlying f3.type=some (.int .i64)
  t4:P.underlying f4.type=some (.int .i64)
  n0:f0.name ≠ "_"
  n1:f1.name ≠ "_"
  n2:f2.name ≠ "_"
  n3:f3.name ≠ "_"
  n4:f4.name ≠ "_"
  o0:f0.offset=0
  o1:f1.offset=1
  o2:f2.offset=2
  o3:f3.offset=3
  o4:f4.offset=4
section
variable {kt:TypeId} {f0 f1 f2 f3 f4:Field}
end
end
section
variable {P:Program} {c:Cx} {o:Oper} {fr:Fr} {hp:Hp}
theorem All.flatRow {ρ:Loc} {w:World} {a:Act} (h:All c ρ (look hp) w fr a) {x:Operand} {k n:Nat} {s:RT} {els:List (List PV)} (hx:fr.ev x=some (.sl k n)) (hk:look hp k=some (.row s els)) (hn:els.length=n) (hone:∀ el∈els,∀ x∈el,x.one=true) :
    FlatV (owned c.F ρ) w s.n els (a.eval x):=by
  rcases h.row hx hk hn with ⟨b,cc,r,u,hv,hρ,h3,h4,hc,hcm,hwe,hcells,hu⟩ | ⟨hv,hρ,hnil⟩
  ·have key:∀ q,q<els.length*s.n->∃ el x,els[q / s.n]? = some el/\el.length=s.n/\el[q % s.n]? = some x/\x.one=true:=fun q hq=>by
     obtain ⟨h1,h2,h3⟩:=zy0 hq
     have he:=hwe _ (List.getElem_mem h1)
     exact ⟨els[q / s.n],els[q / s.n][q % s.n]'oM0,List.getElem?_eq_getElem h1,he,List.getElem?_eq_getElem _,hone _ (List.getElem_mem h1) _ (List.getElem_mem _)⟩
   refine ⟨some ⟨b,0,none⟩,cc,u,by rw [hv,hn],fun _=>⟨_,rfl,fun j y hj=>?_⟩,fun y hy=>?_,hu⟩
   ·have hq:j<els.length*s.n:=by have:=(List.getElem?_eq_some_iff.1 hj).1;simpa using this
    obtain ⟨el,x,h1,h2,h5,_⟩:=key j hq
    have hy:y=u (j / s.n) (j % s.n):=by simpa [hq] using hj.symm
    have:=hcells _ el h1 _ x h5
    rw [Addr.add_mid,hy,z4h h3,Nat.zero_add,<- this,(zy0 hq).2.2]
   obtain ⟨q,hq,rfl⟩:=List.mem_map.1 hy
   obtain ⟨el,x,h1,h2,h5,h6⟩:=key q (by simpa using hq)
   exact (hu _ el h1 _ x h5).one h6
  subst hnil
  exact ⟨none,0,fun _ _=>undef,by simpa using hv,fun hne=>absurd rfl hne,fun y hy=>by simp at hy,fun i el hi=>by simp at hi⟩
theorem z5h {t:TypeId} {x y:Operand} {k n k2 n2 by_:Nat} {s:RT} {els news:List (List PV)} (ho:o.op = .call { callee:=.builtin .append,args:=#[x,y],argTypes:=#[t,t] }) (hx:fr.ev x=some (.sl k n)) (hy:fr.ev y=some (.sl k2 n2))
    (hk:look hp k=some (.row s els)) (hn:els.length=n) (hk2:look hp k2=some (.row s news)) (hn2:news.length=n2) (hR:¬ c.R k) (ht:P.underlying t=some (.slice s.e)) (hi:(P.info? s.e).map (fun i=>(i.size,i.bytes,(i.zero.map fun z=>z.cells.size)))=some (s.n,by_,some s.n)) (hs:0<s.n)
    (hw:∀ el∈news,el.length=s.n) (hone:∀ el∈news,∀ x∈el,x.one=true) (hmax:n+news.length<=maxLen) (hb:(n+news.length)*by_<=140737488355328) :
    Ok P c o fr (look hp) (.sl k (n+news.length)) (look ((k,some (.row s (els++news)))::hp)) :=
  z9l ho hx (fun ρ w a h=>h.flatRow hy hk2 hn2 hone) hk hn hR ht hi hs hw hmax hb
theorem z9k {t e:TypeId} {len s:Nat} {parts:Array (Nat × Operand)} {xs:List (Nat × IV)} {z:Value} {out:List IV} {ρ:Loc} {w:World} {a:Act} (h:All c ρ (look hp) w fr a) (ho:o.op = .buildSlice t len parts) (hx:z3q fr parts.toList=some xs)
    (hu:P.underlying t=some (.slice e)) (hz:((P.info? e).bind (·.zero))=some z) (hs:(P.info? e).map (·.size)=some s) (hzs:z.cells.size=s) (hpos:Nat.ble 1 s=true) (hsmall:Nat.ble (len*s) (2 ^ 24)=true)
    (hf:z52 (fun i=>some (i*s,s)) (za6 z len) xs=some out) (hfirm:z3w (look hp) xs) :
    ∃ vs,z5d c.F ρ (look hp) w out vs/\out.length=len*s/\(execOp a.eval o).run P w = .ok (.value (.slice (some ⟨w.heap.size,0,none⟩) len len)) (w.alloc (.cells vs e)):=by
  have hpos':0<s:=Nat.le_of_ble_eq_true hpos
  have hsmall':=Nat.le_of_ble_eq_true hsmall
  have hzv:(zeroValue e).run P w = .ok z w:=by
    cases hq:P.info? e with
    | none=>simp [hq] at hz
    | some i=>simp [hq] at hz;simp [zeroValue,typeInfo,hq,hz]
  obtain ⟨hl,hv⟩:=z5v h hx
  obtain ⟨hrl,hrg⟩:=zr3 (z:=z) oM0 len
  have hrep:z5d c.F ρ (look hp) w (za6 z len) ((Array.range (len*s)).map (z.cells[· % z.cells.size]!)):=by
    refine ⟨by simp [hrl,hzs],fun j x hj=>?_⟩
    have hjl:j<len*s:=by have:=(List.getElem?_eq_some_iff.1 hj).1;rw [hrl,hzs] at this;exact this
    rw [hrg j x hj]
    exact ⟨_,by simp [hjl],z2q _⟩
  have hlenfill:out.length=len*s:=by
    have:∀ (ps:List (Nat × IV)) (cs out:List IV),z52 (fun i=>some (i*s,s)) cs ps=some out->out.length=cs.length:=by
      intro ps
      induction ps with
      | nil=>intro cs out h;cases h;rfl
      | cons p r ih =>
        intro cs out h
        simp only [z52] at h
        cases hc:Nat.beq (z6m p.2).length s&&Nat.ble (p.1*s+s) cs.length with
        | false=>rw [hc] at h;cases h
        | true =>
          rw [hc] at h
          simp only [Bool.and_eq_true] at hc
          have h1:=Nat.eq_of_beq_eq_true hc.1
          have h2:=Nat.le_of_ble_eq_true hc.2
          rw [ih _ _ h,z8m oM0]
    rw [this _ _ _ hf,hrl,hzs]
  obtain ⟨vs,h1,h2⟩:=zb6 hrep hl (fun j i x hj=>by
    obtain ⟨v,h3,h4⟩:=hv j i x hj
    exact ⟨v,h3,h4,hfirm _ (List.mem_of_getElem? hj)⟩) hf
  have hparts:(parts.map fun (i,x)=>(i,a.eval x)).toList=parts.toList.map fun p=>(p.1,a.eval p.2):=by simp
  have hrun:(execOp a.eval o).run P w = .ok (.value (.slice (some ⟨w.heap.size,0,none⟩) len len)) (w.alloc (.cells vs e)):=by
    have hnr:(newRow e vs).run P w = .ok ⟨w.heap.size,0,none⟩ (w.alloc (.cells vs e)):=rfl
    simp only [execOp,ho,Instr.buildSlice,Sem.run_bind,run_underlying hu,z17 hs,Result.andThen_ok]
    rw [if_neg oM0]
    by_cases h0:len*s=0
    ·have h1':Instr.fill (fun i=>some (i*s,s)) ((Array.range (len*s)).map ((#[]:Array Value)[· % (#[]:Array Value).size]!)) (List.map (fun p=>(p.fst,a.eval p.snd)) parts.toList)=some vs:=by
       have e1:∀ f:Nat->Value,(Array.range (len*s)).map f = #[]:=fun f=>by rw [h0];simp
       rw [e1] at h1 ⊢
       exact h1
     simp only [if_pos h0,Sem.run_bind,Sem.run_pure,Result.andThen_ok,hparts]
     rw [h1']
     simp only [Sem.run_bind,hnr,Result.andThen_ok]
     rfl
    simp only [if_neg h0,Sem.run_bind,Sem.run_pure,Result.andThen_ok,hzv,hparts]
    rw [h1]
    simp only [Sem.run_bind,hnr,Result.andThen_ok]
    rfl
  exact ⟨vs,h2,hlenfill,hrun⟩
theorem z7r {k:Nat} {t e:TypeId} {len s:Nat} {parts:Array (Nat × Operand)} {xs:List (Nat × IV)} {z:Value} {out:List IV} {ps:List PV} (ho:o.op = .buildSlice t len parts) (hx:z3q fr parts.toList=some xs)
    (hu:P.underlying t=some (.slice e)) (hz:((P.info? e).bind (·.zero))=some z) (hs:(P.info? e).map (·.size)=some s) (hzs:z.cells.size=s) (hpos:Nat.ble 1 s=true) (hsmall:Nat.ble (len*s) (2 ^ 24)=true)
    (hf:z52 (fun i=>some (i*s,s)) (za6 z len) xs=some out) (hfirm:z3w (look hp) xs) (hps:z60 out=some ps) (hσ:look hp k=none) (hc:c.σ k=none) (hfr:nmFr k fr=false) (hhp:nmHp k hp=false) :
    Ok P c o fr (look hp) (.sl k len) (look ((k,some (.row ⟨e,s⟩ (z07 s len ps)))::hp)):=by
  intro ρ w a K Q h hK
  have hpos':0<s:=Nat.le_of_ble_eq_true hpos
  have hsmall':=Nat.le_of_ble_eq_true hsmall
  obtain ⟨vs,h2,hlenfill,hrun⟩:=z9k h ho hx hu hz hs hzs hpos hsmall hf hfirm
  unfold Oper.wp
  rw [hrun]
  obtain ⟨hpl,hpg⟩:=z6y hps
  have hel:∀ i el,(z07 s len ps)[i]? = some el->el.length=s/\∀ j x,el[j]? = some x->ps[i*s+j]? = some x:=fun i el hi=>ze7 s len ps i el hi oM0
  have hcl:=z5e s len ps
  have hlm:len<=maxLen:=by simp only [maxLen];have:len<=len*s:=Nat.le_mul_of_pos_right _ hpos';omega
  refine hK (z1j ρ k (some (w.heap.size,len))) _ _ (h.alloc hσ hc hfr hhp len _ _ fun _ keep=>?_) (.sl _ _ _ fun s' els' h'=>?_)
  ·refine .row ⟨e,s⟩ _ vs (fun i j=>vs.getD (i*s+j) undef) (z2x w _) (by have:=h2.1;simp only;omega) oM0 hlm (fun el hel'=>?_) (fun i el hi j x hj=>?_) fun i el hi j x hj=>?_
   ·obtain ⟨i,hi⟩:=List.getElem?_of_mem hel'
    exact (hel i el hi).1
   ·obtain ⟨h5,h6⟩:=hel i el hi
    obtain ⟨v,h7,_⟩:=h2.2 _ _ (hpg _ _ (h6 j x hj))
    simp [Array.getD_eq_getD_getElem?,h7]
   obtain ⟨h5,h6⟩:=hel i el hi
   obtain ⟨v,h7,h8⟩:=h2.2 _ _ (hpg _ _ (h6 j x hj))
   simp only [Array.getD_eq_getD_getElem?,h7,Option.getD_some]
   cases h8 with
   | pv _ _ h8=>exact keep _ _ h8
  rw [z2k] at h';cases h'
  exact ⟨by omega,fun _=>.inl ⟨w.heap.size,len,z0e,rfl⟩⟩
def nilP:PV->PV
  | .val (.slice none 0 0)=>.seq []
  | x=>x
theorem nilP_sub (x:PV):PSub x (nilP x):=by
  unfold nilP
  split
  ·exact PSub.nil
  exact PSub.refl _
theorem y1n:∀ cs:List PV,PSubs cs (cs.map nilP)
  | []=>trivial
  | x::r=>⟨nilP_sub x,y1n r⟩
theorem z13 (cs:List PV):PSub (.agg cs) (.agg (cs.map nilP)):=PSub.agg (y1n cs)
end
section
variable {P:Program} {c:Cx} {R1:Nat->Prop} {o:Oper} {fr:Fr} {hp:Hp} {σ:Heap'} {Q:Exit->Fr->Heap'->Prop}
theorem All.bs {ρ:Loc} {w:World} {a:Act} (h:All c ρ (look hp) w fr a) {x:Operand} {k n:Nat} {cs:List IV} (hx:fr.ev x=some (.bs k n)) (hk:look hp k=some (.box cs)) :
    ∃ (b cc cap:Nat) (e:TypeId) (r:Array Value) (u:Nat->Value),a.eval x = .slice (some ⟨b,0,none⟩) n cap/\n<=cap/\cap<=maxLen /\ ρ k=some (b,cc)/\w.heap[b]? = some (.cells r e (0,0))/\cs.length<=r.size/\(∀ j x,cs[j]? = some x->r[j]? = some (u j))/\∀ j x,cs[j]? = some x->RepI c.F ρ (look hp) w x (u j):=by
  have hr:=h.ev hx
  generalize hv:a.eval x=v at hr
  cases hr with
  | bs _ _ _ hh =>
    obtain ⟨b,cc,hρ,cap,h8,h9,rfl⟩:=hh cs hk
    obtain ⟨o1,h1,h2⟩:=h.rel.obj k b cc hρ
    rw [hk] at h1;cases h1
    obtain ⟨e,r,u,h3,h4,h5,h6⟩:=h2.inv_box
    exact ⟨b,cc,cap,e,r,u,rfl,h8,h9,hρ,h3,h4,h5,h6⟩
theorem y3s {t e:TypeId} {x y:Operand} {k n i:Nat} {m:Int} {kk:IntKind} {cs:List IV} (ho:o.op = .indexAddr t x y) (hx:fr.ev x=some (.bs k n)) (hy:fr.ev y=some (.pv (.val (.int kk m)))) (hk:look hp k=some (.box cs))
    (hu:P.underlying t=some (.slice e)) (he:(P.info? e).map (·.size)=some 1) (hi:i<n) (hm:m=i):OkV P c R1 o fr (look hp) (.ptr k i):=by
  subst hm
  intro ρ w a h
  obtain ⟨b,cc,cap,e',r,u,hv,_,_,hρ,_⟩:=h.bs hx hk
  refine ⟨.pointer (some ⟨b,i,none⟩),fun w2 _=>?_,.ptr _ _ _ fun cs' h'=>⟨b,cc,hρ,rfl⟩⟩
  simp [execOp,ho,hv,z0p h hy,Instr.indexAt,Sem.run_bind,asIntOf,run_underlying hu,hi,z17 he,Addr.add_mid]
theorem zp6 {k:Nat} {t e:TypeId} {len s:Nat} {parts:Array (Nat × Operand)} {xs:List (Nat × IV)} {z:Value} {out:List IV} (ho:o.op = .buildSlice t len parts) (hx:z3q fr parts.toList=some xs)
    (hu:P.underlying t=some (.slice e)) (hz:((P.info? e).bind (·.zero))=some z) (hs:(P.info? e).map (·.size)=some s) (hzs:z.cells.size=s) (hpos:Nat.ble 1 s=true) (hsmall:Nat.ble (len*s) (2 ^ 24)=true)
    (hf:z52 (fun i=>some (i*s,s)) (za6 z len) xs=some out) (hfirm:z3w (look hp) xs) (hn:nm.nms k out=false) (hσ:look hp k=none) (hc:c.σ k=none) (hfr:nmFr k fr=false) (hhp:nmHp k hp=false) :
    Ok P c o fr (look hp) (.bs k len) (look ((k,some (.box out))::hp)):=by
  intro ρ w a K Q h hK
  have hpos':0<s:=Nat.le_of_ble_eq_true hpos
  have hsmall':=Nat.le_of_ble_eq_true hsmall
  obtain ⟨vs,h2,hlenfill,hrun⟩:=z9k h ho hx hu hz hs hzs hpos hsmall hf hfirm
  unfold Oper.wp
  rw [hrun]
  have hlm:len<=maxLen:=by simp only [maxLen];have:len<=len*s:=Nat.le_mul_of_pos_right _ hpos';omega
  refine hK (z1j ρ k (some (w.heap.size,len))) _ _ (h.alloc hσ hc hfr hhp len _ _ fun keep _=>?_) (.bs _ _ _ fun cs' h'=>⟨w.heap.size,len,z0e,len,Nat.le_refl _,hlm,rfl⟩)
  refine .box _ e vs (fun j=>vs.getD j undef) (z2x w _) (Nat.le_of_eq h2.1.symm) (fun j x hj=>?_) fun j x hj=>?_
  ·obtain ⟨v,h7,_⟩:=h2.2 _ _ hj
   simp [Array.getD_eq_getD_getElem?,h7]
  obtain ⟨v,h7,h8⟩:=h2.2 _ _ hj
  simp only [Array.getD_eq_getD_getElem?,h7,Option.getD_some]
  exact keep _ _ h8 (z4u hn (List.mem_of_getElem? hj))
theorem y1r {t:TypeId} {x y:Operand} {k k2 n by_:Nat} {e:TypeId} {cs:List IV} (ho:o.op = .call { callee:=.builtin .append,args:=#[x,y],argTypes:=#[t,t] }) (hx:fr.ev x=some (.pv (.val (.slice none 0 0)))) (hy:fr.ev y=some (.bs k2 n)) (hk2:look hp k2=some (.box cs)) (hn:cs.length=n) (h0:0<n)
    (ht:P.underlying t=some (.slice e)) (hi:(P.info? e).map (fun i=>(i.size,i.bytes,(i.zero.map fun z=>z.cells.size)))=some (1,by_,some 1)) (hmax:n<=maxLen) (hb:n*by_<=140737488355328) (hnm:nm.nms k cs=false)
    (hσ:look hp k=none) (hc:c.σ k=none) (hfr:nmFr k fr=false) (hhp:nmHp k hp=false) :
    Ok P c o fr (look hp) (.bs k n) (look ((k,some (.box cs))::hp)):=by
  intro ρ w a K Q h hK
  cases hq:P.info? e with
  | none=>simp [hq] at hi
  | some i =>
    have hsz:i.size=1:=by simp [hq] at hi;exact hi.1
    have hby:i.bytes=by_:=by simp [hq] at hi;exact hi.2.1
    obtain ⟨z,hz,hzs⟩:∃ z,i.zero=some z/\z.cells.size=1:=by simp [hq] at hi;exact hi.2.2
    simp only [maxLen] at hmax
    obtain ⟨b,cc,cap,e',r,u,hv,_,_,hρ,hbk,hlen,hcell,hrep⟩:=h.drew.bs hy hk2
    have hge:=grownCap_ge w n 0 e
    have hcm:=grownCap_le_maxLen w n 0 e (by simp only [maxLen];omega)
    have hL:((List.range n).map u).length=n*i.size:=by simp [hsz]
    have hcl:∀ j y,((List.range n).map u)[j]? = some y->w.cell? ((⟨b,0,none⟩:Addr).add j)=some y:=fun j y hj=>by
      rw [Addr.add_mid,Nat.zero_add,z4h (w:=w) hbk]
      have hj':j<n:=by have:=(List.getElem?_eq_some_iff.1 hj).1;simpa using this
      have e1:u j=y:=by simpa [hj'] using hj
      have h5:cs[j]? = some (cs[j]'oM0):=List.getElem?_eq_getElem oM0
      rw [hcell j _ h5,e1]
    have hr:=run_append_nil (P:=P) w t o.type e i z ht hq hz ⟨b,0,none⟩ n cap _ hL hcl h0 oM0 (by rw [hby];omega)
    refine Lib.wp_append_run w x y t t ho _ _ (z0p h hx) hv _ _ hr ?_
    refine hK (z1j ρ k (some (w.heap.size,grownCap w n 0 e))) _ _ (h.drew.alloc hσ hc hfr hhp (grownCap w n 0 e) _ _ fun keep _=>?_) (.bs _ _ _ fun cs' h'=>⟨w.heap.size,_,z0e,_,hge,hcm,rfl⟩)
    refine .box _ e _ u (z2x _ _) (by simp;omega) (fun j x hj=>?_) fun j x hj=>keep _ _ (hrep j x hj) (z4u hnm (List.mem_of_getElem? hj))
    have hj':j<n:=by have:=(List.getElem?_eq_some_iff.1 hj).1;omega
    rw [Array.getElem?_append_left (by simpa using hj')]
    simp [hj']
theorem zz8 {t:TypeId} {x y:Operand} {n by_:Nat} {s:RT} {z:Value} {σ:Heap'} (ho:o.op = .makeSlice t x y) (hx:fr.ev x=some (.pv (.val (.int .i64 n)))) (hy:fr.ev y=some (.pv (.val (.int .i64 n))))
    (hu:P.underlying t=some (.slice s.e)) (hz:((P.info? s.e).bind (·.zero))=some z) (hi:(P.info? s.e).map (fun i=>(i.size,i.bytes))=some (s.n,by_)) (hzs:z.cells.size=s.n) (hpos:0<s.n) (hn:n<2 ^ 63) (hb:by_*n<=281474976710656) :
    Ok P c o fr σ (.pv (.seq (List.replicate n (z.cells.toList.map .val)))) σ:=by
  intro ρ w a K Q h hK
  cases hq:P.info? s.e with
  | none=>simp [hq] at hi
  | some i =>
    have hsz:i.size=s.n:=by simp [hq] at hi;exact hi.1
    have hby:i.bytes=by_:=by simp [hq] at hi;exact hi.2
    have hiz:i.zero=some z:=by simpa [hq] using hz
    have hwrap:IntKind.i64.wrap (n:Int)=n:=IntWalk.i64_in _ oM0
    have hrun:(execOp a.eval o).run P w = .ok (.value (.slice (some ⟨w.heap.size,0,none⟩) n n)) (w.alloc (.cells ((Array.range (n*s.n)).map (z.cells[· % z.cells.size]!)) s.e)):=by
      have hnr:∀ r,(newRow s.e r).run P w = .ok ⟨w.heap.size,0,none⟩ (w.alloc (.cells r s.e)):=fun _=>rfl
      have hti:(typeInfo s.e).run P w = .ok i w:=by simp [typeInfo,hq]
      have hso:(sizeOf s.e).run P w = .ok s.n w:=z17 (by simp [hq,hsz]) w
      have hzv:(zeroValue s.e).run P w = .ok z w:=by simp [zeroValue,typeInfo,hq,hiz]
      have h2:(by_:Int)*n<=281474976710656:=by
        have:((by_*n:Nat):Int)<=281474976710656:=by omega
        rwa [Int.natCast_mul] at this
      simp only [execOp,ho,Instr.makeSlice,Sem.run_bind,run_underlying hu,Result.andThen_ok,z0p h hx,z0p h hy,asInt,asIntOf,Sem.run_pure,hti,hwrap,hby]
      rw [if_neg (by simpa using h2)]
      simp only [Sem.run_bind,zr5,Result.andThen_ok,hso,Int.toNat_natCast]
      by_cases h0:n*s.n=0
      ·rw [if_pos h0]
       simp only [Sem.run_bind,Sem.run_pure,Result.andThen_ok,hnr]
       have e1:∀ f g:Nat->Value,(Array.range (n*s.n)).map f=(Array.range (n*s.n)).map g:=fun f g=>by rw [h0];simp
       rw [e1 _ (z.cells[· % z.cells.size]!)]
      rw [if_neg h0]
      simp only [Sem.run_bind,Sem.run_pure,Result.andThen_ok,hzv,hnr]
    unfold Oper.wp
    rw [hrun]
    obtain ⟨h3,keep⟩:=h.push (.cells ((Array.range (n*s.n)).map (z.cells[· % z.cells.size]!)) s.e)
    refine hK ρ _ _ h3 (.pv _ _ ?_)
    have hll:(List.replicate n (z.cells.toList.map PV.val)).length=n:=by simp
    have hbig:by_*n<=281474976710656:=hb
    have:RepP (owned c.F ρ) (w.alloc (.cells ((Array.range (n*s.n)).map (z.cells[· % z.cells.size]!)) s.e)) (.seq (List.replicate n (z.cells.toList.map .val))) (.slice (some ⟨w.heap.size,0,none⟩) (List.replicate n (z.cells.toList.map PV.val)).length n):=by
      refine .seq _ _ n w.heap.size 0 (fun _ j=>z.cells[j]!) (fun _=>rfl) (fun _=>⟨h.fresh,by simp⟩) sI0 (by simp only [maxLen];omega) (fun i el hi j x hj=>?_) fun i el hi j x hj=>?_
      ·have hel:=List.eq_of_mem_replicate (List.mem_of_getElem? hi)
       have hin:i<n:=by have:=(List.getElem?_eq_some_iff.1 hi).1;simpa using this
       subst hel
       have hjs:j<s.n:=by have:=(List.getElem?_eq_some_iff.1 hj).1;simp [hzs] at this;exact this
       have hlt:i*s.n+j<n*s.n:=by
         have:(i+1)*s.n<=n*s.n:=Nat.mul_le_mul_right _ oM0
         rw [Nat.add_mul] at this;omega
       rw [z4h (z2x w _)]
       simp [hlt,hzs,Nat.mod_eq_of_lt hjs]
      have hel:=List.eq_of_mem_replicate (List.mem_of_getElem? hi)
      subst hel
      simp only [List.getElem?_map,Option.map_eq_some_iff,Array.getElem?_toList] at hj
      obtain ⟨v,hv,rfl⟩:=hj
      have:z.cells[j]! = v:=by
        have hlt:=(Array.getElem?_eq_some_iff.1 hv).1
        simp [hlt] at hv ⊢
        exact hv
      rw [this]
      exact .val v
    rwa [hll] at this
end
section
variable {P:Program} {o:Oper} {fr fr2:Fr} {hp hp2:Hp} {Rl:List Nat}
inductive TI where
  | int (k:IntKind)
  | bool
  | str
  | slice (e:Nat)
  | struct (fs:List (Nat × Nat))
  | arr (len e:Nat)
  | map (k e:Nat)
  | one
inductive ZV where
  | int (k:IntKind)
  | bool
  | str
  | slice
  | map
  | ptr
  | fn
  | iface
def ZV.val:ZV->Value
  | .int k=>.int k 0
  | .bool=>.bool false
  | .str=>.string ⟨#[]⟩
  | .slice=>.slice none 0 0
  | .map=>.map none
  | .ptr=>.pointer none
  | .fn=>.nilFunc
  | .iface=>.nilIface
def ZV.isB:ZV->Value->Bool
  | .int k,.int k' n=>k'==k&&n==0
  | .bool,.bool b=>!b
  | .str,.string s=>s.data.isEmpty
  | .slice,.slice none 0 0=>true
  | .map,.map none=>true
  | .ptr,.pointer none=>true
  | .fn,.nilFunc=>true
  | .iface,.nilIface=>true
  | _,_=>false
theorem ZV.isB_ok {z:ZV} {v:Value} (h:z.isB v=true):v=z.val:=by
  unfold ZV.isB at h
  split at h
  · simp only [Bool.and_eq_true,beq_iff_eq] at h;simp [ZV.val,h.1,h.2]
  · simp only [Bool.not_eq_true'] at h;subst h;rfl
  · rename_i s
    have:s.data = #[]:=by simpa using h
    cases s;simp_all [ZV.val]
  all_goals first | rfl | cases h
structure TE where
  i:TI
  n:Nat
  b:Nat
  z:List ZV
def TI.row:TI->Bool
  | .struct _=>true
  | .arr ..=>true
  | _=>false
def TI.is:TI->TypeDesc->Prop
  | .int k,d=>d = .int k
  | .bool,d=>d = .bool
  | .str,d=>d = .string
  | .slice e,d=>d = .slice e
  | .struct fs,d=>∃ a,d = .struct a/\a.toList.map (fun f=>(f.offset,f.type))=fs
  | .arr len e,d=>d = .array len e
  | .map k e,d=>d = .map k e
  | .one,d=>d.isRow=false
def TI.isB:TI->TypeDesc->Bool
  | .int k,.int k'=>k'==k
  | .bool,.bool=>true
  | .str,.string=>true
  | .slice e,.slice e'=>Nat.beq e' e
  | .struct fs,.struct a=>a.toList.map (fun f=>(f.offset,f.type))==fs
  | .arr len e,.array len' e'=>Nat.beq len' len&&Nat.beq e' e
  | .map k e,.map k' e'=>Nat.beq k' k&&Nat.beq e' e
  | .one,d=>!d.isRow
  | _,_=>false
theorem TI.isB_ok {i:TI} {d:TypeDesc} (h:i.isB d=true):i.is d:=by
  unfold TI.isB at h
  split at h
  · simp only [beq_iff_eq] at h;simp [TI.is,h]
  · rfl
  · rfl
  · simp [TI.is,Nat.eq_of_beq_eq_true h]
  · exact ⟨_,rfl,by simpa using h⟩
  · simp only [Bool.and_eq_true] at h;simp [TI.is,Nat.eq_of_beq_eq_true h.1,Nat.eq_of_beq_eq_true h.2]
  · simp only [Bool.and_eq_true] at h;simp [TI.is,Nat.eq_of_beq_eq_true h.1,Nat.eq_of_beq_eq_true h.2]
  · simpa [TI.is] using h
  · cases h
theorem TI.is_row {i:TI} {d:TypeDesc} (h:i.is d):d.isRow=i.row:=by
  cases i with
  | struct fs=>obtain ⟨a,rfl,_⟩:=h;rfl
  | one=>exact h
  | _=>cases h;rfl
def zsB:List ZV->List Value->Bool
  | [],[]=>true
  | z::r,v::s=>z.isB v&&zsB r s
  | _,_=>false
theorem zsB_ok:∀ {l:List ZV} {m:List Value},zsB l m=true->m=l.map ZV.val
  | [],[],_=>rfl
  | z::r,v::s,h=>by
    simp only [zsB,Bool.and_eq_true] at h
    rw [ZV.isB_ok h.1,zsB_ok h.2];rfl
def TE.zv (e:TE):Value:=match e.i.row with
  | true=>.agg (e.z.map ZV.val).toArray
  | false=>(e.z.headD .bool).val
def TE.zB (e:TE) (v:Value):Bool:=match e.i.row with
  | true=>match v with
    | .agg cs=>zsB e.z cs.toList
    | _=>false
  | false=>match e.z with
    | [z]=>z.isB v
    | _=>false
theorem TE.zB_ok {e:TE} {v:Value} (h:e.zB v=true):v=e.zv/\v.cells.toList=e.z.map ZV.val:=by
  unfold TE.zB at h
  unfold TE.zv
  split at h
  · rename_i hr
    split at h
    · rename_i cs
      have:=zsB_ok h
      exact ⟨by simp [<- this],this⟩
    · cases h
  · rename_i hr
    split at h
    · rename_i z hz
      obtain rfl:=ZV.isB_ok h
      rw [hz]
      exact ⟨rfl,by cases z<;>rfl⟩
    · cases h
def teB (P:Program) (t:Nat) (e:TE):Bool :=
  (match P.underlying t with
    | some d=>e.i.isB d
    | none=>false) &&
  (match P.info? t with
    | some i=>Nat.beq i.size e.n&&Nat.beq i.bytes e.b&&(match e.z with
      | []=>true
      | _=>Nat.beq e.z.length e.n&&(match i.zero with
        | some z=>e.zB z
        | none=>false))
    | none=>false)
section
variable {t:Nat} {e:TE}
theorem z42 (h:teB P t e=true):∃ d,P.underlying t=some d/\e.i.is d:=by
  unfold teB at h
  simp only [Bool.and_eq_true] at h
  replace h:=h.1
  split at h
  · rename_i d hd;exact ⟨d,hd,TI.isB_ok h⟩
  · cases h
theorem zs7 (h:teB P t e=true):∃ i,P.info? t=some i/\i.size=e.n/\i.bytes=e.b/\(e.z≠[]->e.z.length=e.n/\i.zero=some e.zv/\e.zv.cells.toList=e.z.map ZV.val):=by
  unfold teB at h
  simp only [Bool.and_eq_true] at h
  replace h:=h.2
  split at h
  · rename_i i hi
    simp only [Bool.and_eq_true] at h
    refine ⟨i,hi,Nat.eq_of_beq_eq_true h.1.1,Nat.eq_of_beq_eq_true h.1.2,fun hz=>?_⟩
    have h2:=h.2
    split at h2
    · rename_i h0;exact absurd h0 hz
    · simp only [Bool.and_eq_true] at h2
      have h3:=h2.2
      split at h3
      · rename_i z hz
        obtain ⟨rfl,h4⟩:=TE.zB_ok h3
        exact ⟨Nat.eq_of_beq_eq_true h2.1,hz,h4⟩
      · cases h3
  · cases h
theorem z2c (h:teB P t e=true):(P.info? t).map (·.size)=some e.n:=by
  obtain ⟨i,hi,h1,_⟩:=zs7 h
  simp [hi,h1]
theorem te_by (h:teB P t e=true):(P.info? t).map (fun i=>(i.size,i.bytes))=some (e.n,e.b):=by
  obtain ⟨i,hi,h1,h2,_⟩:=zs7 h
  simp [hi,h1,h2]
theorem z66 (h:teB P t e=true) (hz:e.z≠[]):(P.info? t).bind (·.zero)=some e.zv:=by
  obtain ⟨i,hi,_,_,h2⟩:=zs7 h
  simp [hi,(h2 hz).2.1]
theorem z4z (h:teB P t e=true) (hz:e.z≠[]):e.zv.cells.toList=e.z.map ZV.val/\e.zv.cells.size=e.n:=by
  obtain ⟨i,hi,_,_,h2⟩:=zs7 h
  refine ⟨(h2 hz).2.2,?_⟩
  rw [<- Array.length_toList,(h2 hz).2.2,List.length_map]
  exact (h2 hz).1
theorem te_app (h:teB P t e=true) (hz:e.z≠[]):(P.info? t).map (fun i=>(i.size,i.bytes,(i.zero.map fun z=>z.cells.size)))=some (e.n,e.b,some e.n):=by
  obtain ⟨i,hi,h1,h2,h3⟩:=zs7 h
  simp [hi,h1,h2,(h3 hz).2.1,(z4z h hz).2]
end
structure TB (P:Program) where
  ti:Nat->Option TE
  tok:∀ t e,ti t=some e->teB P t e=true
  fn:Nat->Bool
  fok:∀ f,fn f=true->z0d P f
  mx:P.follows .mixedOrders=true
def tFind:List (Nat × TE)->Nat->Option TE
  | [],_=>none
  | (k,e)::r,t=>match Nat.beq k t with
    | true=>some e
    | false=>tFind r t
def tAll (P:Program):List (Nat × TE)->Bool
  | []=>true
  | (k,e)::r=>teB P k e&&tAll P r
theorem y63:∀ {l:List (Nat × TE)} {t:Nat} {e:TE},tAll P l=true->tFind l t=some e->teB P t e=true
  | [],_,_,_,h=>by cases h
  | (k,e')::r,t,e,h1,h=>by
    simp only [tAll,Bool.and_eq_true] at h1
    simp only [tFind] at h
    split at h
    · rename_i hb
      obtain rfl:=Nat.eq_of_beq_eq_true hb
      cases h;exact h1.1
    · exact y63 h1.2 h
def entB (P:Program) (f:Nat):Bool:=match P.funcs[f]? with
  | some fn=>!(fn.name == "runtime.NumGoroutine") && !fn.body.isNone
  | none=>false
theorem entB_ok {f:Nat} (h:entB P f=true):z0d P f:=by
  unfold entB at h
  split at h
  · rename_i fn hf
    simp only [Bool.and_eq_true,Bool.not_eq_true'] at h
    exact ⟨fn,hf,h.1,h.2⟩
  · cases h
def nIn (k:Nat):List Nat->Bool
  | []=>false
  | j::r=>match Nat.beq j k with
    | true=>true
    | false=>nIn k r
theorem z4t {k:Nat}:∀ {l:List Nat},nIn k l=true↔k∈l
  | []=>by simp [nIn]
  | j::r=>by
    simp only [nIn,List.mem_cons]
    split
    · rename_i h;simp [Nat.eq_of_beq_eq_true h]
    · rename_i h
      have:k≠j:=fun e=>by subst e;simp at h
      simp [this,z4t]
theorem z2o {k:Nat} {l:List Nat} (h:nIn k l=false):k∉l:=fun hm=>by rw [z4t.2 hm] at h;cases h
def y0z (P:Program):List Nat->Bool
  | []=>true
  | f::r=>entB P f&&y0z P r
theorem y10 {f:Nat}:∀ {l:List Nat},y0z P l=true->nIn f l=true->z0d P f
  | [],_,h=>by cases h
  | g::r,h1,h=>by
    simp only [y0z,Bool.and_eq_true] at h1
    simp only [nIn] at h
    split at h
    · rename_i hb;obtain rfl:=Nat.eq_of_beq_eq_true hb;exact entB_ok h1.1
    · exact y10 h1.2 h
def mkTB (P:Program) (l:List (Nat × TE)) (q:List Nat) (h:tAll P l=true) (h2:y0z P q=true) (mx:P.follows .mixedOrders=true):TB P where
  ti t:=tFind l t
  tok _ _ ht:=y63 h ht
  fn f:=nIn f q
  fok _ hf:=y10 h2 hf
  mx:=mx
structure Stp where
  x:IV
  wr:Hp
  rd:List Nat
  nw:List Nat
def agr (fr2 fr:Fr) (l:List Nat):Prop:=∀ t∈l,fr2.get t=fr.get t
def agh (hp2 hp:Hp) (l:List Nat):Prop:=∀ k∈l,look hp2 k=look hp k
def frsh (k:Nat) (fr:Fr) (hp:Hp):Bool:=match nmFr k fr with
  | true=>false
  | false=>match nmHp k hp with
    | true=>false
    | false=>match look hp k with
      | none=>true
      | some _=>false
theorem z3r {k:Nat} (h:frsh k fr hp=true):nmFr k fr=false/\nmHp k hp=false/\look hp k=none:=by
  unfold frsh at h
  split at h
  · cases h
  · rename_i h1
    split at h
    · cases h
    · rename_i h2
      split at h
      · rename_i h3;exact ⟨h1,h2,h3⟩
      · cases h
def ye3 (l:List Operand):List Nat:=l.flatMap fun
  | .tmp t=>[t]
  | _=>[]
def z16 (op:Op):List Nat:=ye3 op.operands.toList
theorem agr.evO {l:List Operand} (h:agr fr2 fr (ye3 l)) {y:Operand} (hy:y∈l):fr2.ev y=fr.ev y:=by
  cases y with
  | tmp t=>exact h t (List.mem_flatMap.2 ⟨.tmp t,hy,List.mem_singleton.2 rfl⟩)
  | _=>rfl
theorem agr.ev {op:Op} (h:agr fr2 fr (z16 op)) {y:Operand} {x:IV} (hx:fr.ev y=some x) (hy:y∈op.operands.toList):fr2.ev y=some x:=(h.evO hy).trans hx
theorem agr.evs {op:Op} (h:agr fr2 fr (z16 op)):∀ {os:List Operand} {xs:List IV},evs fr os=some xs->(∀ y∈os,y∈op.operands.toList)->evs fr2 os=some xs
  | [],xs,hx,_=>hx
  | y::r,xs,hx,hy=>by
    simp only [Go.Proofs.YtfaeemilgahcpaaGreat.evs] at hx ⊢
    split at hx
    · rename_i a b h1 h2
      rw [h.ev h1 (hy y (.head _)),h.evs h2 fun z hz=>hy z (.tail _ hz)]
      exact hx
    · cases hx
theorem agr.evParts {op:Op} (h:agr fr2 fr (z16 op)):∀ {ps:List (Nat × Operand)} {xs:List (Nat × IV)},z3q fr ps=some xs->(∀ y∈ps,y.2∈op.operands.toList)->z3q fr2 ps=some xs
  | [],xs,hx,_=>hx
  | (i,y)::r,xs,hx,hy=>by
    simp only [Go.Proofs.YtfaeemilgahcpaaGreat.z3q] at hx ⊢
    split at hx
    · rename_i a b h1 h2
      rw [h.ev h1 (hy (i,y) (.head _)),h.evParts h2 fun z hz=>hy z (.tail _ hz)]
      exact hx
    · cases hx
theorem agh.at {rd:List Nat} (h:agh hp2 hp rd) {k:Nat} {ob:Option HO} (hk:look hp k=ob) (hm:k∈rd):look hp2 k=ob:=(h k hm).trans hk
def OkF (P:Program) (Rl:List Nat) (o:Oper) (fr:Fr) (hp:Hp) (s:Stp):Prop :=
  ∀ (c:Cx) fr2 hp2,(∀ k,c.R k->k∈Rl)->(∀ k∈s.nw,c.σ k=none)->agr fr2 fr (z16 o.op)->agh hp2 hp s.rd->(∀ k∈s.nw,frsh k fr2 hp2=true)->Ok P c o fr2 (look hp2) s.x (look (s.wr++hp2))
theorem OkF.pure {x:IV} {rd:List Nat} (h:∀ (c:Cx) (R1:Nat->Prop) fr2 hp2,agr fr2 fr (z16 o.op)->agh hp2 hp rd->(∀ k∈rd,R1 k)->OkV P c R1 o fr2 (look hp2) x):OkF P Rl o fr hp ⟨x,[],rd,[]⟩ :=
  fun c fr2 hp2 _ _ ha hh _=>(h c (fun _=>True) fr2 hp2 ha hh fun _ _=>trivial).ok
inductive VAny (P:Program) (Rl:List Nat) (o:Oper) (fr:Fr) (hp:Hp) (K:Stp->Prop):Prop
  | mk {s:Stp} (h:OkF P Rl o fr hp s) (k:K s)
def Does (P:Program) (Rl:List Nat) (o:Oper) (fr:Fr) (hp:Hp) (K:Stp->Prop):Prop:=∃ s,K s/\OkF P Rl o fr hp s
def frcI:List IV->(List IV->Prop)->Prop
  | [],K=>K []
  | x::r,K=>frcI r fun l=>K (x::l)
theorem z57:∀ {l:List IV} {K:List IV->Prop},frcI l K->K l
  | [],_,h=>h
  | _::r,K,h=>z57 (l:=r) (K:=fun l=>K (_::l)) h
def frcP:List PV->(List PV->Prop)->Prop
  | [],K=>K []
  | x::r,K=>frcP r fun l=>K (x::l)
theorem z6l:∀ {l:List PV} {K:List PV->Prop},frcP l K->K l
  | [],_,h=>h
  | _::r,K,h=>z6l (l:=r) (K:=fun l=>K (_::l)) h
def bsel (b:Bool) (A B:Prop):Prop:=match b with
  | true=>A
  | false=>B
theorem z00 {b:Bool} {A B:Prop} (ht:b=true->A) (hf:b=false->B):bsel b A B:=by
  cases b with
  | true=>exact ht rfl
  | false=>exact hf rfl
def vev (fr:Fr) (y:Operand) (K:IV->Prop):Prop:=match fr.ev y with
  | some x=>K x
  | none=>False
theorem z1g {y:Operand} {K:IV->Prop} (h:vev fr y K):∃ x,fr.ev y=some x/\K x:=by
  unfold vev at h
  split at h
  · rename_i x hx;exact ⟨x,hx,h⟩
  · exact h.elim
def vti (T:TB P) (t:Nat) (K:TE->Prop):Prop:=match T.ti t with
  | some e=>K e
  | none=>False
theorem z1y {T:TB P} {t:Nat} {K:TE->Prop} (h:vti T t K):∃ e,teB P t e=true/\K e:=by
  unfold vti at h
  split at h
  · rename_i e he;exact ⟨e,T.tok _ _ he,h⟩
  · exact h.elim
def vbox (hp:Hp) (k:Nat) (K:List IV->Prop):Prop:=match look hp k with
  | some (.box cs)=>K cs
  | _=>False
theorem z4r {k:Nat} {K:List IV->Prop} (h:vbox hp k K):∃ cs,look hp k=some (.box cs)/\K cs:=by
  unfold vbox at h
  split at h
  · rename_i cs hk;exact ⟨cs,hk,h⟩
  · exact h.elim
def vrow (hp:Hp) (k:Nat) (K:RT->List (List PV)->Prop):Prop:=match look hp k with
  | some (.row s els)=>K s els
  | _=>False
theorem z67 {k:Nat} {K:RT->List (List PV)->Prop} (h:vrow hp k K):∃ s els,look hp k=some (.row s els)/\K s els:=by
  unfold vrow at h
  split at h
  · rename_i s els hk;exact ⟨s,els,hk,h⟩
  · exact h.elim
def vmap (hp:Hp) (k:Nat) (K:List (Value × PV)->Prop):Prop:=match look hp k with
  | some (.map es)=>K es
  | _=>False
theorem y0p {k:Nat} {K:List (Value × PV)->Prop} (h:vmap hp k K):∃ es,look hp k=some (.map es)/\K es:=by
  unfold vmap at h
  split at h
  · rename_i es hk;exact ⟨es,hk,h⟩
  · exact h.elim
def z2b (b:Bool) (A:Prop):Prop:=match b with
  | true=>A
  | false=>False
theorem z0h {b:Bool} {A:Prop} (h:z2b b A):b=true/\A:=by
  unfold z2b at h
  split at h
  · exact ⟨rfl,h⟩
  · exact h.elim
def vopt {α:Type} (x:Option α) (K:α -> Prop):Prop:=match x with
  | some a=>K a
  | none=>False
theorem z0z {α:Type} {x:Option α} {K:α -> Prop} (h:vopt x K):∃ a,x=some a/\K a:=by
  unfold vopt at h
  split at h
  · exact ⟨_,rfl,h⟩
  · exact h.elim
def zc8:IV->List Nat
  | .pv _=>[]
  | .ptr k _=>[k]
  | .sl k _=>[k]
  | .rpt k _ _=>[k]
  | .bs k _=>[k]
  | .mp k=>[k]
  | _=>[]
def y7w (hp:Hp) (z:IV) (A:Prop):Prop:=match z with
  | .pv p=>z2b p.one A
  | .ptr k _=>vbox hp k fun _=>A
  | .sl k n=>vrow hp k fun _ els=>els.length=n/\A
  | .bs k _=>vbox hp k fun _=>A
  | .mp k=>vmap hp k fun _=>A
  | .fn ..=>A
  | _=>False
theorem zl8 {z:IV} {A:Prop} (h:y7w hp z A):A/\∀ hp2,agh hp2 hp (zc8 z)->z.firm (look hp2):=by
  unfold y7w at h
  split at h
  · obtain ⟨h1,h2⟩:=z0h h;exact ⟨h2,fun _ _=>h1⟩
  · obtain ⟨cs,h1,h2⟩:=z4r h;exact ⟨h2,fun hp2 hh=>⟨cs,hh.at h1 (.head _)⟩⟩
  · obtain ⟨s,els,h1,h2,h3⟩:=z67 h;exact ⟨h3,fun hp2 hh=>⟨s,els,hh.at h1 (.head _),h2⟩⟩
  · obtain ⟨cs,h1,h2⟩:=z4r h;exact ⟨h2,fun hp2 hh=>⟨cs,hh.at h1 (.head _)⟩⟩
  · obtain ⟨cs,h1,h2⟩:=y0p h;exact ⟨h2,fun hp2 hh=>⟨cs,hh.at h1 (.head _)⟩⟩
  · exact ⟨h,fun _ _=>trivial⟩
  · exact h.elim
def yg9 (hp:Hp):List IV->Prop->Prop
  | [],A=>A
  | z::r,A=>y7w hp z (yg9 hp r A)
theorem y2v:∀ {l:List IV} {A:Prop},yg9 hp l A->A/\∀ hp2,agh hp2 hp (l.flatMap zc8)->∀ z∈l,z.firm (look hp2)
  | [],A,h=>⟨h,fun _ _ z hz=>by cases hz⟩
  | z::r,A,h=>by
    obtain ⟨h1,h2⟩:=zl8 h
    obtain ⟨h3,h4⟩:=y2v h1
    refine ⟨h3,fun hp2 hh y hy=>?_⟩
    simp only [List.flatMap_cons] at hh
    rcases List.mem_cons.1 hy with rfl | hy
    · exact h2 hp2 fun k hk=>hh k (List.mem_append_left _ hk)
    · exact h4 hp2 (fun k hk=>hh k (List.mem_append_right _ hk)) y hy
end
end Go.Proofs.YtfaeemilgahcpaaGreat
