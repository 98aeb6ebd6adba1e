/- PART 3 of 7 of a proof: see the last part. -/
import Derived.Test.YthbcibeddfacbaaGreatSd2
set_option maxRecDepth 8000
set_option maxHeartbeats 2000000
set_option linter.unusedSimpArgs false
set_option linter.unusedVariables false
set_option linter.unusedSectionVars false
namespace Go.Proofs.YthbcibeddfacbaaGreat
open Go
section
def I64 (y:Int):Prop:=-9223372036854775808<=y/\y<=9223372036854775807
def P64 (p:List Int):Prop:=∀ y∈p,I64 y
def Rg (s:Rs):Prop:=P64 s.ins/\∀ row∈s.ar,P64 row
def Two (x:Nd) (p:List Int) (y:Int):Prop:=x.kind=4->∃ a0 a1,p[0]? = some a0/\p[1]? = some a1/\mTwo x.op a0 a1=(y,true)
structure KF where
  k:Int
  outs:List Int
  rest:List Nd
mutual
def nsz:Nd->Nat
  | .mk _ _ _ _ _ _ _ ks=>1+kdz ks
def lsz:List Nd->Nat
  | []=>0
  | x::r=>nsz x+lsz r
def kdz:List (List Nd)->Nat
  | []=>0
  | l::r=>lsz l+kdz r
end
theorem zx7 (x:Nd):nsz x=1+kdz x.kids:=by cases x;simp [nsz,Nd.kids]
def ksz:List KF->Nat
  | []=>0
  | f::K=>lsz f.rest+ksz K
abbrev VR:=List Int->List Int->Prop
abbrev ER:=Int->List Int->List Int->List Int->List Int->Prop
def setO (outs a:List Int) (y:Int) (a2:List Int):Prop:=match outs with
  | []=>a2=a
  | o::_=>setV a o y=some a2
inductive LRel:Nat->Nat->VR->List Nd->List KF->List Nd->ER->Prop
  | dead {I l K l' E}:(∀ a b,¬ I a b)->LRel 0 0 I l K l' E
  | weak {k c I I' l K l' E}:(∀ a b,I a b->I' a b)->LRel k c I' l K l' E->LRel k c I l K l' E
  | both {k c I J x x' l K l' E}:HL x->HL x'->hc x'<=hc x->(∀ a b a2 b2,I a b->hRun x a a2->hRun x' b b2->J a2 b2)->LRel k c J l K l' E->LRel k c I (x::l) K (x'::l') E
  | skip {k c I J x l K l' E}:HL x->(∀ a b a2,I a b->hRun x a a2->J a2 b)->LRel k c J l K l' E->LRel k c I (x::l) K l' E
  | drop {I J x l K l' E}:x.kind=4->x.outs≠[]->(∀ a b p a0 a1,I a b->mOf a x.args=some p->p[0]? = some a0->p[1]? = some a1->(mTwo x.op a0 a1).2=true)->(∀ a b a2,I a b->hRun x a a2->J a2 b)->LRel 0 0 J l K l' E->LRel 0 0 I (x::l) K l' E
  | paid {k c I J x l K l' E}:HL x->(∀ a b a2,I a b->hRun x a a2->J a2 b)->l≠[]->LRel k c J l K l' E->LRel (k+1) (c+hc x) I (x::l) K l' E
  | add {k c I J x' l K l' E}:HL x'->l≠[]->(∀ a b b2,I a b->hRun x' b b2->J a b2)->LRel (k+1) (c+hc x') J l K l' E->LRel k c I l K (x'::l') E
  | eff {I J x x' l K l' E}:(x.kind≠1/\x.kind≠2/\x.kind≠10/\x.kind≠11/\x.kind≠12/\x.kind≠13/\x.kind≠14/\x.kind≠15)->x'.kind=x.kind->x'.op=x.op->x'.name=x.name->x'.outs.length=x.outs.length ->
      (∀ a b p,I a b->mOf a x.args=some p->P64 p)->(∀ a b p p',I a b->mOf a x.args=some p->mOf b x'.args=some p'->p'=p)->(∀ a b p a2 b2 y,I a b->mOf b x'.args=some p->I64 y->Two x p y->setO x.outs a y a2->setO x'.outs b y b2->J a2 b2)->LRel 0 0 J l K l' E->LRel 0 0 I (x::l) K (x'::l') E
  | ite {I J E2 x x' q0 q1 q0' q1' l K l' E}:x.kind=10->x'.kind=10->x.kids=[q0,q1]->x'.kids=[q0',q1']->(∀ a b p p',I a b->mOf a x.args=some p->mOf b x'.args=some p'->p'[0]? = p[0]?) ->
      LRel 0 0 I q0 [] q0' E2->LRel 0 0 I q1 [] q1' E2 ->
      (∀ n p p' a b,E2 n p p' a b->(n=12/\∀ a2 b2,mSet a x.outs p=some a2->mSet b x'.outs p'=some b2->J a2 b2)∨(n≠12/\n≠0/\(K=[]∨n=15)/\E n p p' a b)) ->
      LRel 0 0 J l K l' E->LRel 0 0 I (x::l) K (x'::l') E
  | loop {k c I I2 J E2 x x' q q' l K l' E}:x.kind=11->x'.kind=11->x.kids=[q]->x'.kids=[q'] ->
      (∀ a b p p' a2 b2,I a b->mOf a x.args=some p->mOf b x'.args=some p'->mSet a x.params p=some a2->mSet b x'.params p'=some b2->I2 a2 b2) ->
      LRel k c I2 q [] q' E2 ->
      (∀ n p p' a b,E2 n p p' a b->(n=15/\E 15 p p' a b)∨(n=14/\∀ a2 b2,mSet a x.outs p=some a2->mSet b x'.outs p'=some b2->J a2 b2)∨(n=13/\∀ a2 b2,mSet a x.params p=some a2->mSet b x'.params p'=some b2->I2 a2 b2)) ->
      LRel 0 0 J l K l' E->LRel k c I (x::l) K (x'::l') E
  | ender {I x x' l K l' E}:12<=x.kind->x.kind<=15->x'.kind=x.kind->(K=[]∨x.kind=15)->(∀ a b p p',I a b->mOf a x.args=some p->mOf b x'.args=some p'->E x.kind p p' a b)->LRel 0 0 I (x::l) K (x'::l') E
  | once {k c I J x q l K l' E}:x.kind=11->x.kids=[q]->(∀ a b p a2,I a b->mOf a x.args=some p->mSet a x.params p=some a2->J a2 b)->LRel k c J q (⟨14,x.outs,l⟩::K) l' E->LRel k c I (x::l) K l' E
  | leave {k c I J y l f K l' E}:y.kind=f.k->f.k=12∨f.k=14->(∀ a b p a2,I a b->mOf a y.args=some p->mSet a f.outs p=some a2->J a2 b)->LRel k c J f.rest K l' E->LRel k c I (y::l) (f::K) l' E
  | fork {k c I x q0 q1 l K l' E}:x.kind=10->x.kids=[q0,q1]->LRel k c I q0 (⟨12,x.outs,l⟩::K) l' E->LRel k c I q1 (⟨12,x.outs,l⟩::K) l' E->LRel k c I (x::l) K l' E
theorem LRel.nil {k c:Nat} {I:VR} {l:List Nd} {K:List KF} {l':List Nd} {E:ER} (h:LRel k c I l K l' E):l=[]->k=0:=by
  induction h with
  | dead _=>exact fun _=>rfl
  | weak _ _ ih=>exact ih
  | add _ h1 _ _ _=>exact fun e=>absurd e h1
  | _=>intro e;cases e
def KFin (u:Un) (D:Nat):List KF->Rres->Rres->Prop
  | [],r1,r=>r=r1
  | f::K,r1,r=>if r1.1.1=15 then r=r1 else if r1.1.1=f.k then ∃ a2 d r2,d<=D/\mSet r1.2.1 f.outs r1.1.2=some a2/\z1x u d f.rest a2 r1.2.2=some r2/\(if z14 r2.2.2=true then r=r2 else KFin u D K r2 r) else r1.2.2.out <+: r.2.2.out
def KRun (u:Un) (D:Nat) (l:List Nd) (K:List KF) (a:List Int) (s:Rs) (r:Rres):Prop:=∃ d r1,d<=D/\z1x u d l a s=some r1/\(if z14 r1.2.2=true then r=r1 else KFin u D K r1 r)
def KNext (u:Un) (D:Nat) (l:List Nd) (K:List KF) (r1 r:Rres):Prop:=(z14 r1.2.2=true/\r=r1)∨(Live r1.2.2/\r1.1.1≠0/\KFin u D K r1 r)∨(Live r1.2.2/\r1.1.1=0/\KRun u D l K r1.2.1 r1.2.2 r)
section
variable {u:Un} {D:Nat} {l:List Nd} {K:List KF} {a:List Int} {s:Rs} {r:Rres} {B:Int}
theorem KFin.out (hB:B<=4611686018427387903):∀ {K:List KF} {r1 r:Rres},KFin u D K r1 r->Oks B r1.2.2->r1.2.2.out <+: r.2.2.out
  | [],r1,r,h,ho=>by obtain rfl:r=r1:=h;exact List.prefix_refl _
  | f::K,r1,r,h,ho=>by
    unfold KFin at h
    split at h
    ·subst h;exact List.prefix_refl _
    split at h
    ·obtain ⟨a2,d,r2,_,_,h2,h3⟩:=h
     have e:=z6u hB h2 ho
     split at h3
     ·subst h3;exact e.out
     exact e.out.trans (KFin.out hB h3 e.ok)
    exact h
theorem KRun.out (hB:B<=4611686018427387903) (h:KRun u D l K a s r) (ho:Oks B s):s.out <+: r.2.2.out:=by
  obtain ⟨d,r1,_,h1,h2⟩:=h
  have e:=z6u hB h1 ho
  split at h2
  ·subst h2;exact e.out
  exact e.out.trans (KFin.out hB h2 e.ok)
theorem KNext.out {r1:Rres} (hB:B<=4611686018427387903) (h:KNext u D l K r1 r) (ho:Oks B r1.2.2):r1.2.2.out <+: r.2.2.out:=by
  rcases h with ⟨_,rfl⟩ | ⟨_,_,h⟩ | ⟨_,_,h⟩
  ·exact List.prefix_refl _
  ·exact KFin.out hB h ho
  exact h.out hB ho
theorem zi2 {x:Nd} (hB:B<=4611686018427387903) (h:KRun u D (x::l) K a s r) (ho:Oks B s) (hl:Live s) :
    (s.fuel<1/\r=((0,[]),a,gone s))∨(1<=s.fuel/\∃ d1 p r1,d1<D/\mOf a x.args=some p/\z4q (z1x u d1) (z39 u d1) (mSum u d1) x p a (dec s)=some r1/\KNext u D l K r1 r):=by
  obtain ⟨d,r0,hd,h1,h2⟩:=h
  obtain ⟨d1,rfl,h3⟩:=y64 hB h1 ho hl
  rcases h3 with ⟨h3,rfl⟩ | ⟨h3,p,r1,h4,h5,h6⟩
  ·rw [if_pos (by simp [z14,gone])] at h2
   exact .inl ⟨h3,h2⟩
  refine .inr ⟨h3,d1,p,r1,hd,h4,h5,?_⟩
  cases hov:z14 r1.2.2 with
  | true =>
    rw [hov] at h6
    cases h6
    rw [if_pos hov] at h2
    exact .inl ⟨hov,h2⟩
  | false =>
    rw [hov] at h6
    by_cases hk:r1.1.1=0
    ·rw [hk] at h6
     exact .inr (.inr ⟨z6z.1 hov,hk,d1,r0,by omega,h6,h2⟩)
    have:(false||r1.1.1 != 0)=true:=by simpa using hk
    rw [if_pos this] at h6
    cases h6
    rw [if_neg (by rw [hov];decide)] at h2
    exact .inr (.inl ⟨z6z.1 hov,hk,h2⟩)
theorem z5u (hl:Live s):Live (dec s):=hl
theorem y06 {x:Nd} (hl:Live s):Live (hSt x s):=hl
theorem zf3 {x:Nd} (ho:Oks B s) (h:1<=s.fuel):Oks B (hSt x (dec s)):=by
  obtain ⟨h1,h2,h3⟩:=ho
  have:=hc_01 x
  refine ⟨?_,?_,?_⟩
  ·show 0<=s.fuel - 1;omega
  ·show 0<=s.cost+(hc x:Int);omega
  show s.cost+(hc x:Int)+(s.fuel - 1)<=B;omega
theorem y21 {x:Nd} (hB:B<=4611686018427387903) (hx:HL x) (h:KRun u D (x::l) K a s r) (ho:Oks B s) (hl:Live s) :
    (s.fuel<1/\r=((0,[]),a,gone s))∨(1<=s.fuel/\∃ a2,hRun x a a2/\KRun u D l K a2 (hSt x (dec s)) r):=by
  rcases zi2 hB h ho hl with h1 | ⟨h1,d1,p,r1,_,h2,h3,h4⟩
  ·exact .inl h1
  obtain ⟨y,o,a2,g1,g2,g3,rfl⟩:=y7k hB (z3w ho h1).1 (z5u hl) hx h3
  refine .inr ⟨h1,a2,⟨p,y,o,h2,g1,g2,g3⟩,?_⟩
  rcases h4 with ⟨h5,_⟩ | ⟨_,h5,_⟩ | ⟨_,_,h5⟩
  ·have:z14 (hSt x (dec s))=false:=z0r hl
   rw [show (((0,[]),a2,hSt x (dec s)):Rres).2.2=hSt x (dec s) from rfl,this] at h5
   cases h5
  ·exact absurd rfl h5
  exact h5
theorem y9r {x:Nd} (hB:B<=4611686018427387903) (h4:x.kind=4) (hou:x.outs≠[]) (hok:∀ p a0 a1,mOf a x.args=some p->p[0]? = some a0->p[1]? = some a1->(mTwo x.op a0 a1).2=true) (h:KRun u D (x::l) K a s r) (ho:Oks B s) (hl:Live s) :
    (s.fuel<1/\r=((0,[]),a,gone s))∨(1<=s.fuel/\∃ a2,hRun x a a2/\KRun u D l K a2 (hSt x (dec s)) r):=by
  rcases zi2 hB h ho hl with h1 | ⟨h1,d1,p,r1,_,h2,h3,h5⟩
  ·exact .inl h1
  obtain ⟨q,g1,g2⟩:=z6f h3 (by rw [h4];rfl) (by rw [h4];rfl) (by rw [h4];rfl) (by rw [h4];rfl)
  obtain ⟨d',rfl⟩:=z58 g1
  obtain ⟨a0,a1,g3,g3',rfl⟩:=z6w g1 (by rw [h4];rfl)
  have ho1:=(z3w ho h1).1
  rw [hok p a0 a1 h2 g3 g3',if_pos rfl,zd6 hB ho1] at g2
  have hov:z14 (bmp (dec s))=false:=z0r hl
  rw [hov] at g2
  have hlen:0<x.outs.length:=List.length_pos_iff.2 hou
  simp only [Bool.not_false,Bool.true_and,decide_eq_true hlen,if_true,Option.bind_eq_some_iff,Option.map_eq_some_iff] at g2
  obtain ⟨o,g4,v2,g5,rfl⟩:=g2
  refine .inr ⟨h1,v2,⟨p,_,o,h2,by simp [za0,h4,g3,g3'],g4,g5⟩,?_⟩
  have eS:hSt x (dec s)=bmp (dec s):=by simp [hSt,hc,h4,bmp]
  rw [eS]
  rcases h5 with ⟨h5,_⟩ | ⟨_,h5,_⟩ | ⟨_,_,h5⟩
  ·rw [show (((0,[]),v2,bmp (dec s)):Rres).2.2=bmp (dec s) from rfl,hov] at h5
   cases h5
  ·exact absurd rfl h5
  exact h5
theorem y2j {x:Nd} {q:List Nd} (hB:B<=4611686018427387903) (hx:x.kind=11) (hq:x.kids=[q]) (h:KRun u D (x::l) K a s r) (ho:Oks B s) (hl:Live s) :
    (s.fuel<1/\r=((0,[]),a,gone s))∨(1<=s.fuel/\∃ p a2,mOf a x.args=some p/\mSet a x.params p=some a2/\KRun u D q (⟨14,x.outs,l⟩::K) a2 (dec s) r):=by
  rcases zi2 hB h ho hl with h1 | ⟨h1,d1,p,r1,hd,h2,h3,h4⟩
  ·exact .inl h1
  have h5:=z63 h3 (by rw [hx];rfl)
  have ho1:=(z3w ho h1).1
  obtain ⟨d2,v2,q2,r2,rfl,g1,g2,g3,g4⟩:=z4h h5
  rw [hq] at g2
  obtain rfl:q=q2:=by simpa using g2
  refine .inr ⟨h1,p,v2,h2,g1,d2,r2,by omega,g3,?_⟩
  have e:=z6u hB g3 ho1
  cases hov:z14 r2.2.2 with
  | true =>
    rw [hov] at g4
    cases g4
    rw [if_pos rfl]
    rcases h4 with ⟨_,h4⟩ | ⟨h4,_⟩ | ⟨h4,_⟩
    ·exact h4
    ·rw [z0r h4] at hov;cases hov
    rw [z0r h4] at hov;cases hov
  | false =>
    rw [hov] at g4
    rw [if_neg dC0]
    unfold KFin
    by_cases k15:r2.1.1=15
    ·rw [k15] at g4
     cases g4
     rw [if_pos k15]
     rcases h4 with ⟨h4,_⟩ | ⟨_,_,h4⟩ | ⟨_,h4,_⟩
     ·rw [hov] at h4;cases h4
     ·cases K with
      | nil=>exact h4
      | cons f K=>unfold KFin at h4;rw [if_pos k15] at h4;exact h4
     rw [k15] at h4;exact absurd h4 dC0
    rw [if_neg k15]
    have n15:(false||r2.1.1==15)=false:=by simpa using k15
    rw [n15,if_neg dC0] at g4
    by_cases k14:r2.1.1=14
    ·rw [if_pos k14]
     rw [if_pos (by rw [k14];rfl)] at g4
     obtain ⟨v3,g5,rfl⟩:=Option.map_eq_some_iff.1 g4
     rcases h4 with ⟨h4,_⟩ | ⟨_,h4,_⟩ | ⟨_,_,d3,r3,h6,h7,h8⟩
     ·rw [show (((0,[]),v3,r2.2.2):Rres).2.2=r2.2.2 from rfl,hov] at h4;cases h4
     ·exact absurd rfl h4
     exact ⟨v3,d3,r3,h6,g5,h7,h8⟩
    rw [if_neg k14]
    rw [if_neg (by simpa using k14)] at g4
    have e2:=zd8 hB g4 e.ok
    exact e2.out.trans (h4.out hB e2.ok)
theorem y7d {x:Nd} {d:Nat} {p:List Int} {r1:Rres} (h1:12<=x.kind) (h2:x.kind<=15) (h:z4q (z1x u d) (z39 u d) (mSum u d) x p a s=some r1):r1=((x.kind,p),a,s) :=
  z4r h (by rcases (show x.kind=12∨x.kind=13∨x.kind=14∨x.kind=15 by omega) with e | e | e | e<;>rw [e]<;>rfl)
theorem zh5 {x:Nd} (hB:B<=4611686018427387903) (h1:12<=x.kind) (h2:x.kind<=15) (h:KRun u D (x::l) K a s r) (ho:Oks B s) (hl:Live s) :
    (s.fuel<1/\r=((0,[]),a,gone s))∨(1<=s.fuel/\∃ p,mOf a x.args=some p/\KFin u D K ((x.kind,p),a,dec s) r):=by
  rcases zi2 hB h ho hl with h3 | ⟨h3,d1,p,r1,hd,h4,h5,h6⟩
  ·exact .inl h3
  obtain rfl:=y7d h1 h2 h5
  refine .inr ⟨h3,p,h4,?_⟩
  rcases h6 with ⟨h6,_⟩ | ⟨_,_,h6⟩ | ⟨_,h6,_⟩
  ·have:z14 (dec s)=false:=z0r hl
   rw [show ((x.kind,p),a,dec s).2.2=dec s from rfl,this] at h6
   cases h6
  ·exact h6
  exact absurd h6 (by show x.kind≠0;omega)
theorem zx2 {y:Nd} {f:KF} (hB:B<=4611686018427387903) (hy:y.kind=f.k) (hf:f.k=12∨f.k=14) (h:KRun u D (y::l) (f::K) a s r) (ho:Oks B s) (hl:Live s) :
    (s.fuel<1/\r=((0,[]),a,gone s))∨(1<=s.fuel/\∃ p a2,mOf a y.args=some p/\mSet a f.outs p=some a2/\KRun u D f.rest K a2 (dec s) r):=by
  rcases zh5 hB oM0 oM0 h ho hl with h3 | ⟨h3,p,h4,h5⟩
  ·exact .inl h3
  unfold KFin at h5
  rw [show (((y.kind,p),a,dec s):Rres).1.1=f.k from hy,if_neg oM0,if_pos rfl] at h5
  obtain ⟨a2,d,r2,g1,g2,g3,g4⟩:=h5
  exact .inr ⟨h3,p,a2,h4,g2,d,r2,g1,g3,g4⟩
theorem y1x {x:Nd} {q0 q1:List Nd} (hB:B<=4611686018427387903) (hx:x.kind=10) (hq:x.kids=[q0,q1]) (h:KRun u D (x::l) K a s r) (ho:Oks B s) (hl:Live s) :
    (s.fuel<1/\r=((0,[]),a,gone s))∨(1<=s.fuel/\∃ q,(q=q0∨q=q1)/\KRun u D q (⟨12,x.outs,l⟩::K) a (dec s) r):=by
  rcases zi2 hB h ho hl with h1 | ⟨h1,d1,p,r1,hd,h2,h3,h4⟩
  ·exact .inl h1
  have ho1:=(z3w ho h1).1
  obtain ⟨a0,q,r2,_,g2,g3,g4⟩:=ze8 h3 (by rw [hx];rfl)
  refine .inr ⟨h1,q,?_,d1,r2,by omega,g3,?_⟩
  ·rw [hq] at g2
   by_cases e:(a0 != 0)=true
   ·rw [if_pos e] at g2;exact .inl (by simpa using g2.symm)
   rw [if_neg e] at g2;exact .inr (by simpa using g2.symm)
  have e:=z6u hB g3 ho1
  cases hov:z14 r2.2.2 with
  | true =>
    rw [hov] at g4
    cases g4
    rw [if_pos rfl]
    rcases h4 with ⟨_,h4⟩ | ⟨h4,_⟩ | ⟨h4,_⟩
    ·exact h4
    ·rw [z0r h4] at hov;cases hov
    rw [z0r h4] at hov;cases hov
  | false =>
    rw [hov] at g4
    rw [if_neg dC0]
    unfold KFin
    by_cases k15:r2.1.1=15
    ·rw [k15] at g4
     cases g4
     rw [if_pos k15]
     rcases h4 with ⟨h4,_⟩ | ⟨_,_,h4⟩ | ⟨_,h4,_⟩
     ·rw [hov] at h4;cases h4
     ·cases K with
      | nil=>exact h4
      | cons f K=>unfold KFin at h4;rw [if_pos k15] at h4;exact h4
     rw [k15] at h4;exact absurd h4 dC0
    rw [if_neg k15]
    by_cases k12:r2.1.1=12
    ·rw [if_pos k12]
     rw [k12] at g4
     obtain ⟨v3,g5,rfl⟩:=Option.map_eq_some_iff.1 g4
     rcases h4 with ⟨h4,_⟩ | ⟨_,h4,_⟩ | ⟨_,_,d3,r3,h6,h7,h8⟩
     ·rw [show (((0,[]),v3,r2.2.2):Rres).2.2=r2.2.2 from rfl,hov] at h4;cases h4
     ·exact absurd rfl h4
     exact ⟨v3,d3,r3,h6,g5,h7,h8⟩
    rw [if_neg k12]
    have n12:(!false&&r2.1.1==12)=false:=by simpa using k12
    rw [n12,if_neg dC0] at g4
    cases g4
    exact h4.out hB e.ok
end
end
theorem y3u {kind op n:Int} {name:ByteArray} {args outs params:List Int} {ks ks':List (List Nd)} (h:ks'.length=ks.length):z11 (.mk kind op n name args outs params ks')=z11 (.mk kind op n name args outs params ks):=by
  unfold z11 r8op y4u zs2 r8kn
  simp only [Nd.kind,Nd.op,Nd.n,Nd.name,Nd.kids,Nd.params]
  rw [h]
  rfl
theorem y1w (u:Un):∀ (l:List Fl) (i:Int),(z4s u l i).1=0↔∀ f∈l,z2w u f=true
  | [],_=>by simp [z4s]
  | f::r,i=>by
    unfold z4s
    cases h:z2w u f with
    | false=>simp [h]
    | true=>simp [h,y1w u r (i+1)]
theorem zw4 (u:Un):∀ (l:List Fl) (i:Int),(∀ f∈l,z2w u f=true)->z4s u l i=(0,0)
  | [],_,_=>rfl
  | f::r,i,h=>by
    unfold z4s
    rw [if_pos (h f (.head _))]
    exact zw4 u r (i+1) fun g hg=>h g (.tail _ hg)
theorem z4o (u:Un):(z1b u).1=0↔z16 u=true/\∀ f∈u.flows,z2w u f=true:=by
  unfold z1b
  cases h:z16 u with
  | false=>simp
  | true=>simp [y1w]
theorem zd3:∀ (a b:List Nd),wtL (a++b)=wtL a+wtL b
  | [],b=>by simp [wtL]
  | x::r,b=>by simp only [List.cons_append,wtL,zd3 r b];omega
theorem use_in {tys seen:List Int}:∀ {l want:List Int},l.length=want.length->z0z tys seen l want=true->inR tys.length l
  | [],_,_,_=>fun v hv=>by simp at hv
  | _::_,[],h,_=>by simp at h
  | x::r,w::ws,h,hg=>by
    simp only [z0z,Bool.and_eq_true] at hg
    intro v hv
    rcases List.mem_cons.1 hv with rfl | hv
    ·obtain ⟨h1,h2⟩:=zc5 hg.1
     exact ⟨h1,by omega⟩
    exact use_in (by simpa using h) hg.2 v hv
theorem zg5 {tys seen l want:List Int} (h:z03 tys seen l want=true):l.length=want.length/\inR tys.length l:=by
  simp only [z03,Bool.and_eq_true,beq_iff_eq] at h
  have:l.length=want.length:=by omega
  exact ⟨this,use_in this h.2⟩
theorem getV_tot {a:List Int} {i:Int} (h:0<=i/\i<a.length):∃ y,getV a i=some y:=by
  unfold getV
  rw [if_pos h.1]
  exact ⟨_,List.getElem?_eq_getElem oM0⟩
theorem y0y {a:List Int} {i y:Int} (h:0<=i/\i<a.length):∃ a2,setV a i y=some a2:=by
  unfold setV
  rw [if_pos ⟨h.1,by omega⟩]
  exact ⟨_,rfl⟩
theorem y08 {a:List Int}:∀ {l:List Int},inR a.length l->∃ p,mOf a l=some p/\p.length=l.length
  | [],_=>⟨[],rfl,rfl⟩
  | i::r,h=>by
    obtain ⟨y,hy⟩:=getV_tot (h i (.head _))
    obtain ⟨p,hp,hl⟩:=y08 (l:=r) fun v hv=>h v (.tail _ hv)
    exact ⟨y::p,by simp [mOf,hy,hp],by simp [hl]⟩
theorem zn3:∀ {l p a:List Int},inR a.length l->p.length=l.length->∃ a2,mSet a l p=some a2
  | [],_,a,_,_=>⟨a,rfl⟩
  | _::_,[],_,_,h=>by simp at h
  | i::r,y::p,a,h,hl=>by
    obtain ⟨a1,h1⟩:=y0y (y:=y) (h i (.head _))
    have hl1:=zo1 h1
    obtain ⟨a2,h2⟩:=zn3 (l:=r) (p:=p) (a:=a1) (fun v hv=>by rw [hl1];exact h v (.tail _ hv)) (by simpa using hl)
    exact ⟨a2,by simp [mSet,h1,h2]⟩
theorem zn9 {tys l:List Int} (h:inR tys.length l):(r8of tys l).length=l.length:=by
  unfold r8of
  have:l.all (z79 tys)=true:=List.all_eq_true.2 fun v hv=>by
    have:=h v hv
    simp only [z79,Bool.and_eq_true,decide_eq_true_eq];omega
  rw [if_pos this,List.length_map]
theorem zy1 (name:ByteArray):∀ (l:List Ar) (i:Int),0<=i->z0i name l i ≥ 0->∃ k:Nat,z0i name l i=i+k/\k<l.length
  | [],i,_,h=>by simp [z0i] at h
  | f::r,i,hi,h=>by
    unfold z0i at h ⊢
    split
    ·exact ⟨0,by simp,by simp⟩
    rename_i hne
    rw [if_neg hne] at h
    obtain ⟨k,h1,h2⟩:=zy1 name r (i+1) oM0 h
    exact ⟨k+1,by omega,by simpa using h2⟩
structure Inv (n:Nat) (B M:Int) (s:Rs):Prop where
  ok:Oks B s
  out:(s.out.length:Int)+s.fuel<=M
  ar:s.ar.length=n
structure InvS (n:Nat) (B M:Int) (s:Rs):Prop where
  ok:Oks B s
  ok1:s.cost+s.fuel+1<=B
  out:(s.out.length:Int)+s.fuel+1<=M
  ar:s.ar.length=n
def EOk (w:Wh) (y lv:Bool) (r:Rres):Prop:=(r.1.1=12/\y=true/\w.If=true/\r.1.2.length=w.Yield.length)∨(r.1.1=13/\r.1.2.length=w.Next.length)∨(r.1.1=14/\lv=true/\r.1.2.length=w.Left.length)∨(r.1.1=15/\r.1.2.length=1)
def VF (u:Un) (g:Fl):Prop:=z36 u g 1 z1k (iota g.params.toNat) g.body=true/\g.types.length<=20000/\0<=g.params/\g.params<=g.types.length
theorem vf_of {u:Un} (h:(z1b u).1=0):∀ g∈u.flows,VF u g:=by
  intro g hg
  obtain ⟨h1,h2⟩:=(z4o u).1 h
  have hf:=h2 g hg
  have hp:=z5l h1 g hg
  unfold z2w at hf
  simp only [Bool.and_eq_true] at hf
  obtain ⟨⟨⟨⟨⟨f1,f2⟩,f3⟩,f4⟩,f5⟩,f6⟩:=hf
  simp only [Bool.not_eq_true',decide_eq_false_iff_not] at f1 f2 f3 f4
  rw [z7i u g g.body 1 z1k _ _ (z2j oM0)] at f6
  exact ⟨f6.1,by omega,hp.1,hp.2⟩
def SumOk (u:Un) (x:Nd) (k:Nat):Prop :=
  (x.kind=3->1<=k)/\(x.kind=4->2<=k)/\(x.kind=5->1<=k/\0<=z0i x.name u.arrays 0)/\(x.kind=6->2<=k/\0<=z0i x.name u.arrays 0) /\
  (x.kind=7->0<=z05 x.name u.flows 0/\∀ g,u.flows[(z05 x.name u.flows 0).toNat]? = some g->(k:Int)=g.params)/\(x.kind=9->1<=k)
theorem zl1 {p:List Int} {i:Nat} (h:i<p.length):∃ y,p[i]? = some y:=⟨_,List.getElem?_eq_getElem h⟩
theorem sum_tot {u:Un} {n:Nat} {B M:Int} (hB:B<=4611686018427387903) (hM:M<=1073741824) (hn:n=u.arrays.length) (hv:∀ g∈u.flows,VF u g) {d:Nat}
    (hC:∀ k p s,0<=k->(∃ g,u.flows[k.toNat]? = some g/\(p.length:Int)=g.params)->Inv n B M s->3*s.fuel+2<=d->∃ r,z3t u d k p s=some r/\Inv n B M r.2)
    (x:Nd) (p:List Int) (s:Rs) (hx:SumOk u x p.length) (hi:InvS n B M s) (hd:3*s.fuel+3<=((d+1:Nat):Int)):∃ r,mSum u (d+1) x p s=some r/\Inv n B M r.2:=by
  have e:=zd6 hB hi.ok
  have hb:Inv n B M (bmp s):=⟨⟨hi.ok.1,by have:=hi.ok.2.1;show 0<=s.cost+1;omega,by have:=hi.ok1;show s.cost+1+s.fuel<=B;omega⟩,by have:=hi.out;show (s.out.length:Int)+s.fuel<=M;omega,hi.ar⟩
  obtain ⟨x3,x4,x5,x6,x7,x9⟩:=hx
  have ne:∀ {i:Int},x.kind≠i->(x.kind==i)=false:=fun h=>beq_eq_false_iff_ne.2 h
  have cell:∀ {a0:Int},0<=z0i x.name u.arrays 0->∃ q,z8y (bmp s) (z0i x.name u.arrays 0) a0=some q/\((q.1=false/\q.2={ bmp s with st:=3 })∨(q.1=true/\q.2=bmp s/\∃ row y,s.ar[(z0i x.name u.arrays 0).toNat]? = some row/\row[a0.toNat]? = some y)):=by
    intro a0 hk
    obtain ⟨j,hj,hjl⟩:=zy1 x.name u.arrays 0 oM0 hk
    obtain ⟨row,hrow⟩:∃ row,s.ar[(z0i x.name u.arrays 0).toNat]? = some row:=⟨_,List.getElem?_eq_getElem (by rw [hi.ar];omega)⟩
    unfold z8y
    by_cases h0:a0<0
    ·rw [if_pos h0];exact ⟨_,rfl,.inl ⟨rfl,rfl⟩⟩
    rw [if_neg h0,if_pos hk,show (bmp s).ar=s.ar from rfl,hrow,Option.bind_some]
    by_cases h1:a0 ≥ row.length
    ·rw [if_pos h1];exact ⟨_,rfl,.inl ⟨rfl,rfl⟩⟩
    rw [if_neg h1]
    exact ⟨_,rfl,.inr ⟨rfl,rfl,row,_,rfl,List.getElem?_eq_getElem oM0⟩⟩
  have c3:Inv n B M { bmp s with st:=3 }:=⟨hb.ok,hb.out,hb.ar⟩
  rw [mSum]
  simp only [show w64 (s.cost+1)=s.cost+1 from ym8 (by have:=hi.ok.2.1;omega) (by have:=hi.ok.1;have:=hi.ok1;omega)]
  by_cases k3:x.kind=3
  ·obtain ⟨a0,h0⟩:=zl1 (x3 k3)
   rw [k3,h0]
   exact ⟨_,rfl,hb⟩
  by_cases k4:x.kind=4
  ·obtain ⟨a0,h0⟩:=zl1 (show 0<p.length by have:=x4 k4;omega)
   obtain ⟨a1,h1⟩:=zl1 (show 1<p.length by have:=x4 k4;omega)
   rw [k4,h0,h1]
   refine ⟨_,rfl,?_⟩
   dsimp only
   split
   ·exact hb
   exact ⟨hb.ok,hb.out,hb.ar⟩
  by_cases k5:x.kind=5
  ·obtain ⟨a0,h0⟩:=zl1 (x5 k5).1
   obtain ⟨⟨qb,qs⟩,hq,hq2⟩:=cell (a0:=a0) (x5 k5).2
   rw [ne k3,ne k4,k5,h0]
   simp only [Bool.false_eq_true,if_false,show ((5:Int)==5)=true from rfl,if_true,Option.bind_some]
   erw [hq]
   simp only [Option.bind_some]
   rcases hq2 with ⟨rfl,rfl⟩ | ⟨rfl,rfl,row,y,hr,hy⟩
   ·exact ⟨_,rfl,c3⟩
   rw [if_pos rfl,hr,Option.bind_some,hy]
   exact ⟨_,rfl,hb⟩
  by_cases k6:x.kind=6
  ·obtain ⟨a0,h0⟩:=zl1 (show 0<p.length by have:=(x6 k6).1;omega)
   obtain ⟨a1,h1⟩:=zl1 (show 1<p.length by have:=(x6 k6).1;omega)
   obtain ⟨⟨qb,qs⟩,hq,hq2⟩:=cell (a0:=a0) (x6 k6).2
   rw [ne k3,ne k4,ne k5,k6,h0]
   simp only [Bool.false_eq_true,if_false,show ((6:Int)==6)=true from rfl,if_true,Option.bind_some]
   erw [hq]
   simp only [Option.bind_some]
   rcases hq2 with ⟨rfl,rfl⟩ | ⟨rfl,rfl,row,y,hr,hy⟩
   ·exact ⟨_,rfl,c3⟩
   rw [if_pos rfl,hr,h1]
   exact ⟨_,rfl,⟨hb.ok,hb.out,by simp only [List.length_set];exact hb.ar⟩⟩
  by_cases k7:x.kind=7
  ·rw [ne k3,ne k4,ne k5,ne k6,k7]
   obtain ⟨h0,h1⟩:=x7 k7
   obtain ⟨j,hj,hjl⟩:=zj3 x.name u.flows 0 oM0 h0
   obtain ⟨g,hg⟩:∃ g,u.flows[(z05 x.name u.flows 0).toNat]? = some g:=⟨_,List.getElem?_eq_getElem oM0⟩
   exact hC _ p (bmp s) h0 ⟨g,hg,h1 g hg⟩ hb (by show 3*s.fuel+2<=(d:Int);omega)
  by_cases k9:x.kind=9
  ·obtain ⟨a0,h0⟩:=zl1 (x9 k9)
   have hfu:=hi.ok.1
   have hlo:s.out.length<1073741824:=by have:=hi.out;omega
   rw [ne k3,ne k4,ne k5,ne k6,ne k7,k9,h0]
   simp only [Bool.false_eq_true,if_false,show ((9:Int)==9)=true from rfl,if_true,Option.bind_some,if_pos hlo]
   exact ⟨_,rfl,⟨hb.ok,by have:=hi.out;show ((s.out++[a0]).length:Int)+s.fuel<=M;simp;omega,hb.ar⟩⟩
  by_cases k8:x.kind=8
  ·rw [ne k3,ne k4,ne k5,ne k6,ne k7,ne k9,k8]
   simp only [Bool.false_eq_true,if_false,show ((8:Int)==8)=true from rfl,if_true]
   cases hin:s.ins with
   | nil=>exact ⟨_,rfl,⟨hb.ok,hb.out,hb.ar⟩⟩
   | cons y q=>exact ⟨_,rfl,⟨hb.ok,hb.out,hb.ar⟩⟩
  rw [ne k3,ne k4,ne k5,ne k6,ne k7,ne k9,ne k8]
  exact ⟨_,rfl,hb⟩
theorem smp_ok {u:Un} {f:Fl} {x:Nd} {seen:List Int} {w:Wh} (hgp:∀ g∈u.flows,VF u g) (h:(z3f u f x seen w).ok f.types x.outs=true) :
    inR f.types.length x.outs/\inR f.types.length x.args/\SumOk u x x.args.length/\((x.kind=1∨x.kind=2)->x.outs≠[]) /\
    (x.kind=12->w.If=true/\x.args.length=w.Yield.length)/\(x.kind=13->x.args.length=w.Next.length)/\(x.kind=14->x.args.length=w.Left.length)/\(x.kind=15->x.args.length=1):=by
  refine ⟨ok_in h,?_⟩
  have V:∀ {b:Bool} {want:Option (List Int)},SForm.ok ⟨b,want⟩ f.types x.outs=true->b=true:=fun {b want} h=>by
    cases want<;>simp only [SForm.ok,Bool.and_eq_true] at h<;>exact h.1
  have V1:∀ {b:Bool} {t:Int},SForm.ok ⟨b,some [t]⟩ f.types x.outs=true->x.outs≠[]:=fun {b t} h e=>by
    simp only [SForm.ok,Bool.and_eq_true] at h
    have:=zg6 h.2
    rw [e] at this;simp at this
  have T:∀ {want:List Int},z03 f.types seen x.args want=true->inR f.types.length x.args/\x.args.length=want.length:=fun h=>⟨(zg5 h).2,(zg5 h).1⟩
  have tr:∀ {k:Int} {P:Prop} {j:Int},x.kind=k->k≠j->x.kind=j->P:=fun h1 h2 h3=>absurd (h1.symm.trans h3) h2
  unfold z3f at h
  by_cases k1:x.kind=1
  ·rw [if_pos (beq_iff_eq.2 k1)] at h
   obtain ⟨t1,t2⟩:=T (V h)
   refine ⟨t1,⟨tr k1 dC0,tr k1 dC0,tr k1 dC0,tr k1 dC0,tr k1 dC0,tr k1 dC0⟩,fun _=>V1 h,tr k1 dC0,tr k1 dC0,tr k1 dC0,tr k1 dC0⟩
  rw [if_neg (by simpa using k1)] at h
  by_cases k2:x.kind=2
  ·rw [if_pos (beq_iff_eq.2 k2)] at h
   have hb:=V h
   simp only [Bool.and_eq_true] at hb
   obtain ⟨t1,t2⟩:=T hb.2
   refine ⟨t1,⟨tr k2 dC0,tr k2 dC0,tr k2 dC0,tr k2 dC0,tr k2 dC0,tr k2 dC0⟩,fun _=>V1 h,tr k2 dC0,tr k2 dC0,tr k2 dC0,tr k2 dC0⟩
  rw [if_neg (by simpa using k2)] at h
  have n12:¬ (x.kind=1∨x.kind=2):=by rintro (h | h)<;>contradiction
  by_cases k3:x.kind=3
  ·rw [if_pos (beq_iff_eq.2 k3)] at h
   have hb:=V h
   simp only [Bool.and_eq_true] at hb
   obtain ⟨t1,t2⟩:=T hb.2
   refine ⟨t1,⟨fun _=>by rw [t2];exact Nat.le_refl _,tr k3 dC0,tr k3 dC0,tr k3 dC0,tr k3 dC0,tr k3 dC0⟩,fun h=>absurd h n12,tr k3 dC0,tr k3 dC0,tr k3 dC0,tr k3 dC0⟩
  rw [if_neg (by simpa using k3)] at h
  by_cases k4:x.kind=4
  ·rw [if_pos (beq_iff_eq.2 k4)] at h
   have hb:=V h
   simp only [Bool.and_eq_true] at hb
   obtain ⟨t1,t2⟩:=T hb.1.2
   refine ⟨t1,⟨tr k4 dC0,fun _=>by rw [t2];exact Nat.le_refl _,tr k4 dC0,tr k4 dC0,tr k4 dC0,tr k4 dC0⟩,fun h=>absurd h n12,tr k4 dC0,tr k4 dC0,tr k4 dC0,tr k4 dC0⟩
  rw [if_neg (by simpa using k4)] at h
  by_cases k5:x.kind=5
  ·rw [if_pos (beq_iff_eq.2 k5)] at h
   have hb:=V h
   simp only [Bool.and_eq_true,decide_eq_true_eq] at hb
   obtain ⟨t1,t2⟩:=T hb.2
   refine ⟨t1,⟨tr k5 dC0,tr k5 dC0,fun _=>⟨by rw [t2];exact Nat.le_refl _,hb.1⟩,tr k5 dC0,tr k5 dC0,tr k5 dC0⟩,fun h=>absurd h n12,tr k5 dC0,tr k5 dC0,tr k5 dC0,tr k5 dC0⟩
  rw [if_neg (by simpa using k5)] at h
  by_cases k6:x.kind=6
  ·rw [if_pos (beq_iff_eq.2 k6)] at h
   have hb:=V h
   simp only [Bool.and_eq_true,decide_eq_true_eq] at hb
   obtain ⟨t1,t2⟩:=T hb.2
   refine ⟨t1,⟨tr k6 dC0,tr k6 dC0,tr k6 dC0,fun _=>⟨by rw [t2];exact Nat.le_refl _,hb.1⟩,tr k6 dC0,tr k6 dC0⟩,fun h=>absurd h n12,tr k6 dC0,tr k6 dC0,tr k6 dC0,tr k6 dC0⟩
  rw [if_neg (by simpa using k6)] at h
  by_cases k7:x.kind=7
  ·rw [if_pos (beq_iff_eq.2 k7)] at h
   by_cases hp:decide (z05 x.name u.flows 0 ≥ 0)=true
   ·rw [if_pos hp] at h
    have hp':0<=z05 x.name u.flows 0:=by simpa using hp
    cases hg:u.flows[(z05 x.name u.flows 0).toNat]? with
    | none=>rw [hg] at h;exact absurd (V h) dC0
    | some g =>
      rw [hg] at h
      obtain ⟨t1,t2⟩:=T (V h)
      obtain ⟨_,_,g1,g2⟩:=hgp g (List.mem_of_getElem? hg)
      refine ⟨t1,⟨tr k7 dC0,tr k7 dC0,tr k7 dC0,tr k7 dC0,fun _=>⟨hp',fun g' hg'=>?_⟩,tr k7 dC0⟩,fun h=>absurd h n12,tr k7 dC0,tr k7 dC0,tr k7 dC0,tr k7 dC0⟩
      rw [hg] at hg'
      cases hg'
      rw [t2,List.length_take];omega
   rw [if_neg hp] at h;exact absurd (V h) dC0
  rw [if_neg (by simpa using k7)] at h
  by_cases k8:x.kind=8
  ·rw [if_pos (beq_iff_eq.2 k8)] at h
   have hb:=V h
   have:x.args=[]:=List.eq_nil_of_length_eq_zero (by simp at hb;simp [hb])
   refine ⟨by rw [this];exact fun v hv=>by simp at hv,⟨tr k8 dC0,tr k8 dC0,tr k8 dC0,tr k8 dC0,tr k8 dC0,tr k8 dC0⟩,fun h=>absurd h n12,tr k8 dC0,tr k8 dC0,tr k8 dC0,tr k8 dC0⟩
  rw [if_neg (by simpa using k8)] at h
  by_cases k9:x.kind=9
  ·rw [if_pos (beq_iff_eq.2 k9)] at h
   obtain ⟨t1,t2⟩:=T (V h)
   refine ⟨t1,⟨tr k9 dC0,tr k9 dC0,tr k9 dC0,tr k9 dC0,tr k9 dC0,fun _=>by rw [t2];exact Nat.le_refl _⟩,fun h=>absurd h n12,tr k9 dC0,tr k9 dC0,tr k9 dC0,tr k9 dC0⟩
  rw [if_neg (by simpa using k9)] at h
  have S:SumOk u x x.args.length:=⟨fun h=>absurd h k3,fun h=>absurd h k4,fun h=>absurd h k5,fun h=>absurd h k6,fun h=>absurd h k7,fun h=>absurd h k9⟩
  by_cases k12:x.kind=12
  ·rw [if_pos (beq_iff_eq.2 k12)] at h
   have hb:=V h
   simp only [Bool.and_eq_true] at hb
   obtain ⟨t1,t2⟩:=T hb.2
   exact ⟨t1,S,fun h=>absurd h n12,fun _=>⟨hb.1,t2⟩,tr k12 dC0,tr k12 dC0,tr k12 dC0⟩
  rw [if_neg (by simpa using k12)] at h
  by_cases k13:x.kind=13
  ·rw [if_pos (beq_iff_eq.2 k13)] at h
   have hb:=V h
   simp only [Bool.and_eq_true] at hb
   obtain ⟨t1,t2⟩:=T hb.2
   exact ⟨t1,S,fun h=>absurd h n12,tr k13 dC0,fun _=>t2,tr k13 dC0,tr k13 dC0⟩
  rw [if_neg (by simpa using k13)] at h
  by_cases k14:x.kind=14
  ·rw [if_pos (beq_iff_eq.2 k14)] at h
   have hb:=V h
   simp only [Bool.and_eq_true] at hb
   obtain ⟨t1,t2⟩:=T hb.2
   exact ⟨t1,S,fun h=>absurd h n12,tr k14 dC0,tr k14 dC0,fun _=>t2,tr k14 dC0⟩
  rw [if_neg (by simpa using k14)] at h
  by_cases k15:x.kind=15
  ·rw [if_pos (beq_iff_eq.2 k15)] at h
   obtain ⟨t1,t2⟩:=T (V h)
   exact ⟨t1,S,fun h=>absurd h n12,tr k15 dC0,tr k15 dC0,tr k15 dC0,fun _=>t2⟩
  rw [if_neg (by simpa using k15)] at h
  exact absurd (V h) dC0
theorem LRel.monoE {k c:Nat} {I:VR} {l:List Nd} {K:List KF} {l':List Nd} {E:ER} (h:LRel k c I l K l' E):∀ {E':ER},(∀ n p p' a b,E n p p' a b->E' n p p' a b)->LRel k c I l K l' E':=by
  induction h with
  | dead h=>exact fun _=>.dead h
  | weak h _ ih=>exact fun he=>.weak h (ih he)
  | both h1 h2 h3 h4 _ ih=>exact fun he=>.both h1 h2 h3 h4 (ih he)
  | skip h1 h2 _ ih=>exact fun he=>.skip h1 h2 (ih he)
  | paid h1 h2 h3 _ ih=>exact fun he=>.paid h1 h2 h3 (ih he)
  | add h1 h2 h3 _ ih=>exact fun he=>.add h1 h2 h3 (ih he)
  | eff h1 h2 h3 h4 h5 h6 h7 h8 _ ih=>exact fun he=>.eff h1 h2 h3 h4 h5 h6 h7 h8 (ih he)
  | drop h1 h2 h3 h4 _ ih=>exact fun he=>.drop h1 h2 h3 h4 (ih he)
  | ite h1 h2 h3 h4 h5 h6 h7 h8 _ _ _ ih=>exact fun he=>.ite h1 h2 h3 h4 h5 h6 h7 (fun n p p' a b hh=>(h8 n p p' a b hh).imp_right fun ⟨x,y,z,w⟩=>⟨x,y,z,he _ _ _ _ _ w⟩) (ih he)
  | loop h1 h2 h3 h4 h5 h6 h7 _ _ ih=>exact fun he=>.loop h1 h2 h3 h4 h5 h6 (fun n p p' a b hh=>(h7 n p p' a b hh).imp_left fun ⟨x,y⟩=>⟨x,he _ _ _ _ _ y⟩) (ih he)
  | ender h1 h2 h3 h4 h5=>exact fun he=>.ender h1 h2 h3 h4 fun a b p p' x y z=>he _ _ _ _ _ (h5 a b p p' x y z)
  | once h1 h2 h3 _ ih=>exact fun he=>.once h1 h2 h3 (ih he)
  | leave h1 h2 h3 _ ih=>exact fun he=>.leave h1 h2 h3 (ih he)
  | fork h1 h2 _ _ ih0 ih1=>exact fun he=>.fork h1 h2 (ih0 he) (ih1 he)
def EqS (S:List Int) (a b:List Int):Prop:=∀ x∈S,getV a x=getV b x
theorem z7r {a a2:List Int} {o y x:Int} (h:setV a o y=some a2):getV a2 x=if x=o then some y else getV a x:=by
  obtain ⟨h1,h2,rfl⟩:=zc8 h
  unfold getV
  by_cases hx:0<=x
  · rw [if_pos hx]
    by_cases e:x=o
    · subst e
      rw [if_pos rfl,List.getElem?_set_self h2]
    · rw [if_neg e,if_pos hx,List.getElem?_set_ne oM0]
  · rw [if_neg hx,if_neg hx,if_neg oM0]
theorem zn2:∀ {l p a a2:List Int} {x:Int},mSet a l p=some a2->x∉l->getV a2 x=getV a x
  | [],_,_,_,_,h,_=>by cases h;rfl
  | i::r,p,a,a2,x,h,hx=>by
    obtain ⟨y,p',a1,rfl,h1,h2⟩:=z8z h
    simp only [List.mem_cons,not_or] at hx
    rw [zn2 h2 hx.2,z7r h1,if_neg hx.1]
theorem y0x {outs a a2:List Int} {y x:Int} (h:setO outs a y a2) (hx:x∉outs):getV a2 x=getV a x:=by
  cases outs with
  | nil=>obtain rfl:a2=a:=h;rfl
  | cons o os =>
    simp only [List.mem_cons,not_or] at hx
    rw [z7r h,if_neg hx.1]
theorem EqS.set {S:List Int} {a b a2 b2:List Int} {o y:Int} (h:EqS S a b) (h1:setV a o y=some a2) (h2:setV b o y=some b2):EqS (S++[o]) a2 b2:=by
  intro x hx
  rw [z7r h1,z7r h2]
  by_cases e:x=o
  · rw [if_pos e,if_pos e]
  · rw [if_neg e,if_neg e]
    rcases List.mem_append.1 hx with hx | hx
    · exact h x hx
    · exact absurd (List.mem_singleton.1 hx) e
theorem EqS.msets:∀ {l p S a b a2 b2:List Int},EqS S a b->mSet a l p=some a2->mSet b l p=some b2->EqS (S++l) a2 b2
  | [],p,S,a,b,a2,b2,h,h1,h2=>by cases h1;cases h2;simpa using h
  | i::r,p,S,a,b,a2,b2,h,h1,h2=>by
    obtain ⟨y,p',a1,rfl,g1,g2⟩:=z8z h1
    obtain ⟨y',p'',b1,e,g1',g2'⟩:=z8z h2
    obtain ⟨rfl,rfl⟩:=List.cons.inj e
    have:=EqS.msets (h.set g1 g1') g2 g2'
    simpa using this
theorem EqS.setO {S outs:List Int} {a b a2 b2:List Int} {y:Int} (h:EqS S a b) (ho:outs.length<=1) (h1:setO outs a y a2) (h2:setO outs b y b2):EqS (S++outs) a2 b2:=by
  cases outs with
  | nil=>obtain rfl:a2=a:=h1;obtain rfl:b2=b:=h2;simpa using h
  | cons o os =>
    have:os=[]:=List.eq_nil_of_length_eq_zero (by simpa using ho)
    subst this
    exact h.set h1 h2
theorem y71 {tys seen:List Int}:∀ {l want:List Int},l.length=want.length->z0z tys seen l want=true->∀ v∈l,v∈seen
  | [],_,_,_=>fun v hv=>by simp at hv
  | _::_,[],h,_=>by simp at h
  | x::r,w::ws,h,hg=>by
    simp only [z0z,Bool.and_eq_true] at hg
    intro v hv
    rcases List.mem_cons.1 hv with rfl | hv
    · have:=hg.1
      unfold z6m at this
      simp only [Bool.not_eq_true',Bool.or_eq_false_iff] at this
      simpa using this.1.2
    · exact y71 (by simpa using h) hg.2 v hv
theorem z22 {tys seen l want:List Int} (h:z03 tys seen l want=true):∀ v∈l,v∈seen:=by
  have h0:=(zg5 h).1
  simp only [z03,Bool.and_eq_true] at h
  exact y71 h0 h.2
theorem z89 {u:Un} {f:Fl} {x:Nd} {seen:List Int} {w:Wh} (h:(z3f u f x seen w).ok f.types x.outs=true) :
    (∀ v∈x.args,v∈seen)/\x.outs.length<=1/\(za6 x=true->HL x/\∃ o,x.outs=[o])/\(x.kind=12->w.If=true)/\(12<=x.kind->x.kind<=15):=by
  have V:∀ {b:Bool} {want:Option (List Int)},SForm.ok ⟨b,want⟩ f.types x.outs=true->b=true:=fun {b want} h=>by
    cases want<;>simp only [SForm.ok,Bool.and_eq_true] at h<;>exact h.1
  have V1:∀ {b:Bool} {t:Int},SForm.ok ⟨b,some [t]⟩ f.types x.outs=true->x.outs.length=1:=fun {b t} h=>by
    simp only [SForm.ok,Bool.and_eq_true] at h
    exact zg6 h.2
  have V0:∀ {b:Bool},SForm.ok ⟨b,none⟩ f.types x.outs=true->x.outs.length=0:=fun {b} h=>by
    simp only [SForm.ok,Bool.and_eq_true,beq_iff_eq] at h
    omega
  have ex1:x.outs.length=1->∃ o,x.outs=[o]:=fun h=>List.length_eq_one_iff.1 h
  have hne:x.outs.length=1->x.outs≠[]:=fun h e=>by rw [e] at h;cases h
  unfold z3f at h
  by_cases k1:x.kind=1
  · rw [if_pos (beq_iff_eq.2 k1)] at h
    have h1:=V1 h
    exact ⟨z22 (V h),by omega,fun hm=>⟨⟨hm,fun h=>absurd (k1.symm.trans h) dC0,hne h1⟩,ex1 h1⟩,fun h=>absurd (k1.symm.trans h) dC0,by omega⟩
  rw [if_neg (by simpa using k1)] at h
  by_cases k2:x.kind=2
  · rw [if_pos (beq_iff_eq.2 k2)] at h
    have h1:=V1 h
    have hb:=V h
    simp only [Bool.and_eq_true] at hb
    exact ⟨z22 hb.2,by omega,fun hm=>⟨⟨hm,fun h=>absurd (k2.symm.trans h) dC0,hne h1⟩,ex1 h1⟩,fun h=>absurd (k2.symm.trans h) dC0,by omega⟩
  rw [if_neg (by simpa using k2)] at h
  by_cases k3:x.kind=3
  · rw [if_pos (beq_iff_eq.2 k3)] at h
    have h1:=V1 h
    have hb:=V h
    simp only [Bool.and_eq_true] at hb
    exact ⟨z22 hb.2,by omega,fun hm=>⟨⟨hm,fun h=>absurd (k3.symm.trans h) dC0,hne h1⟩,ex1 h1⟩,fun h=>absurd (k3.symm.trans h) dC0,by omega⟩
  rw [if_neg (by simpa using k3)] at h
  by_cases k4:x.kind=4
  · rw [if_pos (beq_iff_eq.2 k4)] at h
    have h1:=V1 h
    have hb:=V h
    simp only [Bool.and_eq_true] at hb
    exact ⟨z22 hb.1.2,by omega,fun hm=>⟨⟨hm,fun _=>hb.1.1,hne h1⟩,ex1 h1⟩,fun h=>absurd (k4.symm.trans h) dC0,by omega⟩
  rw [if_neg (by simpa using k4)] at h
  have hno:za6 x=false:=by
    cases hx:za6 x with
    | false=>rfl
    | true=>have:=zb4 hx;omega
  have hm0:za6 x=true->HL x/\∃ o,x.outs=[o]:=fun h=>by rw [hno] at h;cases h
  by_cases k5:x.kind=5
  · rw [if_pos (beq_iff_eq.2 k5)] at h
    have hb:=V h
    simp only [Bool.and_eq_true] at hb
    exact ⟨z22 hb.2,by have:=V1 h;omega,hm0,fun h=>absurd (k5.symm.trans h) dC0,by omega⟩
  rw [if_neg (by simpa using k5)] at h
  by_cases k6:x.kind=6
  · rw [if_pos (beq_iff_eq.2 k6)] at h
    have hb:=V h
    simp only [Bool.and_eq_true] at hb
    exact ⟨z22 hb.2,by have:=V0 h;omega,hm0,fun h=>absurd (k6.symm.trans h) dC0,by omega⟩
  rw [if_neg (by simpa using k6)] at h
  by_cases k7:x.kind=7
  · rw [if_pos (beq_iff_eq.2 k7)] at h
    by_cases hp:decide (z05 x.name u.flows 0 ≥ 0)=true
    · rw [if_pos hp] at h
      cases hg:u.flows[(z05 x.name u.flows 0).toNat]? with
      | none=>rw [hg] at h;exact absurd (V h) dC0
      | some g=>rw [hg] at h;exact ⟨z22 (V h),by have:=V1 h;omega,hm0,fun h=>absurd (k7.symm.trans h) dC0,by omega⟩
    · rw [if_neg hp] at h;exact absurd (V h) dC0
  rw [if_neg (by simpa using k7)] at h
  by_cases k8:x.kind=8
  · rw [if_pos (beq_iff_eq.2 k8)] at h
    have hb:=V h
    have:x.args=[]:=List.eq_nil_of_length_eq_zero (by simp at hb;simp [hb])
    exact ⟨by rw [this];exact fun v hv=>by simp at hv,by have:=V1 h;omega,hm0,fun h=>absurd (k8.symm.trans h) dC0,by omega⟩
  rw [if_neg (by simpa using k8)] at h
  by_cases k9:x.kind=9
  · rw [if_pos (beq_iff_eq.2 k9)] at h
    exact ⟨z22 (V h),by have:=V0 h;omega,hm0,fun h=>absurd (k9.symm.trans h) dC0,by omega⟩
  rw [if_neg (by simpa using k9)] at h
  by_cases k12:x.kind=12
  · rw [if_pos (beq_iff_eq.2 k12)] at h
    have hb:=V h
    simp only [Bool.and_eq_true] at hb
    exact ⟨z22 hb.2,by have:=V0 h;omega,hm0,fun _=>hb.1,by omega⟩
  rw [if_neg (by simpa using k12)] at h
  by_cases k13:x.kind=13
  · rw [if_pos (beq_iff_eq.2 k13)] at h
    have hb:=V h
    simp only [Bool.and_eq_true] at hb
    exact ⟨z22 hb.2,by have:=V0 h;omega,hm0,fun h=>absurd (k13.symm.trans h) dC0,by omega⟩
  rw [if_neg (by simpa using k13)] at h
  by_cases k14:x.kind=14
  · rw [if_pos (beq_iff_eq.2 k14)] at h
    have hb:=V h
    simp only [Bool.and_eq_true] at hb
    exact ⟨z22 hb.2,by have:=V0 h;omega,hm0,fun h=>absurd (k14.symm.trans h) dC0,by omega⟩
  rw [if_neg (by simpa using k14)] at h
  by_cases k15:x.kind=15
  · rw [if_pos (beq_iff_eq.2 k15)] at h
    exact ⟨z22 (V h),by have:=V0 h;omega,hm0,fun h=>absurd (k15.symm.trans h) dC0,by omega⟩
  rw [if_neg (by simpa using k15)] at h
  exact absurd (V h) dC0
theorem yc7 {u:Un} {f:Fl} {deep:Int} {w:Wh}:∀ {l:List Nd} {S:List Int},vGo u f deep w S l=true->z1o l=12->w.If=true
  | [],_,_,h=>by simp [z1o] at h
  | [x],S,hv,h=>by
    unfold vGo at hv
    simp only [Bool.and_eq_true] at hv
    have hk:x.kind=12:=by
      simp only [z1o,List.getLast?_singleton] at h
      split at h
      · exact h
      · exact absurd h dC0
    have hx:=hv.1.1.2
    rw [z17 u f deep w S (z29 u f deep w S hx) (by rw [hk];rfl) (by rw [hk];rfl)] at hx
    exact (z89 hx).2.2.2.1 hk
  | x::y::r,S,hv,h=>by
    unfold vGo at hv
    simp only [Bool.and_eq_true] at hv
    have e:z1o (x::y::r)=z1o (y::r):=by simp [z1o,List.getLast?_cons_cons]
    rw [e] at h
    exact yc7 hv.2 h
section
def z43 (B:List Nd->List Nd) (f:Fl):Fl:=⟨f.name,f.ty,f.params,f.types,B f.body⟩
def z40 (B:List Nd->List Nd) (u:Un):Un:=⟨u.arrays,u.flows.map (z43 B)⟩
def z6h (B:List Nd->List Nd) (u:Un):Un × Int:=if (z4c u).1==0 then (z40 B u,0) else (⟨[],[]⟩,1)
section
variable (B:List Nd->List Nd)
theorem zj1 (name:ByteArray):∀ (l:List Fl) (i:Int),z05 name (l.map (z43 B)) i=z05 name l i
  | [],_=>rfl
  | f::r,i=>by
    have ih:=zj1 name r (i+1)
    unfold z05
    rw [List.map_cons]
    simp only [ih]
    rfl
theorem sForm_m (u:Un) (f:Fl) (x:Nd) (s:List Int) (w:Wh):z3f (z40 B u) (z43 B f) x s w=z3f u f x s w:=by
  unfold z3f
  simp only [z40,z43,zj1,List.getElem?_map]
  cases u.flows[(z05 x.name u.flows 0).toNat]? with
  | none=>rfl
  | some g=>rfl
mutual
theorem vNode_m (u:Un) (f:Fl):∀ (x:Nd) (deep:Int) (w:Wh) (s:List Int),z4g (z40 B u) (z43 B f) deep w s x=z4g u f deep w s x
  | .mk kind op n name args outs params ks,deep,w,s=>by
    unfold z4g
    rw [sForm_m]
    match ks with
    | []=>rfl
    | [a] =>
      have h1:=y8z u f a (deep+1) (w2 f (.mk kind op n name args outs params [a])) (s++params)
      simp only [show w2 (z43 B f) (.mk kind op n name args outs params [a])=w2 f (.mk kind op n name args outs params [a]) from rfl,h1]
      rfl
    | a::b::r =>
      have h1:=y8z u f a (deep+1) (w2 f (.mk kind op n name args outs params (a::b::r))) (s++params)
      have h2:=y8z u f a (deep+1) (w1 w f (.mk kind op n name args outs params (a::b::r))) s
      have h3:=y8z u f b (deep+1) (w1 w f (.mk kind op n name args outs params (a::b::r))) s
      simp only [show w2 (z43 B f) (.mk kind op n name args outs params (a::b::r))=w2 f (.mk kind op n name args outs params (a::b::r)) from rfl,show w1 w (z43 B f) (.mk kind op n name args outs params (a::b::r))=w1 w f (.mk kind op n name args outs params (a::b::r)) from rfl,h1,h2,h3]
      rfl
theorem y8z (u:Un) (f:Fl):∀ (l:List Nd) (deep:Int) (w:Wh) (s:List Int),vGo (z40 B u) (z43 B f) deep w s l=vGo u f deep w s l
  | [],_,_,_=>by simp [vGo]
  | x::r,deep,w,s=>by
    unfold vGo
    rw [vNode_m u f x,y8z u f r]
end
def zk7 (u:Un) (f:Fl) (l:List Nd):Prop:=z36 u f 1 z1k (iota f.params.toNat) l=true/\Frs (z2z f.params.toNat f.types.length) (dL l)
theorem z7q {u:Un} {f:Fl} (h:z2w u f=true):f.params.toNat<=f.types.length:=by
  unfold z2w at h
  simp only [Bool.and_eq_true] at h
  have a1:=h.1.1.1.1.1
  have a2:=h.1.1.1.2
  simp only [Bool.not_eq_true',decide_eq_false_iff_not] at a1 a2
  omega
theorem zp9 {u:Un} {f:Fl} (h:z2w u f=true):zk7 u f f.body:=by
  have hn:(z2z f.params.toNat f.types.length).length=f.types.length:=z2j (z7q h)
  unfold z2w at h
  simp only [Bool.and_eq_true] at h
  have h2:=h.2
  rw [z7i u f f.body 1 z1k _ _ hn] at h2
  exact h2
theorem flow_m {u:Un} {f:Fl} (h:z2w u f=true) (hB:zk7 u f f.body->zk7 u f (B f.body)):z2w (z40 B u) (z43 B f)=true:=by
  have hb:=hB (zp9 h)
  have hn:(z2z f.params.toNat f.types.length).length=f.types.length:=z2j (z7q h)
  unfold z2w at h ⊢
  simp only [Bool.and_eq_true] at h ⊢
  refine ⟨h.1,?_⟩
  show (z1p (z40 B u) (z43 B f) 1 z1k (iota f.params.toNat) (z2z f.params.toNat f.types.length) (B f.body)).1=true
  rw [z7i (z40 B u) (z43 B f) (B f.body) 1 z1k _ _ hn]
  have hv:=hb.1
  simp only [z36,Bool.and_eq_true] at hv ⊢
  exact ⟨⟨hv.1,by rw [y8z];exact hv.2⟩,hb.2⟩
theorem gA_m (u:Un):∀ (l:List Ar) (i:Int),r8gA (z40 B u) l i=r8gA u l i
  | [],_=>rfl
  | a::r,i=>by
    have h1:gArr (z40 B u) a i=gArr u a i:=by simp only [gArr,z40,zj1]
    simp only [r8gA,gA_m u r,h1]
theorem gF_m (u:Un):∀ (l:List Fl) (i:Int),r8gF (z40 B u) (l.map (z43 B)) i=r8gF u l i
  | [],_=>rfl
  | a::r,i=>by
    have h1:gFlw (z40 B u) (z43 B a) i=gFlw u a i:=by
      simp only [gFlw,z40,zj1]
      rfl
    simp only [List.map_cons,r8gF,gF_m u r,h1]
theorem zw9 (l:List Fl) (k:Nat):((l.map (z43 B)).getD k y1u).ty=(l.getD k y1u).ty/\((l.map (z43 B)).getD k y1u).params=(l.getD k y1u).params:=by
  simp only [List.getD_eq_getElem?_getD,List.getElem?_map]
  cases l[k]? with
  | none=>exact ⟨rfl,rfl⟩
  | some g=>exact ⟨rfl,rfl⟩
theorem yb3 (u:Un):z16 (z40 B u)=z16 u:=by
  unfold z16
  rw [show (z40 B u).arrays=u.arrays from rfl,show (z40 B u).flows=u.flows.map (z43 B) from rfl,gA_m,gF_m]
  unfold z70
  rw [show (z40 B u).flows=u.flows.map (z43 B) from rfl,zj1,(zw9 B _ _).1,(zw9 B _ _).2]
theorem check_m {u:Un} (h:(z1b u).1=0) (hB:∀ f∈u.flows,zk7 u f f.body->zk7 u f (B f.body)):z1b (z40 B u)=(0,0):=by
  obtain ⟨h1,h2⟩:=(z4o u).1 h
  unfold z1b
  rw [yb3,h1,if_pos rfl]
  refine zw4 (z40 B u) _ 0 fun g hg=>?_
  obtain ⟨f,hf,rfl⟩:=List.mem_map.1 hg
  exact flow_m B (h2 f hf) (hB f hf)
theorem y9h {u:Un} (h:(z1b u).1=0):∀ f∈u.flows,zk7 u f f.body:=fun f hf=>zp9 (((z4o u).1 h).2 f hf)
theorem wtF_m (hw:∀ l,z4a (B l)<=z4a l):∀ l:List Fl,wtF (l.map (z43 B))<=wtF l
  | []=>Nat.le_refl _
  | f::r=>by
    have h1:=hw f.body
    have h2:=wtF_m hw r
    simp only [List.map_cons,wtF,z43] at h2 ⊢
    omega
theorem y76 (hw:∀ l,z4a (B l)<=z4a l) (u:Un):z0s (z40 B u)<=z0s u:=by
  have:=wtF_m B hw u.flows
  unfold z0s
  rw [show (z40 B u).flows=u.flows.map (z43 B) from rfl,List.length_map,show (z40 B u).arrays=u.arrays from rfl]
  omega
theorem zx9 {u:Un} (h:(z1b u).1≠0):z6h B u=(⟨[],[]⟩,1):=by
  have:((z4c u).1==0)=false:=by rw [z7k];simpa using h
  simp [z6h,this]
theorem z6i {u:Un} (h:(z1b u).1=0):z6h B u=(z40 B u,0):=by
  have:((z4c u).1==0)=true:=by rw [z7k];simpa using h
  simp [z6h,this]
theorem y0k (hw:∀ l,z4a (B l)<=z4a l) (u:Un):z0s (z6h B u).1<=z0s u:=by
  unfold z6h
  split
  ·exact y76 B hw u
  simp [z0s,wtA,wtF]
end
end
section
section
variable {α β:Type} [DecidableEq α]
def aGet (k:α):List (α × β)->Option β
  | []=>none
  | (a,b)::r=>if k=a then some b else aGet k r
def aPut (k:α) (v:β):List (α × β)->List (α × β)
  | []=>[(k,v)]
  | (a,b)::r=>if k=a then (k,v)::r else (a,b)::aPut k v r
theorem z3c (j k:α) (v:β):∀ es:List (α × β),aGet j (aPut k v es)=if j=k then some v else aGet j es
  | []=>by simp [aPut,aGet]
  | (a,b)::r=>by
    have ih:=z3c j k v r
    unfold aPut
    by_cases h:k=a
    ·subst h
     rw [if_pos rfl]
     unfold aGet
     by_cases h2:j=k
     ·rw [if_pos h2,if_pos h2]
     rw [if_neg h2,if_neg h2,if_neg h2]
    rw [if_neg h]
    unfold aGet
    rw [ih]
    by_cases h2:j=a
    ·subst h2
     rw [if_pos rfl,if_neg (fun e=>h e.symm),if_pos rfl]
    rw [if_neg h2,if_neg h2]
theorem y5u {k:α} {v:β} {e:α × β}:∀ {es:List (α × β)},e∈aPut k v es->e=(k,v)∨e∈es
  | [],h=>by simp [aPut] at h;exact .inl h
  | (a,b)::r,h=>by
    unfold aPut at h
    split at h
    ·rcases List.mem_cons.1 h with h | h
     ·exact .inl h
     exact .inr (.tail _ h)
    rcases List.mem_cons.1 h with h | h
    ·exact .inr (h ▸ .head _)
    exact (y5u h).imp id (.tail _)
theorem y5t {k:α} {v:β}:∀ {es:List (α × β)},aGet k es=some v->(k,v)∈es
  | [],h=>by simp [aGet] at h
  | (a,b)::r,h=>by
    unfold aGet at h
    split at h
    ·rename_i e;subst e;cases h;exact .head _
    exact .tail _ (y5t h)
end
structure Ky where
  kind:Int
  op:Int
  n:Int
  a:Int
  b:Int
  deriving DecidableEq
abbrev TT:=List (Int × Int)
structure Tb where
  seen:List (Ky × Int)
  nums:TT
def z0x (to:TT) (v:Int):Int:=(aGet v to).getD v
def z57 (op:Int):Bool:=op==1||op==3||op==6||op==7||op==8||op==16||op==17
def z2h (x:Nd):Ky :=
  if x.kind==3 then ⟨x.kind,x.op,x.n,x.args.getD 0 0,0⟩
  else if x.kind==4 then (if z57 x.op&&decide (x.args.getD 0 0 > x.args.getD 1 0) then ⟨x.kind,x.op,x.n,x.args.getD 1 0,x.args.getD 0 0⟩ else ⟨x.kind,x.op,x.n,x.args.getD 0 0,x.args.getD 1 0⟩)
  else ⟨x.kind,x.op,x.n,0,0⟩
def z3a (op n:Int):Bool :=
  if op==1||op==2||op==7||op==8||op==9||op==10||op==11 then n==0
  else if op==3||op==4 then n==1
  else if op==6 then n == -1 else false
def y3a (nums:TT) (v:Int) (q:Int->Bool):Bool:=match aGet v nums with
  | some m=>q m
  | none=>false
def z2d (nums:TT) (x:Nd):Option Int :=
  if x.kind != 4 then none
  else if y3a nums (x.args.getD 1 0) (z3a x.op) then some (x.args.getD 0 0)
  else if y3a nums (x.args.getD 0 0) (fun m=>z57 x.op&&z3a x.op m) then some (x.args.getD 1 0)
  else none
def z1w (tb:Tb) (to:TT) (x:Nd):Bool × Tb × TT:=match z2d tb.nums x with
  | some y=>(false,tb,aPut (x.outs.headD 0) y to)
  | none=>match aGet (z2h x) tb.seen with
    | some y=>(false,tb,aPut (x.outs.headD 0) y to)
    | none=>(true,⟨aPut (z2h x) (x.outs.headD 0) tb.seen,if x.kind==1 then aPut (x.outs.headD 0) x.n tb.nums else tb.nums⟩,to)
def stK (kind:Int):Bool:=kind==1||kind==2||kind==3||kind==4
mutual
def z02 (tb:Tb) (to:TT):Nd->List Nd × Tb × TT
  | .mk kind op n name args outs params ks =>
    if stK kind then
      (if (z1w tb (z0g tb to ks).2 (.mk kind op n name (args.map (z0x to)) outs params (z0g tb to ks).1)).1 then [.mk kind op n name (args.map (z0x to)) outs params (z0g tb to ks).1] else [],
        (z1w tb (z0g tb to ks).2 (.mk kind op n name (args.map (z0x to)) outs params (z0g tb to ks).1)).2)
    else ([.mk kind op n name (args.map (z0x to)) outs params (z0g tb to ks).1],tb,(z0g tb to ks).2)
def z0e (tb:Tb) (to:TT):List Nd->List Nd × Tb × TT
  | []=>([],tb,to)
  | x::r=>((z02 tb to x).1++(z0e (z02 tb to x).2.1 (z02 tb to x).2.2 r).1,(z0e (z02 tb to x).2.1 (z02 tb to x).2.2 r).2)
def z0g (tb:Tb) (to:TT):List (List Nd)->List (List Nd) × TT
  | []=>([],to)
  | l::r=>((z0e tb to l).1::(z0g tb (z0e tb to l).2.2 r).1,(z0g tb (z0e tb to l).2.2 r).2)
end
def z0j (tb:Tb) (to:TT) (x:Nd):Nd:=.mk x.kind x.op x.n x.name (x.args.map (z0x to)) x.outs x.params (z0g tb to x.kids).1
theorem z4w (tb:Tb) (to:TT) (x:Nd):z02 tb to x =
    if stK x.kind then (if (z1w tb (z0g tb to x.kids).2 (z0j tb to x)).1 then [z0j tb to x] else [],(z1w tb (z0g tb to x.kids).2 (z0j tb to x)).2)
    else ([z0j tb to x],tb,(z0g tb to x.kids).2):=by
  cases x;simp only [z02,z0j,Nd.kind,Nd.op,Nd.n,Nd.name,Nd.args,Nd.outs,Nd.params,Nd.kids];rfl
def stB (l:List Nd):List Nd:=(z0e ⟨[],[]⟩ [] l).1
mutual
def zv2:Nd->Bool
  | .mk kind _ _ _ args outs _ ks=>(!stK kind || !outs.isEmpty)&&(kind != 3||decide (1<=args.length))&&(kind != 4||decide (2<=args.length))&&zk2 ks
def zk3:List Nd->Bool
  | []=>true
  | x::r=>zv2 x&&zk3 r
def zk2:List (List Nd)->Bool
  | []=>true
  | l::r=>zk3 l&&zk2 r
end
theorem z9w (x:Nd):zv2 x=((!stK x.kind || !x.outs.isEmpty)&&(x.kind != 3||decide (1<=x.args.length))&&(x.kind != 4||decide (2<=x.args.length))&&zk2 x.kids):=by
  cases x;simp only [zv2,Nd.kind,Nd.args,Nd.outs,Nd.kids];rfl
theorem y3c:∀ {l:List Nd} {x:Nd},zk3 l=true->x∈l->zv2 x=true
  | y::r,x,hh,hx=>by
    simp only [zk3,Bool.and_eq_true] at hh
    rcases List.mem_cons.1 hx with rfl | hx
    ·exact hh.1
    exact y3c hh.2 hx
theorem y3b:∀ {l:List (List Nd)} {x:List Nd},zk2 l=true->x∈l->zk3 x=true
  | y::r,x,hh,hx=>by
    simp only [zk2,Bool.and_eq_true] at hh
    rcases List.mem_cons.1 hx with rfl | hx
    ·exact hh.1
    exact y3b hh.2 hx
theorem zz1 (tb:Tb) (to:TT) (x:Nd):(z02 tb to x).1.length<=1:=by
  rw [z4w]
  split
  ·dsimp only
   split<;>simp
  simp
theorem z9v:∀ (l:List Nd) (tb:Tb) (to:TT),(z0e tb to l).1.length<=l.length
  | [],_,_=>by simp [z0e]
  | x::r,tb,to=>by
    have h1:=zz1 tb to x
    have h2:=z9v r (z02 tb to x).2.1 (z02 tb to x).2.2
    simp only [z0e,List.length_append,List.length_cons]
    omega
mutual
theorem yn4:∀ (x:Nd) (tb:Tb) (to:TT),wtL (z02 tb to x).1<=wtN x
  | .mk kind op n name args outs params ks,tb,to=>by
    have hk:=y3q ks tb to
    unfold z02
    split
    ·dsimp only
     split
     ·simp only [wtL,wtN,List.length_map];omega
     simp [wtL]
    simp only [wtL,wtN,List.length_map];omega
theorem zu7:∀ (l:List Nd) (tb:Tb) (to:TT),wtL (z0e tb to l).1<=wtL l
  | [],_,_=>by simp [z0e]
  | x::r,tb,to=>by
    have h1:=yn4 x tb to
    have h2:=zu7 r (z02 tb to x).2.1 (z02 tb to x).2.2
    simp only [z0e,zd3,wtL]
    omega
theorem y3q:∀ (ks:List (List Nd)) (tb:Tb) (to:TT),wtK (z0g tb to ks).1<=wtK ks
  | [],_,_=>by simp [z0g]
  | l::r,tb,to=>by
    have h1:=zu7 l tb to
    have h2:=y3q r tb (z0e tb to l).2.2
    have h3:=z9v l tb to
    simp only [z0g,wtK]
    omega
end
theorem zx6 (l:List Nd):z4a (stB l)<=z4a l:=by
  have h1:=zu7 l ⟨[],[]⟩ []
  have h2:=z9v l ⟨[],[]⟩ []
  unfold z4a stB
  omega
theorem zy9:∀ (ks:List (List Nd)) (tb:Tb) (to:TT),(z0g tb to ks).1.length=ks.length
  | [],_,_=>by simp [z0g]
  | l::r,tb,to=>by simp [z0g,zy9 r]
mutual
theorem y8m:∀ (x:Nd) (tb:Tb) (to:TT),List.Sublist (dL (z02 tb to x).1) (dN x)
  | .mk kind op n name args outs params ks,tb,to=>by
    have hk:=zz0 ks tb to
    have h1:List.Sublist (params++(dK (z0g tb to ks).1++outs)) (params++(dK ks++outs)):=(List.Sublist.refl _).append (hk.append (List.Sublist.refl _))
    unfold z02
    split
    ·dsimp only
     split
     ·simpa [dL,dN] using h1
     simp [dL]
    simpa [dL,dN] using h1
theorem zk1:∀ (l:List Nd) (tb:Tb) (to:TT),List.Sublist (dL (z0e tb to l).1) (dL l)
  | [],_,_=>by simp [z0e,dL]
  | x::r,tb,to=>by
    simp only [z0e,dL_app,dL]
    exact (y8m x tb to).append (zk1 r _ _)
theorem zz0:∀ (ks:List (List Nd)) (tb:Tb) (to:TT),List.Sublist (dK (z0g tb to ks).1) (dK ks)
  | [],_,_=>by simp [z0g,dK]
  | l::r,tb,to=>by
    simp only [z0g,dK]
    exact (zk1 l tb to).append (zz0 r tb _)
end
mutual
theorem y12:∀ (x:Nd) (tb:Tb) (to:TT),z0l (z02 tb to x).1=z1f x
  | .mk kind op n name args outs params ks,tb,to=>by
    have hk:=zg1 ks tb to
    unfold z02
    by_cases hK:stK kind=true
    ·have h14:(kind==14)=false:=by
       simp only [stK,Bool.or_eq_true,beq_iff_eq] at hK;simp;omega
     have h10:(kind==10)=false:=by
       simp only [stK,Bool.or_eq_true,beq_iff_eq] at hK;simp;omega
     rw [if_pos hK]
     dsimp only
     split<;>simp [z0l,z1f,h14,h10]
    rw [if_neg hK]
    simp [z0l,z1f,hk]
theorem z5z:∀ (l:List Nd) (tb:Tb) (to:TT),z0l (z0e tb to l).1=z0l l
  | [],_,_=>by simp [z0e]
  | x::r,tb,to=>by
    simp only [z0e,zx3,z0l,y12 x tb to,z5z r]
theorem zg1:∀ (ks:List (List Nd)) (tb:Tb) (to:TT),z2b (z0g tb to ks).1=z2b ks
  | [],_,_=>by simp [z0g]
  | l::r,tb,to=>by
    simp only [z0g,z2b,z5z l tb to,zg1 r]
end
theorem z56 (tb:Tb) (to:TT) (x:Nd) (h:stK x.kind=false):z02 tb to x=([z0j tb to x],tb,(z0g tb to x.kids).2):=by
  rw [z4w,h];rfl
theorem z7p {x:Nd} (h:z01 x=true):stK x.kind=false:=by
  cases hK:stK x.kind with
  | false=>rfl
  | true =>
    simp only [stK,Bool.or_eq_true,beq_iff_eq] at hK
    have h10:(x.kind==10)=false:=by simp;omega
    have h11:(x.kind==11)=false:=by simp;omega
    unfold z01 at h
    simp only [h10,h11,Bool.false_and,Bool.false_eq_true,if_false] at h
    rcases hK with ((e | e) | e) | e<;>(rw [e] at h;simp [z0u] at h)
theorem last_app {A B:List Nd} (h:B≠[]):(A++B).getLast? = B.getLast?:=by
  rw [List.getLast?_append]
  cases hb:B.getLast? with
  | none=>exact absurd (List.getLast?_eq_none_iff.1 hb) h
  | some z=>rfl
theorem z4e {u:Un} {f:Fl} {deep:Int} {w:Wh}:∀ {l:List Nd} {all:List Int} (tb:Tb) (to:TT),vGo u f deep w all l=true->l≠[]->(z0e tb to l).1≠[]/\z1o (z0e tb to l).1=z1o l
  | [],_,_,_,_,h=>absurd rfl h
  | [x],all,tb,to,hv,_=>by
    simp only [vGo,Bool.and_eq_true,beq_iff_eq,List.isEmpty_nil] at hv
    rw [show (z0e tb to [x]).1=(z02 tb to x).1 by simp [z0e],z56 tb to x (z7p hv.1.2)]
    exact ⟨by simp,by cases x;rfl⟩
  | x::y::r,all,tb,to,hv,_=>by
    unfold vGo at hv
    simp only [Bool.and_eq_true] at hv
    obtain ⟨i1,i2⟩:=z4e (l:=y::r) (z02 tb to x).2.1 (z02 tb to x).2.2 hv.2 sI0
    have e:(z0e tb to (x::y::r)).1=(z02 tb to x).1++(z0e (z02 tb to x).2.1 (z02 tb to x).2.2 (y::r)).1:=by rw [z0e]
    rw [e]
    refine ⟨fun h=>i1 (List.append_eq_nil_iff.1 h).2,?_⟩
    unfold z1o at i2 ⊢
    rw [last_app i1,i2]
    simp [List.getLast?_cons_cons]
end
def Vis (tys all:List Int) (y t:Int):Prop:=all.contains y=true/\0<=y/\y<tys.length/\tys.getD y.toNat 0=t
theorem Vis.mono {tys all:List Int} {y t:Int} (h:Vis tys all y t) (c:List Int):Vis tys (all++c) y t:=⟨by rw [List.contains_append,h.1];rfl,h.2⟩
def Rel (tys:List Int) (to:TT) (all all':List Int):Prop:=∀ v,all.contains v=true->0<=v->v<tys.length->Vis tys all' (z0x to v) (tys.getD v.toNat 0)
theorem zk6 {tys seen:List Int} {v w:Int}:z6m tys seen v w=true↔seen.contains v=true/\0<=v/\v<tys.length/\(w=0∨tys.getD v.toNat 0=w):=by
  unfold z6m
  simp only [Bool.not_eq_true',Bool.or_eq_false_iff,decide_eq_false_iff_not,Bool.not_eq_false',Bool.and_eq_false_iff,bne_eq_false_iff_eq]
  constructor
  ·rintro ⟨⟨⟨h1,h2⟩,h3⟩,h4⟩
   exact ⟨h3,by omega,by omega,h4⟩
  rintro ⟨h3,h1,h2,h4⟩
  exact ⟨⟨⟨by omega,by omega⟩,h3⟩,h4⟩
theorem use_rel {tys all all':List Int} {to:TT} (hr:Rel tys to all all') {v w:Int} (h:z6m tys all v w=true):z6m tys all' (z0x to v) w=true:=by
  obtain ⟨h1,h2,h3,h4⟩:=zk6.1 h
  obtain ⟨k1,k2,k3,k4⟩:=hr v h1 h2 h3
  exact zk6.2 ⟨k1,k2,k3,by rw [k4];exact h4⟩
theorem zu2 {tys all all':List Int} {to:TT} (hr:Rel tys to all all'):∀ {l want:List Int},z0z tys all l want=true->z0z tys all' (l.map (z0x to)) want=true
  | [],_,_=>by simp [z0z]
  | _::_,[],_=>by simp [z0z]
  | v::r,w::ws,h=>by
    simp only [z0z,Bool.and_eq_true,List.map_cons] at h ⊢
    exact ⟨use_rel hr h.1,zu2 hr h.2⟩
theorem zu3 {tys all all':List Int} {to:TT} (hr:Rel tys to all all') {l want:List Int} (h:z03 tys all l want=true):z03 tys all' (l.map (z0x to)) want=true:=by
  unfold z03 at h ⊢
  simp only [Bool.and_eq_true,List.length_map] at h ⊢
  exact ⟨h.1,zu2 hr h.2⟩
theorem Rel.outs {tys all all' outs:List Int} {to:TT} (hr:Rel tys to all all') (hn:∀ v∈outs,aGet v to=none):Rel tys to (all++outs) (all'++outs):=fun v hv h0 h1=>by
  rw [List.contains_append,Bool.or_eq_true] at hv
  by_cases ho:outs.contains v=true
  ·have e:z0x to v=v:=by unfold z0x;rw [hn v (List.contains_iff_mem.1 ho)];rfl
   rw [e]
   exact ⟨by rw [List.contains_append,ho,Bool.or_true],h0,h1,rfl⟩
  exact (hr v (hv.resolve_right ho) h0 h1).mono _
theorem Rel.congr {tys all all':List Int} {to to':TT} (hr:Rel tys to all all') (hn:∀ v,all.contains v=true->aGet v to'=aGet v to):Rel tys to' all all':=fun v hv h0 h1=>by
  have e:z0x to' v=z0x to v:=by unfold z0x;rw [hn v hv]
  rw [e]
  exact hr v hv h0 h1
def kTy (k:Ky):Int:=if k.kind==1 then 1 else if k.kind==2 then 2 else (z09 k.op).2
def TabOk (tys:List Int) (tb:Tb) (all:List Int):Prop:=∀ e∈tb.seen,Vis tys all e.2 (kTy e.1)
theorem TabOk.mono {tys all:List Int} {tb:Tb} (h:TabOk tys tb all) (c:List Int):TabOk tys tb (all++c):=fun e he=>(h e he).mono c
theorem y33 {u:Un} {f:Fl} {to:TT} {all all':List Int} {w:Wh} {outs:List Int} {x y:Nd} (ek:y.kind=x.kind) (eo:y.op=x.op) (en:y.n=x.n) (em:y.name=x.name) (ea:y.args=x.args.map (z0x to)) (hr:Rel f.types to all all')
    (h:(z3f u f x all w).ok f.types outs=true):(z3f u f y all' w).ok f.types outs=true:=by
  have M:∀ want,z03 f.types all x.args want=true->z03 f.types all' (x.args.map (z0x to)) want=true:=fun want=>zu3 hr
  have F:∀ (b b':Bool) (want:Option (List Int)),(b=true->b'=true)->SForm.ok ⟨b,want⟩ f.types outs=true->SForm.ok ⟨b',want⟩ f.types outs=true:=fun b b' want hb h=>by
    cases want<;>simp only [SForm.ok,Bool.and_eq_true] at h ⊢<;>exact ⟨hb h.1,h.2⟩
  unfold z3f at h ⊢
  rw [ek,eo,en,em,ea]
  by_cases k1:(x.kind==1)=true
  ·rw [if_pos k1] at h ⊢
   exact F _ _ _ (fun hb=>M _ hb) h
  rw [if_neg k1] at h ⊢
  by_cases k2:(x.kind==2)=true
  ·rw [if_pos k2] at h ⊢
   exact F _ _ _ (fun hb=>by simp only [Bool.and_eq_true] at hb ⊢;exact ⟨hb.1,M _ hb.2⟩) h
  rw [if_neg k2] at h ⊢
  by_cases k3:(x.kind==3)=true
  ·rw [if_pos k3] at h ⊢
   exact F _ _ _ (fun hb=>by simp only [Bool.and_eq_true] at hb ⊢;exact ⟨hb.1,M _ hb.2⟩) h
  rw [if_neg k3] at h ⊢
  by_cases k4:(x.kind==4)=true
  ·rw [if_pos k4] at h ⊢
   refine F _ _ _ (fun hb=>?_) h
   simp only [Bool.and_eq_true] at hb ⊢
   refine ⟨⟨hb.1.1,M _ hb.1.2⟩,?_⟩
   have ht:=hb.1.2
   unfold z03 at ht
   simp only [Bool.and_eq_true,beq_iff_eq,List.length_cons,List.length_nil] at ht
   match x.args,ht,hb.2 with
   | [a,b],ht,h2 =>
     simp only [z0z,Bool.and_eq_true] at ht
     obtain ⟨a1,a2,a3,_⟩:=zk6.1 ht.2.1
     obtain ⟨b1,b2,b3,_⟩:=zk6.1 ht.2.2.1
     have e1:=(hr a a1 a2 a3).2.2.2
     have e2:=(hr b b1 b2 b3).2.2.2
     simp only [List.map_cons,List.map_nil,List.getD_cons_zero,List.getD_cons_succ] at h2 ⊢
     rw [e1,e2]
     exact h2
  rw [if_neg k4] at h ⊢
  by_cases k5:(x.kind==5)=true
  ·rw [if_pos k5] at h ⊢
   exact F _ _ _ (fun hb=>by simp only [Bool.and_eq_true] at hb ⊢;exact ⟨hb.1,M _ hb.2⟩) h
  rw [if_neg k5] at h ⊢
  by_cases k6:(x.kind==6)=true
  ·rw [if_pos k6] at h ⊢
   exact F _ _ _ (fun hb=>by simp only [Bool.and_eq_true] at hb ⊢;exact ⟨hb.1,M _ hb.2⟩) h
  rw [if_neg k6] at h ⊢
  by_cases k7:(x.kind==7)=true
  ·rw [if_pos k7] at h ⊢
   by_cases hp:decide (z05 x.name u.flows 0 ≥ 0)=true
   ·rw [if_pos hp] at h ⊢
    cases hg:u.flows[(z05 x.name u.flows 0).toNat]? with
    | none=>rw [hg] at h;exact h
    | some g=>rw [hg] at h;exact F _ _ _ (fun hb=>M _ hb) h
   rw [if_neg hp] at h ⊢;exact h
  rw [if_neg k7] at h ⊢
  by_cases k8:(x.kind==8)=true
  ·rw [if_pos k8] at h ⊢
   exact F _ _ _ (fun hb=>by simpa using hb) h
  rw [if_neg k8] at h ⊢
  by_cases k9:(x.kind==9)=true
  ·rw [if_pos k9] at h ⊢
   exact F _ _ _ (fun hb=>M _ hb) h
  rw [if_neg k9] at h ⊢
  by_cases k12:(x.kind==12)=true
  ·rw [if_pos k12] at h ⊢
   exact F _ _ _ (fun hb=>by simp only [Bool.and_eq_true] at hb ⊢;exact ⟨hb.1,M _ hb.2⟩) h
  rw [if_neg k12] at h ⊢
  by_cases k13:(x.kind==13)=true
  ·rw [if_pos k13] at h ⊢
   exact F _ _ _ (fun hb=>by simp only [Bool.and_eq_true] at hb ⊢;exact ⟨hb.1,M _ hb.2⟩) h
  rw [if_neg k13] at h ⊢
  by_cases k14:(x.kind==14)=true
  ·rw [if_pos k14] at h ⊢
   exact F _ _ _ (fun hb=>by simp only [Bool.and_eq_true] at hb ⊢;exact ⟨hb.1,M _ hb.2⟩) h
  rw [if_neg k14] at h ⊢
  by_cases k15:(x.kind==15)=true
  ·rw [if_pos k15] at h ⊢
   exact F _ _ _ (fun hb=>M _ hb) h
  rw [if_neg k15] at h ⊢
  exact h
theorem zn7 {tys outs:List Int} {t:Int} (h:z1v tys outs [t]=true) (ht:t≠0):∃ v,outs=[v]/\0<=v/\v<tys.length/\tys.getD v.toNat 0=t:=by
  match outs,h with
  | [v],h =>
    simp only [z1v,Bool.and_true,z4k,Bool.and_eq_true,decide_eq_true_eq,Bool.or_eq_true,beq_iff_eq] at h
    exact ⟨v,rfl,h.1.1,h.1.2,h.2.resolve_left ht⟩
  | [],h=>simp [z1v] at h
  | _::_::_,h=>simp [z1v] at h
theorem op2 (op:Int):(z09 op).2≠0:=by
  unfold z09
  repeat' split
  all_goals simp
theorem zn8 {u:Un} {f:Fl} {x:Nd} {s:List Int} {w:Wh} (hK:stK x.kind=true) (h:(z3f u f x s w).ok f.types x.outs=true) :
    ∃ v,x.outs=[v]/\0<=v/\v<f.types.length/\f.types.getD v.toNat 0=(if x.kind==1 then 1 else if x.kind==2 then 2 else (z09 x.op).2):=by
  unfold z3f at h
  simp only [stK,Bool.or_eq_true] at hK
  by_cases k1:(x.kind==1)=true
  ·rw [if_pos k1] at h ⊢
   simp only [SForm.ok,Bool.and_eq_true] at h
   exact zn7 h.2 dC0
  rw [if_neg k1] at h ⊢
  by_cases k2:(x.kind==2)=true
  ·rw [if_pos k2] at h ⊢
   simp only [SForm.ok,Bool.and_eq_true] at h
   exact zn7 h.2 dC0
  rw [if_neg k2] at h ⊢
  by_cases k3:(x.kind==3)=true
  ·rw [if_pos k3] at h
   simp only [SForm.ok,Bool.and_eq_true] at h
   exact zn7 h.2 (op2 _)
  rw [if_neg k3] at h
  have k4:(x.kind==4)=true:=by
    rcases hK with ((h' | h') | h') | h'
    ·exact absurd h' k1
    ·exact absurd h' k2
    ·exact absurd h' k3
    exact h'
  rw [if_pos k4] at h
  simp only [SForm.ok,Bool.and_eq_true] at h
  exact zn7 h.2 (op2 _)
theorem y6t {op m:Int} (h:z3a op m=true):z09 op=(1,1):=by
  have h2:op=1∨op=2∨op=3∨op=4∨op=6∨op=7∨op=8∨op=9∨op=10∨op=11:=by
    unfold z3a at h
    split at h
    ·rename_i e;simp only [Bool.or_eq_true,beq_iff_eq] at e;omega
    split at h
    ·rename_i e;simp only [Bool.or_eq_true,beq_iff_eq] at e;omega
    split at h
    ·rename_i e;simp only [beq_iff_eq] at e;omega
    cases h
  rcases h2 with rfl | rfl | rfl | rfl | rfl | rfl | rfl | rfl | rfl | rfl<;>rfl
theorem ye8 {u:Un} {f:Fl} {x:Nd} {s:List Int} {w:Wh} {nums:TT} {y:Int} (hp:z2d nums x=some y) {outs:List Int} (h:(z3f u f x s w).ok f.types outs=true) :
    x.kind=4/\Vis f.types s y 1/\(z09 x.op).2=1:=by
  unfold z2d at hp
  split at hp
  ·cases hp
  rename_i hk
  have k4:x.kind=4:=by simpa using hk
  have hop:(y=x.args.getD 0 0∨y=x.args.getD 1 0)/\z09 x.op=(1,1):=by
    split at hp
    ·rename_i hh
     cases hp
     refine ⟨.inl rfl,?_⟩
     unfold y3a at hh
     split at hh
     ·exact y6t hh
     cases hh
    split at hp
    ·rename_i hh
     cases hp
     refine ⟨.inr rfl,?_⟩
     unfold y3a at hh
     split at hh
     ·simp only [Bool.and_eq_true] at hh;exact y6t hh.2
     cases hh
    cases hp
  refine ⟨k4,?_,by rw [hop.2]⟩
  unfold z3f at h
  simp only [k4] at h
  simp only [SForm.ok,Bool.and_eq_true,show ((4:Int)==1)=false from rfl,show ((4:Int)==2)=false from rfl,show ((4:Int)==3)=false from rfl,show ((4:Int)==4)=true from rfl,Bool.false_eq_true,if_false,if_true] at h
  have ht:=h.1.1.2
  rw [hop.2] at ht
  unfold z03 at ht
  simp only [Bool.and_eq_true,beq_iff_eq,List.length_cons,List.length_nil] at ht
  match hx:x.args,ht with
  | [a,b],ht =>
    simp only [z0z,Bool.and_eq_true] at ht
    obtain ⟨a1,a2,a3,a4⟩:=zk6.1 ht.2.1
    obtain ⟨b1,b2,b3,b4⟩:=zk6.1 ht.2.2.1
    rw [hx] at hop
    rcases hop.1 with rfl | rfl
    ·exact ⟨a1,a2,a3,a4.resolve_left dC0⟩
    exact ⟨b1,b2,b3,b4.resolve_left dC0⟩
theorem y68 (x:Nd):(z2h x).kind=x.kind/\(z2h x).op=x.op:=by
  unfold z2h
  repeat' split
  all_goals exact ⟨rfl,rfl⟩
theorem yf1 {tb:Tb} {to:TT} {x:Nd} (h:x.outs≠[]) {v:Int} (hv:v∉x.outs):aGet v (z1w tb to x).2.2=aGet v to:=by
  have hne:v≠x.outs.headD 0:=fun e=>hv (by rw [e];cases ho:x.outs with | nil=>exact absurd ho h | cons a r=>simp)
  unfold z1w
  split
  ·rw [z3c,if_neg hne]
  split
  ·rw [z3c,if_neg hne]
  rfl
mutual
theorem z8a:∀ (x:Nd) (tb:Tb) (to:TT),zv2 x=true->∀ v,v∉dN x->aGet v (z02 tb to x).2.2=aGet v to
  | .mk kind op n name args outs params ks,tb,to,h,v,hv=>by
    simp only [zv2,Bool.and_eq_true] at h
    simp only [dN,List.mem_append,not_or] at hv
    have hk:=zd1 ks tb to h.2 v hv.2.1
    unfold z02
    by_cases hK:stK kind=true
    ·rw [if_pos hK]
     dsimp only
     rw [yf1 (by rw [hK] at h;simp at h;exact h.1.1.1) hv.2.2]
     exact hk
    rw [if_neg hK]
    exact hk
theorem z55:∀ (l:List Nd) (tb:Tb) (to:TT),zk3 l=true->∀ v,v∉dL l->aGet v (z0e tb to l).2.2=aGet v to
  | [],_,_,_,_,_=>by simp [z0e]
  | x::r,tb,to,h,v,hv=>by
    simp only [zk3,Bool.and_eq_true] at h
    simp only [dL,List.mem_append,not_or] at hv
    simp only [z0e]
    rw [z55 r _ _ h.2 v hv.2,z8a x tb to h.1 v hv.1]
theorem zd1:∀ (ks:List (List Nd)) (tb:Tb) (to:TT),zk2 ks=true->∀ v,v∉dK ks->aGet v (z0g tb to ks).2=aGet v to
  | [],_,_,_,_,_=>by simp [z0g]
  | l::r,tb,to,h,v,hv=>by
    simp only [zk2,Bool.and_eq_true] at h
    simp only [dK,List.mem_append,not_or] at hv
    simp only [z0g]
    rw [zd1 r _ _ h.2 v hv.2,z55 l tb to h.1 v hv.1]
end
def EqT (to:TT) (S a b:List Int):Prop:=∀ v∈S,getV b (z0x to v)=getV a v
theorem EqT.mof {to:TT} {S a b:List Int} (h:EqT to S a b):∀ {l:List Int},(∀ v∈l,v∈S)->mOf b (l.map (z0x to))=mOf a l
  | [],_=>rfl
  | i::r,hs=>by
    simp only [List.map_cons,mOf]
    rw [h i (hs i (.head _)),EqT.mof h fun v hv=>hs v (.tail _ hv)]
theorem EqT.sub {to to':TT} {S T a b:List Int} (h:EqT to S a b) (hc:∀ v∈T,v∈S/\z0x to v=z0x to' v):EqT to' T a b:=fun v hv=>by rw [<- (hc v hv).2];exact h v (hc v hv).1
theorem EqT.sets {to:TT} {S l p a b a2 b2:List Int} (h:EqT to S a b) (h1:mSet a l p=some a2) (h2:mSet b l p=some b2) (hs:∀ v∈S,z0x to v∉l) (hl:∀ v∈l,aGet v to=none):EqT to (S++l) a2 b2:=by
  intro v hv
  by_cases hm:v∈l
  · have e:z0x to v=v:=by unfold z0x;rw [hl v hm];rfl
    rw [e]
    have:=EqS.msets (S:=[]) (fun _ h=>by simp at h) h1 h2 v (by simpa using hm)
    exact this.symm
  · have hS:=(List.mem_append.1 hv).resolve_right hm
    rw [zn2 h2 (hs v hS),zn2 h1 hm]
    exact h v hS
theorem EqT.seto {to:TT} {S outs a b a2 b2:List Int} {y:Int} (h:EqT to S a b) (ho:outs.length<=1) (h1:setO outs a y a2) (h2:setO outs b y b2) (hs:∀ v∈S,z0x to v∉outs) (hl:∀ v∈outs,aGet v to=none):EqT to (S++outs) a2 b2:=by
  intro v hv
  by_cases hm:v∈outs
  · have e:z0x to v=v:=by unfold z0x;rw [hl v hm];rfl
    rw [e]
    have:=EqS.setO (S:=[]) (fun _ h=>by simp at h) ho h1 h2 v (by simpa using hm)
    exact this.symm
  · have hS:=(List.mem_append.1 hv).resolve_right hm
    rw [y0x h2 (hs v hS),y0x h1 hm]
    exact h v hS
structure New (f:Fl) (D all all':List Int) (to:TT):Prop where
  nd:D.Nodup
  fa:∀ v∈D,all.contains v=false
  fb:∀ v∈D,v∉all'
  ft:∀ v∈D,aGet v to=none
  rel:Rel f.types to all all'
  inr:inR f.types.length all
theorem New.stv {f:Fl} {D all all':List Int} {to:TT} (h:New f D all all' to):∀ v∈all,∀ o∈D,z0x to v≠o:=fun v hv o ho e=>by
  have h1:=(h.inr v hv)
  have h2:=(h.rel v (List.contains_iff_mem.2 hv) h1.1 h1.2).1
  exact h.fb o ho (e ▸ List.contains_iff_mem.1 h2)
theorem New.na {f:Fl} {D all all':List Int} {to:TT} (h:New f D all all' to) {v:Int} (hv:v∈D):v∉all:=fun hm=>by
  have:=h.fa v hv
  rw [List.contains_iff_mem.2 hm] at this
  cases this
theorem New.sub {f:Fl} {D D' all all':List Int} {to:TT} (h:New f D all all' to) (hn:D'.Nodup) (hs:∀ v∈D',v∈D):New f D' all all' to :=
  ⟨hn,fun v hv=>h.fa v (hs v hv),fun v hv=>h.fb v (hs v hv),fun v hv=>h.ft v (hs v hv),h.rel,h.inr⟩
theorem New.to {f:Fl} {D all all':List Int} {to to':TT} (h:New f D all all' to) (h1:∀ v∈all,aGet v to'=aGet v to) (h2:∀ v∈D,aGet v to'=aGet v to):New f D all all' to' :=
  ⟨h.nd,h.fa,h.fb,fun v hv=>(h2 v hv).trans (h.ft v hv),h.rel.congr fun v hv=>h1 v (List.contains_iff_mem.1 hv),h.inr⟩
theorem z8b {to to':TT} {v:Int} (h:aGet v to'=aGet v to):z0x to' v=z0x to v:=by unfold z0x;rw [h]
structure Ends (t0 to:TT) (S0 S1 all:List Int):Prop where
  s0:∀ v∈S0,v∈all/\z0x to v=z0x t0 v
  s1:∀ v∈S1,v∈all/\z0x to v=z0x t0 v
theorem Ends.step {t0 to to':TT} {S0 S1 all all2:List Int} (h:Ends t0 to S0 S1 all) (h1:∀ v∈all,v∈all2) (h2:∀ v∈all,aGet v to'=aGet v to):Ends t0 to' S0 S1 all2 :=
  ⟨fun v hv=>⟨h1 v (h.s0 v hv).1,(z8b (h2 v (h.s0 v hv).1)).trans (h.s0 v hv).2⟩,fun v hv=>⟨h1 v (h.s1 v hv).1,(z8b (h2 v (h.s1 v hv).1)).trans (h.s1 v hv).2⟩⟩
mutual
theorem z3p (u:Un) (f:Fl):∀ (x:Nd) (deep:Int) (w:Wh) (all:List Int),z4g u f deep w all x=true->zv2 x=true
  | .mk kind op n name args outs params ks,deep,w,all,hv=>by
    have hb:=z29 u f deep _ all hv
    by_cases h10:kind=10
    ·obtain ⟨a,b,hk⟩:=z2x hb h10
     rw [z4x u f deep _ all hb h10 hk] at hv
     simp only [Bool.and_eq_true,z36] at hv
     simp only [Nd.kids] at hk
     match ks,hk with
     | [a',b'],hk =>
       cases hk
       subst h10
       simp only [zv2,zk2,Bool.and_eq_true,Bool.and_true]
       exact ⟨⟨⟨rfl,rfl⟩,rfl⟩,z6q u f a _ _ _ hv.1.1.1.2.2,z6q u f b _ _ _ hv.1.1.2.2⟩
    by_cases h11:kind=11
    ·obtain ⟨a,hk⟩:=z1u hb h11
     rw [z37 u f deep _ all hb h11 hk] at hv
     simp only [Bool.and_eq_true,z36] at hv
     simp only [Nd.kids] at hk
     match ks,hk with
     | [a'],hk =>
       cases hk
       subst h11
       simp only [zv2,zk2,Bool.and_eq_true,Bool.and_true]
       exact ⟨⟨⟨rfl,rfl⟩,rfl⟩,z6q u f a _ _ _ hv.1.1.2.2⟩
    have e10:(kind==10)=false:=by simpa using h10
    have e11:(kind==11)=false:=by simpa using h11
    rw [z17 u f deep _ all hb e10 e11] at hv
    have hk0:ks=[]:=z50 hb e10 e11
    subst hk0
    simp only [zv2,zk2,Bool.and_true,Bool.and_eq_true]
    refine ⟨⟨?_,?_⟩,?_⟩
    ·cases hK:stK kind with
     | false=>rfl
     | true =>
       obtain ⟨v,ho,_⟩:=zn8 (x:=.mk kind op n name args outs params []) hK hv
       simp only [Nd.outs] at ho
       rw [ho];rfl
    ·by_cases h3:kind=3
     ·subst h3
      have ht:=(show (z26 op&&z03 f.types all args [(z09 op).1]&&z1v f.types outs [(z09 op).2])=true from hv)
      simp only [Bool.and_eq_true,z03,beq_iff_eq,List.length_cons,List.length_nil] at ht
      simp;omega
     simp [h3]
    by_cases h4:kind=4
    ·subst h4
     have ht:=(show (z1t op&&z03 f.types all args [(z09 op).1,(z09 op).1]&&f.types.getD (args.getD 0 0).toNat 0==f.types.getD (args.getD 1 0).toNat 0&&z1v f.types outs [(z09 op).2])=true from hv)
     simp only [Bool.and_eq_true,z03,beq_iff_eq,List.length_cons,List.length_nil] at ht
     simp;omega
    simp [h4]
theorem z6q (u:Un) (f:Fl):∀ (l:List Nd) (deep:Int) (w:Wh) (all:List Int),vGo u f deep w all l=true->zk3 l=true
  | [],_,_,_,_=>rfl
  | x::r,deep,w,all,hv=>by
    simp only [vGo,Bool.and_eq_true] at hv
    simp only [zk3,Bool.and_eq_true]
    exact ⟨z3p u f x deep w all hv.1.1.2,z6q u f r deep w _ hv.2⟩
end
def EP (u:Un) (f:Fl) (l:List Nd):Prop:=∀ (deep:Int) (w:Wh) (all all':List Int) (tb:Tb) (to:TT),(dL l).Nodup->(∀ v∈dL l,all.contains v=false)->(∀ v∈dL l,aGet v to=none) ->
  Rel f.types to all all'->TabOk f.types tb all'->vGo u f deep w all l=true->vGo u f deep w all' (z0e tb to l).1=true
theorem EP.list {u:Un} {f:Fl} {l:List Nd} (hh:EP u f l) {deep:Int} {w:Wh} {all all':List Int} {tb:Tb} {to:TT} (h1:(dL l).Nodup) (h2:∀ v∈dL l,all.contains v=false) (h3:∀ v∈dL l,aGet v to=none)
    (hr:Rel f.types to all all') (ht:TabOk f.types tb all') (hv:z36 u f deep w all l=true):z36 u f deep w all' (z0e tb to l).1=true:=by
  simp only [z36,Bool.and_eq_true] at hv ⊢
  refine ⟨?_,hh deep w all all' tb to h1 h2 h3 hr ht hv.2⟩
  have hne:l≠[]:=by intro e;subst e;simp at hv
  obtain ⟨h1,_⟩:=z4e tb to hv.2 hne
  cases hq:(z0e tb to l).1 with
  | nil=>exact absurd hq h1
  | cons _ _=>rfl
def NodeE (u:Un) (f:Fl) (deep:Int) (w:Wh) (all all':List Int) (tb:Tb) (to:TT) (x:Nd):Prop :=
  ((z02 tb to x).1=[]/\z01 x=false/\Rel f.types (z02 tb to x).2.2 (all++x.outs) all'/\TabOk f.types (z02 tb to x).2.1 all') ∨
  ∃ y,(z02 tb to x).1=[y]/\z4g u f deep w all' y=true/\z01 y=z01 x/\y.outs=x.outs/\Rel f.types (z02 tb to x).2.2 (all++x.outs) (all'++x.outs)/\TabOk f.types (z02 tb to x).2.1 (all'++x.outs)
theorem zn5 {tb:Tb} {to:TT} {x:Nd} (h:z11 x=true):z11 (z0j tb to x)=true:=by
  cases x with
  | mk kind op n name args outs params ks=>exact ((y3u (zy9 ks tb to)).trans (show z11 (.mk kind op n name (args.map (z0x to)) outs params ks)=z11 (.mk kind op n name args outs params ks) from rfl)).trans h
theorem yf2 {tys all all':List Int} {to:TT} {v y:Int} (hr:Rel tys to all all') (hy:Vis tys all' y (tys.getD v.toNat 0)):Rel tys (aPut v y to) (all++[v]) all':=fun z hz z0 z1=>by
  by_cases e:z=v
  ·subst e
   have:z0x (aPut z y to) z=y:=by unfold z0x;rw [z3c,if_pos rfl];rfl
   rw [this];exact hy
  have:z0x (aPut v y to) z=z0x to z:=by unfold z0x;rw [z3c,if_neg e]
  rw [this]
  refine hr z ?_ z0 z1
  rw [List.contains_append,Bool.or_eq_true] at hz
  exact hz.resolve_right (by simpa using e)
theorem pure_e (u:Un) (f:Fl) (x:Nd) (deep:Int) (w:Wh) (all all':List Int) (tb:Tb) (to:TT) (hK:stK x.kind=true) (hto:∀ v∈x.outs,aGet v to=none)
    (hr:Rel f.types to all all') (ht:TabOk f.types tb all') (hb:z11 x=true) (hv:z4g u f deep w all x=true):NodeE u f deep w all all' tb to x:=by
  have h10:(x.kind==10)=false:=by simp only [stK,Bool.or_eq_true,beq_iff_eq] at hK;simp;omega
  have h11:(x.kind==11)=false:=by simp only [stK,Bool.or_eq_true,beq_iff_eq] at hK;simp;omega
  have hk0:x.kids=[]:=z50 hb h10 h11
  have e2:(z0g tb to x.kids).2=to:=by rw [hk0];simp [z0g]
  rw [z17 u f deep w all hb h10 h11] at hv
  obtain ⟨v,ho,v0,v1,vt⟩:=zn8 hK hv
  have hy:(z3f u f (z0j tb to x) all' w).ok f.types x.outs=true:=y33 (x:=x) rfl rfl rfl rfl rfl hr hv
  have hcl:z01 x=false:=by
    cases hc:z01 x with
    | false=>rfl
    | true=>rw [z7p hc] at hK;cases hK
  have hvn:=hto v (by rw [ho];exact .head _)
  have hno:(z0j tb to x).outs=x.outs:=rfl
  have hnk:(z0j tb to x).kind=x.kind:=rfl
  have hnp:(z0j tb to x).op=x.op:=rfl
  unfold NodeE
  rw [z4w,if_pos hK,e2,ho]
  unfold z1w
  rw [hno,ho]
  cases hp:z2d tb.nums (z0j tb to x) with
  | some y =>
    obtain ⟨k4,vis,t1⟩:=ye8 hp hy
    refine .inl ⟨rfl,hcl,yf2 hr ?_,ht⟩
    show Vis f.types all' y (f.types.getD v.toNat 0)
    rw [vt]
    have k4':x.kind=4:=k4
    have t1':(z09 x.op).2=1:=t1
    rw [k4',t1']
    exact vis
  | none =>
    dsimp only
    have hkk:=y68 (z0j tb to x)
    cases hs:aGet (z2h (z0j tb to x)) tb.seen with
    | some y =>
      refine .inl ⟨rfl,hcl,yf2 hr ?_,ht⟩
      have:=ht _ (y5t hs)
      unfold kTy at this
      rw [hkk.1,hkk.2,hnk,hnp] at this
      show Vis f.types all' y (f.types.getD v.toNat 0)
      rw [vt]
      exact this
    | none =>
      refine .inr ⟨z0j tb to x,rfl,?_,?_,ho,?_,?_⟩
      ·rw [z17 u f deep w all' (zn5 hb) h10 h11]
       exact hy
      ·rw [hcl]
       cases hc:z01 (z0j tb to x) with
       | false=>rfl
       | true=>have:=z7p hc;rw [hnk,hK] at this;cases this
      ·exact hr.outs fun z hz=>by obtain rfl:=List.mem_singleton.1 hz;exact hvn
      intro e he
      rcases y5u he with rfl | he
      ·refine ⟨by simp,v0,v1,?_⟩
       show _=kTy (z2h (z0j tb to x))
       unfold kTy
       rw [hkk.1,hkk.2,hnk,hnp]
       exact vt
      exact (ht e he).mono _
theorem node_e (u:Un) (f:Fl) (x:Nd) (ih:∀ q∈x.kids,EP u f q) (deep:Int) (w:Wh) (all all':List Int) (tb:Tb) (to:TT) (hnd:(dN x).Nodup) (hall:∀ v∈dN x,all.contains v=false) (hto:∀ v∈dN x,aGet v to=none)
    (hr:Rel f.types to all all') (ht:TabOk f.types tb all') (hv:z4g u f deep w all x=true):NodeE u f deep w all all' tb to x:=by
  have hb:=z29 u f deep _ all hv
  have hok:=z3p u f x deep w all hv
  rw [zz8] at hnd hall hto
  rw [z9w] at hok
  simp only [Bool.and_eq_true] at hok
  by_cases hK:stK x.kind=true
  ·exact pure_e u f x deep w all all' tb to hK (fun v hv=>hto v (by simp [hv])) hr ht hb hv
  have hK2:stK x.kind=false:=by simpa using hK
  obtain ⟨n1,n2,n3⟩:=List.nodup_append.1 hnd
  obtain ⟨n4,n5,n6⟩:=List.nodup_append.1 n2
  have hkeys:∀ v,v∉dK x.kids->aGet v (z0g tb to x.kids).2=aGet v to:=zd1 x.kids tb to hok.2
  have hrel2:Rel f.types (z0g tb to x.kids).2 (all++x.outs) (all'++x.outs):=by
    refine (hr.congr fun v hv=>hkeys v fun hm=>?_).outs fun v hv=>?_
    ·have:=hall v (by simp [hm]);rw [hv] at this;cases this
    rw [hkeys v fun hm=>n6 v hm v hv rfl];exact hto v (by simp [hv])
  unfold NodeE
  rw [z56 tb to x hK2]
  refine .inr ⟨z0j tb to x,rfl,?_,?_,rfl,hrel2,ht.mono _⟩
  ·by_cases h10:x.kind=10
   ·obtain ⟨a,b,hk⟩:=z2x hb h10
    rw [z4x u f deep w all hb h10 hk] at hv
    simp only [Bool.and_eq_true] at hv
    simp only [hk,dK,List.append_nil] at hall hto n4
    obtain ⟨m1,m2,m3⟩:=List.nodup_append.1 n4
    rw [hk] at hok
    simp only [zk2,Bool.and_true,Bool.and_eq_true] at hok
    have ka:=z55 a tb to hok.2.1
    have hva:=hv.1.1.1.2
    have hvb:=hv.1.1.2
    have ha:=(ih a (by rw [hk];simp)).list m1 (fun v hv=>hall v (by simp [hv])) (fun v hv=>hto v (by simp [hv])) hr ht hva
    have hrb:Rel f.types (z0e tb to a).2.2 all all':=hr.congr fun v hv=>ka v fun hm=>by
      have:=hall v (by simp [hm]);rw [hv] at this;cases this
    have hbb:=(ih b (by rw [hk];simp)).list m2 (fun v hv=>hall v (by simp [hv])) (fun v hv=>(ka v fun hm=>m3 v hm v hv rfl).trans (hto v (by simp [hv]))) hrb ht hvb
    simp only [z36,Bool.and_eq_true] at hva hvb
    have hla:=(z4e tb to hva.2 (by intro e;simp [e] at hva)).2
    have hlb:=(z4e tb (z0e tb to a).2.2 hvb.2 (by intro e;simp [e] at hvb)).2
    have hkn:(z0j tb to x).kids=[(z0e tb to a).1,(z0e tb (z0e tb to a).2.2 b).1]:=by
      show (z0g tb to x.kids).1=_
      rw [hk];simp [z0g]
    have hc:z01 (z0j tb to x)=z01 x:=by
      unfold z01
      rw [hkn,hk,show (z0j tb to x).kind=x.kind from rfl]
      simp [kid0,kid1,hla,hlb]
    rw [z4x u f deep w all' (zn5 hb) h10 hkn]
    simp only [Bool.and_eq_true]
    exact ⟨⟨⟨⟨zu3 hr hv.1.1.1.1,ha⟩,hbb⟩,by unfold zi9 at hv ⊢;rw [hc];exact hv.1.2⟩,hv.2⟩
   by_cases h11:x.kind=11
   ·obtain ⟨a,hk⟩:=z1u hb h11
    rw [z37 u f deep w all hb h11 hk] at hv
    simp only [Bool.and_eq_true] at hv
    simp only [hk,dK,List.append_nil] at hall hto n4 n3
    have hrp:Rel f.types to (all++x.params) (all'++x.params):=hr.outs fun v hv=>hto v (by simp [hv])
    have ha:=(ih a (by rw [hk];simp)).list n4 (fun v hm=>by
      rw [List.contains_append,hall v (by simp [hm]),Bool.false_or,<- Bool.not_eq_true,List.contains_iff_mem]
      exact fun hp=>n3 v hp v (by simp [hm]) rfl) (fun v hv=>hto v (by simp [hv])) hrp (ht.mono _) hv.1.1.2
    have hkn:(z0j tb to x).kids=[(z0e tb to a).1]:=by
      show (z0g tb to x.kids).1=_
      rw [hk];simp [z0g]
    have hc:z01 (z0j tb to x)=z01 x:=by
      unfold z01
      rw [hkn,hk,show (z0j tb to x).kind=x.kind from rfl]
      simp [kid0,z5z]
    rw [z37 u f deep w all' (zn5 hb) h11 hkn]
    simp only [Bool.and_eq_true]
    exact ⟨⟨⟨⟨zu3 hr hv.1.1.1.1,hv.1.1.1.2⟩,ha⟩,by unfold zi9 at hv ⊢;rw [hc];exact hv.1.2⟩,hv.2⟩
   have e10:(x.kind==10)=false:=by simpa using h10
   have e11:(x.kind==11)=false:=by simpa using h11
   rw [z17 u f deep w all hb e10 e11] at hv
   rw [z17 u f deep w all' (zn5 hb) e10 e11]
   exact y33 (x:=x) rfl rfl rfl rfl rfl hr hv
  by_cases h10:x.kind=10
  ·obtain ⟨a,b,hk⟩:=z2x hb h10
   rw [z4x u f deep w all hb h10 hk] at hv
   simp only [Bool.and_eq_true,z36] at hv
   have hla:=(z4e tb to hv.1.1.1.2.2 (by intro e;simp [e] at hv)).2
   have hlb:=(z4e tb (z0e tb to a).2.2 hv.1.1.2.2 (by intro e;simp [e] at hv)).2
   unfold z01
   rw [show (z0j tb to x).kind=x.kind from rfl,show (z0j tb to x).kids=(z0g tb to x.kids).1 from rfl,hk]
   simp [z0g,kid0,kid1,hla,hlb]
  by_cases h11:x.kind=11
  ·obtain ⟨a,hk⟩:=z1u hb h11
   unfold z01
   rw [show (z0j tb to x).kind=x.kind from rfl,show (z0j tb to x).kids=(z0g tb to x.kids).1 from rfl,hk]
   simp [z0g,kid0,z5z]
  have e10:(x.kind==10)=false:=by simpa using h10
  have e11:(x.kind==11)=false:=by simpa using h11
  unfold z01
  rw [show (z0j tb to x).kind=x.kind from rfl]
  simp only [e10,e11,Bool.false_and,Bool.false_eq_true,if_false]
theorem go_e (u:Un) (f:Fl):∀ (l:List Nd),(∀ x∈l,∀ q∈x.kids,EP u f q)->EP u f l
  | [],_=>fun _ _ _ _ _ _ _ _ _ _ _ _=>by simp [z0e,vGo]
  | x::r,ih=>fun deep w all all' tb to hnd hall hto hr ht hv=>by
    have hv0:=hv
    simp only [vGo,Bool.and_eq_true] at hv
    obtain ⟨⟨⟨hd,hx⟩,hc⟩,hrr⟩:=hv
    simp only [dL] at hnd hall hto
    obtain ⟨n1,n2,n3⟩:=List.nodup_append.1 hnd
    have hkx:=z8a x tb to (z3p u f x deep w all hx)
    have hall2:∀ v∈dL r,(all++x.outs).contains v=false:=fun v hm=>by
      rw [List.contains_append,hall v (by simp [hm]),Bool.false_or,<- Bool.not_eq_true,List.contains_iff_mem]
      exact fun ho=>n3 v (by rw [zz8];simp [ho]) v hm rfl
    have hto2:∀ v∈dL r,aGet v (z02 tb to x).2.2=none:=fun v hm=>(hkx v fun hn=>n3 v hn v hm rfl).trans (hto v (by simp [hm]))
    have IH:=go_e u f r (fun z hz=>ih z (.tail _ hz))
    rw [show (z0e tb to (x::r)).1=(z02 tb to x).1++(z0e (z02 tb to x).2.1 (z02 tb to x).2.2 r).1 by rw [z0e]]
    rcases node_e u f x (ih x (.head _)) deep w all all' tb to n1 (fun v hv=>hall v (by simp [hv])) (fun v hv=>hto v (by simp [hv])) hr ht hx with ⟨h1,h2,h3,h4⟩ | ⟨y,h1,h2,h3,h4,h5,h6⟩
    ·rw [h1,List.nil_append]
     exact IH deep w _ all' _ _ n2 hall2 hto2 h3 h4 hrr
    rw [h1,List.singleton_append]
    simp only [vGo,Bool.and_eq_true]
    rw [h3,h4]
    refine ⟨⟨⟨hd,h2⟩,?_⟩,IH deep w _ _ _ _ n2 hall2 hto2 h5 h6 hrr⟩
    have he:(z0e (z02 tb to x).2.1 (z02 tb to x).2.2 r).1.isEmpty=r.isEmpty:=by
      cases r with
      | nil=>simp [z0e]
      | cons z r' =>
        obtain ⟨g1,_⟩:=z4e (z02 tb to x).2.1 (z02 tb to x).2.2 hrr sI0
        cases hq:(z0e (z02 tb to x).2.1 (z02 tb to x).2.2 (z::r')).1 with
        | nil=>exact absurd hq g1
        | cons _ _=>rfl
    rw [he];exact hc
theorem ya1 (u:Un) (f:Fl):∀ (N:Nat) (l:List Nd),SizeOf.sizeOf l<N->EP u f l
  | 0,_,h=>absurd h (Nat.not_lt_zero _)
  | N+1,l,hN=>go_e u f l fun x hx q hq=>ya1 u f N q (Nat.lt_of_lt_of_le (z8g hx rfl hq) (Nat.le_of_lt_succ hN))
theorem zp8 {k n:Nat} {v:Int} (hk:k<=n) (h:(iota k).contains v=true):(z2z k n).getD v.toNat false=true:=by
  rw [List.contains_iff_mem] at h
  obtain ⟨i,hi,rfl⟩:=List.mem_map.1 h
  rw [List.mem_range] at hi
  simp only [z2z,List.getD_eq_getElem?_getD]
  rw [List.getElem?_append_left (by simpa using hi)]
  simp [hi]
theorem y9i {u:Un} {f:Fl} (hp:f.params.toNat<=f.types.length) (h:zk7 u f f.body):zk7 u f (stB f.body):=by
  refine ⟨(ya1 u f _ f.body (Nat.lt_succ_self _)).list (tb:=⟨[],[]⟩) (to:=[]) h.2.1 (fun v hv=>?_) (fun _ _=>rfl) (fun v hv v0 v1=>⟨hv,v0,v1,rfl⟩) (fun e he=>by simp at he) h.1,?_⟩
  ·have:=h.2.2 v hv
   cases hc:(iota f.params.toNat).contains v with
   | false=>rfl
   | true=>rw [zp8 hp hc] at this;cases this
  have hs:=zk1 f.body ⟨[],[]⟩ []
  exact ⟨h.2.1.sublist hs,fun v hv=>h.2.2 v (hs.subset hv)⟩
theorem zv6 {u:Un} (h:(z1b u).1=0):z1b (z40 stB u)=(0,0) :=
  check_m stB h fun f hf=>y9i (z7q (((z4o u).1 h).2 f hf))
theorem zk4 {u:Un} (h:(z4c u).1=0):∀ f∈u.flows,zk3 f.body=true:=by
  rw [z7k] at h
  intro f hf
  have hb:=(y9h h f hf).1
  simp only [z36,Bool.and_eq_true] at hb
  exact z6q u f f.body 1 _ _ hb.2
def G (m:Bool) (N k w:Nat) (F F':Int):Prop:=if m then F<=F'+k else F'*(N+1)+w<=F
theorem g_mul (F':Int) (N:Nat):(F' - 1)*((N:Int)+1)=F'*(N+1) - N - 1:=by rw [Int.sub_mul];omega
theorem G.step {m:Bool} {N k w:Nat} {F F':Int} (h:G m N k w F F') (hw:1<=w):G m N k (N+1) (F - 1) (F' - 1):=by
  unfold G at h ⊢
  cases m with
  | true=>simp only [if_true] at h ⊢;omega
  | false =>
    simp only [Bool.false_eq_true,if_false] at h ⊢
    rw [g_mul];generalize F'*((N:Int)+1)=P at h ⊢;omega
theorem G.weak {m:Bool} {N k w k2 w2:Nat} {F F':Int} (h:G m N k w F F') (hk:k<=k2) (hw:w2<=w):G m N k2 w2 F F':=by
  unfold G at h ⊢
  cases m with
  | true=>simp only [if_true] at h ⊢;omega
  | false=>simp only [Bool.false_eq_true,if_false] at h ⊢;omega
theorem G.left {m:Bool} {N k w:Nat} {F F':Int} (h:G m N k (w+1) F F'):G m N k w (F - 1) F':=by
  unfold G at h ⊢
  cases m with
  | true=>simp only [if_true] at h ⊢;omega
  | false=>simp only [Bool.false_eq_true,if_false] at h ⊢;omega
theorem G.pay {m:Bool} {N k w:Nat} {F F':Int} (h:G m N (k+1) (w+1) F F'):G m N k w (F - 1) F':=by
  unfold G at h ⊢
  cases m with
  | true=>simp only [if_true] at h ⊢;omega
  | false=>simp only [Bool.false_eq_true,if_false] at h ⊢;omega
theorem G.right {m:Bool} {N k w:Nat} {F F':Int} (h:G m N k w F F'):G m N (k+1) w F (F' - 1):=by
  unfold G at h ⊢
  cases m with
  | true=>simp only [if_true] at h ⊢;omega
  | false =>
    simp only [Bool.false_eq_true,if_false] at h ⊢
    rw [g_mul];generalize F'*((N:Int)+1)=P at h ⊢;omega
structure Alike (s s':Rs):Prop where
  l:Live s
  l':Live s'
  ins:s'.ins=s.ins
  ar:s'.ar=s.ar
  out:s'.out=s.out
  code:s'.code=s.code
  rg:Rg s
structure RelR (m:Bool) (N k w c:Nat) (s s':Rs):Prop where
  al:Alike s s'
  g:G m N k w s.fuel s'.fuel
  co:s'.cost<=s.cost+c
structure Halt (m:Bool) (s s':Rs):Prop where
  st:s.st≠0
  st':s'.st=s.st
  sp:s.spent=false
  sp':s'.spent=false
  out:s'.out=s.out
  code:s'.code=s.code
  co:s'.cost<=s.cost
  fu:m=true->s.fuel<=s'.fuel
def Cut (m:Bool) (s s':Rs):Prop:=if m then s.spent=true/\s.st=0/\s.out <+: s'.out else s'.spent=true/\s'.st=0/\s'.out <+: s.out
inductive RR (m:Bool) (N:Nat) (E:ER) (r r':Rres):Prop
  | ok:r'.1.1=r.1.1->E r.1.1 r.1.2 r'.1.2 r.2.1 r'.2.1->RelR m N 0 (N+1) 0 r.2.2 r'.2.2->RR m N E r r'
  | halt:Halt m r.2.2 r'.2.2->RR m N E r r'
  | cut:Cut m r.2.2 r'.2.2->RR m N E r r'
inductive RC (m:Bool) (N:Nat) (q q':Int × Rs):Prop
  | ok:q'.1=q.1->I64 q.1->RelR m N 0 (N+1) 0 q.2 q'.2->RC m N q q'
  | halt:Halt m q.2 q'.2->RC m N q q'
  | cut:Cut m q.2 q'.2->RC m N q q'
theorem Halt.over {m:Bool} {s s':Rs} (h:Halt m s s'):z14 s=true/\z14 s'=true:=by
  have h1:=h.st
  have h2:=h.st'
  unfold z14
  rw [h2]
  have:(s.st != 0)=true:=by simpa using h1
  rw [this,Bool.or_true,Bool.or_true]
  exact ⟨rfl,rfl⟩
section
section
variable {u v:Un} {D:Nat} {B:Int} {m:Bool} {N:Nat}
theorem zu4 {k w c:Nat} {E:ER} {s s':Rs} {a:List Int} {r r':Rres} (h:RelR m N k w c s s') (hw:1<=w) (hf:s.fuel<1) (h0:0<=s'.fuel) (ho:s'.out <+: r'.2.2.out) (hr:r=((0,[]),a,gone s)):RR m N E r r':=by
  subst hr
  cases m with
  | true=>exact .cut (by unfold Cut;rw [if_pos rfl];exact ⟨rfl,h.al.l.2,by show s.out <+: _;rw [<- h.al.out];exact ho⟩)
  | false =>
    have:=h.g
    unfold G at this
    simp only [Bool.false_eq_true,if_false] at this
    have h2:0<=s'.fuel*((N:Int)+1):=Int.mul_nonneg h0 oM0
    omega
theorem poor (hB:B<=4611686018427387903) {k c:Nat} {I:VR} {l:List Nd} {K:List KF} {l':List Nd} {E:ER} (h:LRel k c I l K l' E) :
    ∀ (D:Nat) (a:List Int) (s:Rs) (r:Rres),KRun u D l K a s r->Oks B s->Live s->l≠[]->s.fuel<=k->r.2.2.spent=true/\r.2.2.st=0/\r.2.2.out=s.out:=by
  have G0:∀ {s:Rs} {a:List Int} {r:Rres},Live s->r=((0,[]),a,gone s)->r.2.2.spent=true/\r.2.2.st=0/\r.2.2.out=s.out:=fun hl e=>by subst e;exact ⟨rfl,hl.2,rfl⟩
  have Z:∀ {D:Nat} {l:List Nd} {K:List KF} {a:List Int} {s:Rs} {r:Rres},KRun u D l K a s r->Oks B s->Live s->l≠[]->s.fuel<=(0:Nat)->r.2.2.spent=true/\r.2.2.st=0/\r.2.2.out=s.out:=by
    intro D l K a s r hk ho hl hn hf
    cases l with
    | nil=>exact absurd rfl hn
    | cons x l =>
      rcases zi2 hB hk ho hl with ⟨_,e⟩ | ⟨e,_⟩
      ·exact G0 hl e
      exact absurd hf (by simp;omega)
  have ne:∀ {k c:Nat} {I:VR} {l:List Nd} {K:List KF} {l':List Nd} {E:ER} {f:Int},LRel k c I l K l' E->1<=f->f<=k->l≠[]:=by
    intro k c I l K l' E f h h1 h2 e
    have:=LRel.nil h e
    subst this
    simp at h2;omega
  induction h with
  | dead _=>exact fun _ _ _ _=>Z
  | weak _ _ ih=>exact ih
  | both hx _ _ _ hL ih =>
    intro D a s r hk ho hl hn hf
    rcases y21 hB hx hk ho hl with ⟨_,e⟩ | ⟨e,a2,_,h2⟩
    ·exact G0 hl e
    have t:=ih _ _ _ _ h2 (zf3 ho e) (y06 (z5u hl)) (ne hL e hf) (by show s.fuel - 1<=_;omega)
    exact t
  | skip hx _ hL ih =>
    intro D a s r hk ho hl hn hf
    rcases y21 hB hx hk ho hl with ⟨_,e⟩ | ⟨e,a2,_,h2⟩
    ·exact G0 hl e
    have t:=ih _ _ _ _ h2 (zf3 ho e) (y06 (z5u hl)) (ne hL e hf) (by show s.fuel - 1<=_;omega)
    exact t
  | drop=>exact fun _ _ _ _=>Z
  | paid hx _ hne hL ih =>
    intro D a s r hk ho hl hn hf
    rcases y21 hB hx hk ho hl with ⟨_,e⟩ | ⟨e,a2,_,h2⟩
    ·exact G0 hl e
    have t:=ih _ _ _ _ h2 (zf3 ho e) (y06 (z5u hl)) hne (by show s.fuel - 1<=_;omega)
    exact t
  | add _ _ _ _ ih =>
    intro D a s r hk ho hl hn hf
    exact ih _ _ _ _ hk ho hl hn oM0
  | eff=>exact fun _ _ _ _=>Z
  | ite=>exact fun _ _ _ _=>Z
  | ender=>exact fun _ _ _ _=>Z
  | loop hx _ hq _ _ hL _ _ ih _ =>
    intro D a s r hk ho hl hn hf
    rcases zi2 hB hk ho hl with ⟨_,e⟩ | ⟨e,d1,p,r1,_,_,h3,h4⟩
    ·exact G0 hl e
    have h5:=z63 h3 (by rw [hx];rfl)
    have ho1:=(z3w ho e).1
    obtain ⟨d2,v2,q2,r2,rfl,_,g2,g3,g4⟩:=z4h h5
    rw [hq] at g2
    obtain rfl:=Option.some.inj g2
    have h6:=ih d2 v2 (dec s) r2 ⟨d2,r2,Nat.le_refl _,g3,by split<;>rfl⟩ ho1 (z5u hl) (ne hL e hf) (by show s.fuel - 1<=_;omega)
    have hov:z14 r2.2.2=true:=by unfold z14;rw [h6.1];rfl
    rw [hov] at g4
    cases g4
    rcases h4 with ⟨_,h4⟩ | ⟨h4,_⟩ | ⟨h4,_⟩
    ·subst h4;exact h6
    ·rw [z0r h4] at hov;cases hov
    rw [z0r h4] at hov;cases hov
  | once hx hq _ hL ih =>
    intro D a s r hk ho hl hn hf
    rcases y2j hB hx hq hk ho hl with ⟨_,e⟩ | ⟨e,p,a2,_,_,h2⟩
    ·exact G0 hl e
    have t:=ih _ _ _ _ h2 (z3w ho e).1 (z5u hl) (ne hL e hf) (by show s.fuel - 1<=_;omega)
    exact t
  | leave hy hy2 _ hL ih =>
    intro D a s r hk ho hl hn hf
    rcases zx2 hB hy hy2 hk ho hl with ⟨_,e⟩ | ⟨e,p,a2,_,_,h2⟩
    ·exact G0 hl e
    have t:=ih _ _ _ _ h2 (z3w ho e).1 (z5u hl) (ne hL e hf) (by show s.fuel - 1<=_;omega)
    exact t
  | fork hx hq hL0 hL1 ih0 ih1 =>
    intro D a s r hk ho hl hn hf
    rcases y1x hB hx hq hk ho hl with ⟨_,e⟩ | ⟨e,q,hq',h2⟩
    ·exact G0 hl e
    rcases hq' with rfl | rfl
    ·have t:=ih0 _ _ _ _ h2 (z3w ho e).1 (z5u hl) (ne hL0 e hf) (by show s.fuel - 1<=_;omega)
     exact t
    have t:=ih1 _ _ _ _ h2 (z3w ho e).1 (z5u hl) (ne hL1 e hf) (by show s.fuel - 1<=_;omega)
    exact t
theorem y92 {k w c:Nat} {I:VR} {l:List Nd} {K:List KF} {l':List Nd} {E:ER} {a b:List Int} {s s':Rs} {r r':Rres} (hB:B<=4611686018427387903) (hL:LRel k c I l K l' E) (hn:l≠[]) (hk:KRun u D l K a s r) (ho:Oks B s)
    (h:RelR m N k w c s s') (hf:s'.fuel<1) (hr:r'=((0,[]),b,gone s')):RR m N E r r':=by
  subst hr
  refine .cut ?_
  unfold Cut
  cases m with
  | true =>
    rw [if_pos rfl]
    have hg:=h.g
    unfold G at hg
    simp only [if_true] at hg
    obtain ⟨h1,h2,h3⟩:=poor hB hL _ _ _ _ hk ho h.al.l hn oM0
    exact ⟨h1,h2,by rw [h3];show s.out <+: s'.out;rw [h.al.out];exact List.prefix_refl _⟩
  | false =>
    rw [if_neg dC0]
    refine ⟨rfl,h.al.l'.2,?_⟩
    show s'.out <+: _
    rw [h.al.out]
    exact hk.out hB ho
def upd (s:Rs) (ins:List Int) (ar:List (List Int)) (st:Int) (out:List Int):Rs:={ bmp s with ins:=ins,ar:=ar,st:=st,out:=out }
theorem yj9 {d d':Nat} {x x':Nd} {p:List Int} {s s':Rs} {q q':Int × Rs} (hk:x'.kind=x.kind) (hop:x'.op=x.op) (hnm:x'.name=x.name) (h7:x.kind≠7) (hA:v.arrays=u.arrays)
    (hB:B<=4611686018427387903) (ho:Oks B s) (ho':Oks B s') (hal:Alike s s') (h:mSum u d x p s=some q) (h':mSum v d' x' p s'=some q') :
    q'.1=q.1/\∃ ins ar st out,q.2=upd s ins ar st out/\q'.2=upd s' ins ar st out:=by
  obtain ⟨d,rfl⟩:=z58 h
  obtain ⟨d',rfl⟩:=z58 h'
  have e:=zd6 hB ho
  have e':=zd6 hB ho'
  obtain ⟨hl,hl',i1,i2,i3,i4,_⟩:=hal
  have U:bmp s=upd s s.ins s.ar s.st s.out:=rfl
  have U':bmp s'=upd s' s.ins s.ar s.st s.out:=by unfold upd bmp;rw [<- i1,<- i2,<- i3,hl.2,<- hl'.2]
  have ne:∀ {i:Int},x.kind≠i->(x.kind==i)=false:=fun h=>beq_eq_false_iff_ne.2 h
  have ne':∀ {i:Int},x.kind≠i->(x'.kind==i)=false:=fun h=>beq_eq_false_iff_ne.2 (by rw [hk];exact h)
  by_cases k3:x.kind=3
  ·obtain ⟨a0,g1,rfl⟩:=z7u h (beq_iff_eq.2 k3)
   obtain ⟨a0',g1',rfl⟩:=z7u h' (beq_iff_eq.2 (hk.trans k3))
   rw [g1] at g1';cases g1'
   rw [e,e',hop];exact ⟨rfl,_,_,_,_,U,U'⟩
  by_cases k4:x.kind=4
  ·obtain ⟨a0,a1,g1,g2,rfl⟩:=z6w h (beq_iff_eq.2 k4)
   obtain ⟨a0',a1',g1',g2',rfl⟩:=z6w h' (beq_iff_eq.2 (hk.trans k4))
   rw [g1] at g1';cases g1'
   rw [g2] at g2';cases g2'
   rw [e,e',hop]
   refine ⟨rfl,?_⟩
   cases (mTwo x.op a0 a1).2 with
   | true=>exact ⟨_,_,_,_,U,U'⟩
   | false=>exact ⟨s.ins,s.ar,2,s.out,rfl,by show ({ bmp s' with st:=2 }:Rs)=_;rw [U'];rfl⟩
  have cell:∀ (k n:Int) (q q':Bool × Rs),z8y (bmp s) k n=some q->z8y (bmp s') k n=some q'->q'.1=q.1/\((q.1=false->q.2=upd s s.ins s.ar 3 s.out/\q'.2=upd s' s.ins s.ar 3 s.out)):=by
    intro k n q q' g g'
    rw [U'] at g'
    unfold z8y at g g'
    have S:({ upd s' s.ins s.ar s.st s.out with st:=3 }:Rs)=upd s' s.ins s.ar 3 s.out:=rfl
    split at g
    ·rename_i c1
     rw [if_pos c1] at g'
     cases g;cases g'
     exact ⟨rfl,fun _=>⟨rfl,S⟩⟩
    rename_i c1
    rw [if_neg c1] at g'
    split at g
    ·rename_i c2
     rw [if_pos c2] at g'
     obtain ⟨row,r1,r2⟩:=Option.bind_eq_some_iff.1 g
     obtain ⟨row',r1',r2'⟩:=Option.bind_eq_some_iff.1 g'
     have:s.ar[k.toNat]? = some row:=r1
     have h2:s.ar[k.toNat]? = some row':=r1'
     rw [this] at h2;cases h2
     split at r2
     ·rename_i c3
      rw [if_pos c3] at r2'
      cases r2;cases r2'
      exact ⟨rfl,fun _=>⟨rfl,S⟩⟩
     rename_i c3
     rw [if_neg c3] at r2'
     cases r2;cases r2'
     exact ⟨rfl,fun h=>by cases h⟩
    cases g
  by_cases k5:x.kind=5
  ·obtain ⟨a0,b,t,g1,g2,g3⟩:=z64 h k5
   obtain ⟨a0',b',t',g1',g2',g3'⟩:=z64 h' (hk.trans k5)
   rw [g1] at g1';cases g1'
   rw [e] at g2 g3
   rw [e'] at g2' g3'
   rw [hA,hnm] at g2' g3'
   obtain ⟨c1,c2⟩:=cell _ _ _ _ g2 g2'
   have c1:b'=b:=c1
   subst c1
   rcases g3 with ⟨rfl,rfl⟩ | ⟨rfl,row,y,h4,h5,rfl⟩
   ·rcases g3' with ⟨_,rfl⟩ | ⟨h0,_⟩
    ·obtain ⟨c3,c4⟩:=c2 rfl
     exact ⟨rfl,_,_,_,_,c3,c4⟩
    cases h0
   rcases g3' with ⟨h0,_⟩ | ⟨_,row',y',h4',h5',rfl⟩
   ·cases h0
   rw [U'] at h4'
   have e1:s.ar[(z0i x.name u.arrays 0).toNat]? = some row:=h4
   have e2:s.ar[(z0i x.name u.arrays 0).toNat]? = some row':=h4'
   rw [e1] at e2;cases e2
   rw [h5] at h5';cases h5'
   exact ⟨rfl,_,_,_,_,U,U'⟩
  by_cases k6:x.kind=6
  ·obtain ⟨a0,b,t,g1,g2,g3⟩:=z52 h k6
   obtain ⟨a0',b',t',g1',g2',g3'⟩:=z52 h' (hk.trans k6)
   rw [g1] at g1';cases g1'
   rw [e] at g2 g3
   rw [e'] at g2' g3'
   rw [hA,hnm] at g2' g3'
   obtain ⟨c1,c2⟩:=cell _ _ _ _ g2 g2'
   have c1:b'=b:=c1
   subst c1
   rcases g3 with ⟨rfl,rfl⟩ | ⟨rfl,row,y,h4,h5,rfl⟩
   ·rcases g3' with ⟨_,rfl⟩ | ⟨h0,_⟩
    ·obtain ⟨c3,c4⟩:=c2 rfl
     exact ⟨rfl,_,_,_,_,c3,c4⟩
    cases h0
   rcases g3' with ⟨h0,_⟩ | ⟨_,row',y',h4',h5',rfl⟩
   ·cases h0
   rw [U'] at h4'
   have e1:s.ar[(z0i x.name u.arrays 0).toNat]? = some row:=h4
   have e2:s.ar[(z0i x.name u.arrays 0).toNat]? = some row':=h4'
   rw [e1] at e2;cases e2
   rw [h5] at h5';cases h5'
   refine ⟨rfl,s.ins,s.ar.set (z0i x.name u.arrays 0).toNat (row.set a0.toNat y),s.st,s.out,rfl,?_⟩
   rw [U'];rfl
  by_cases k9:x.kind=9
  ·obtain ⟨a0,g1,_,rfl⟩:=z65 h (beq_iff_eq.2 k9)
   obtain ⟨a0',g1',_,rfl⟩:=z65 h' (beq_iff_eq.2 (hk.trans k9))
   rw [g1] at g1';cases g1'
   rw [e,e',U',i3]
   exact ⟨rfl,s.ins,s.ar,s.st,s.out++[a0],rfl,rfl⟩
  by_cases k8:x.kind=8
  ·have R1:=z7e h (beq_iff_eq.2 k8)
   have R2:=z7e h' (beq_iff_eq.2 (hk.trans k8))
   rw [e] at R1
   rw [e',U',i1] at R2
   rcases R1 with ⟨c1,rfl⟩ | ⟨y,z,c1,rfl⟩
   ·rcases R2 with ⟨c2,rfl⟩ | ⟨y',z',c2,rfl⟩
    ·exact ⟨rfl,s.ins,s.ar,4,s.out,rfl,rfl⟩
    rw [c1] at c2;cases c2
   rcases R2 with ⟨c2,rfl⟩ | ⟨y',z',c2,rfl⟩
   ·rw [c1] at c2;cases c2
   rw [c1] at c2;cases c2
   exact ⟨rfl,z,s.ar,s.st,s.out,rfl,rfl⟩
  obtain rfl:=z7d h (ne k3) (ne k4) (ne k5) (ne k6) (ne h7) (ne k9) (ne k8)
  obtain rfl:=z7d h' (ne' k3) (ne' k4) (ne' k5) (ne' k6) (ne' h7) (ne' k9) (ne' k8)
  rw [e,e'];exact ⟨rfl,_,_,_,_,U,U'⟩
end
theorem y3p (n:Int):I64 (w64 n):=by
  unfold I64 w64
  rw [IntWalk.i64_left]
  unfold Go.RowKit.wrap64
  omega
theorem zw3 (b:Bool):I64 (ze7 b):=by cases b<;>simp [I64,ze7]
theorem y2k (op a:Int):I64 (mOne op a):=by
  unfold mOne
  repeat' split
  all_goals first
  | exact y3p _
  | exact zw3 _
  | simp [I64]
theorem y8q {a b:Int} (h:I64 a):I64 (a.tmod b):=by
  unfold I64 at h ⊢
  have hn:=Int.natAbs_tmod a b
  have hm:=Nat.mod_le a.natAbs b.natAbs
  rcases Int.le_total 0 a with h0 | h0
  ·have h1:=Int.tmod_nonneg b h0
   omega
  have h1:=Int.tmod_nonneg b (a:=-a) oM0
  rw [Int.neg_tmod] at h1
  omega
theorem y7f {a:Int} {k:Nat} (h:I64 a):I64 (a.fdiv (2 ^ k)):=by
  unfold I64 at h ⊢
  have hp:(1:Int)<=2 ^ k:=by have:=Int.pow_pos (n:=(2:Int)) (m:=k) dC0;omega
  rw [Int.fdiv_eq_ediv_of_nonneg _ oM0]
  generalize (2:Int) ^ k=c at hp
  refine ⟨?_,?_⟩
  ·rcases Int.le_total 0 a with h0 | h0
   ·have:=Int.ediv_nonneg h0 (show 0<=c by omega);omega
   have h1:a<=a / c:=by
     refine Int.le_ediv_of_mul_le oM0 ?_
     have:a*c<=a*1:=Int.mul_le_mul_of_nonpos_left h0 hp
     omega
   omega
  rcases Int.le_total 0 a with h0 | h0
  ·have:=Int.ediv_le_self c h0;omega
  have h2:a / c<=0:=by
    have:=Int.ediv_le_ediv (c:=c) oM0 h0
    simpa using this
  omega
theorem yc0 {c:Prop} [Decidable c] {x y:Int} (hx:I64 x) (hy:I64 y):I64 (if c then x else y):=by
  by_cases h:c
  ·rw [if_pos h];exact hx
  rw [if_neg h];exact hy
theorem yk6 {a b:Int} (op:Int) (h:I64 a):I64 (mTwo op a b).1:=by
  have h0:I64 0:=by simp [I64]
  unfold mTwo
  simp only [apply_ite Prod.fst]
  repeat' first
  | exact y3p _
  | exact zw3 _
  | exact h0
  | exact y8q h
  | exact y7f h
  | refine yc0 ?_ ?_
theorem P64.at {p:List Int} (h:P64 p) {i:Nat} {y:Int} (hy:p[i]? = some y):I64 y:=h y (List.mem_of_getElem? hy)
theorem sum_rg {u:Un} {d:Nat} {x:Nd} {p:List Int} {s:Rs} {q:Int × Rs} (h7:x.kind≠7) (hp:P64 p) (hr:Rg s) (h:mSum u d x p s=some q):I64 q.1/\Rg q.2/\(q.2.st=0->Two x p q.1):=by
  obtain ⟨d,rfl⟩:=z58 h
  have ne:∀ {i:Int},x.kind≠i->(x.kind==i)=false:=fun h=>beq_eq_false_iff_ne.2 h
  have h0:I64 0:=by simp [I64]
  by_cases k3:x.kind=3
  ·obtain ⟨a0,g1,rfl⟩:=z7u h (beq_iff_eq.2 k3)
   exact ⟨y2k _ _,hr,fun _ k4=>by rw [k3] at k4;exact absurd k4 dC0⟩
  by_cases k4:x.kind=4
  ·obtain ⟨a0,a1,g1,g2,rfl⟩:=z6w h (beq_iff_eq.2 k4)
   refine ⟨yk6 _ (hp.at g1),by dsimp only;split<;>exact hr,fun hst _=>⟨a0,a1,g1,g2,?_⟩⟩
   dsimp only at hst
   cases hb:(mTwo x.op a0 a1).2 with
   | true=>rw [<- hb]
   | false=>rw [hb,if_neg dC0] at hst;exact absurd (show (2:Int)=0 from hst) dC0
  have n4:∀ {P:Prop},x.kind=4->P:=fun h=>absurd h k4
  by_cases k5:x.kind=5
  ·obtain ⟨a0,b,s',_,h2,h3⟩:=z64 h k5
   rcases h3 with ⟨rfl,rfl⟩ | ⟨rfl,row,y,h4,h5,rfl⟩
   ·rcases z7t h2 with h4 | h4
    ·obtain ⟨_,rfl⟩:=Prod.mk.inj h4
     exact ⟨h0,hr,fun _=>n4⟩
    cases (Prod.mk.inj h4).1
   exact ⟨(hr.2 _ (List.mem_of_getElem? h4)).at h5,hr,fun _=>n4⟩
  by_cases k6:x.kind=6
  ·obtain ⟨a0,b,s',_,h2,h3⟩:=z52 h k6
   rcases h3 with ⟨rfl,rfl⟩ | ⟨rfl,row,y,h4,h5,rfl⟩
   ·rcases z7t h2 with h4 | h4
    ·obtain ⟨_,rfl⟩:=Prod.mk.inj h4
     exact ⟨h0,hr,fun _=>n4⟩
    cases (Prod.mk.inj h4).1
   refine ⟨h0,⟨hr.1,fun r hm=>?_⟩,fun _=>n4⟩
   rcases List.mem_or_eq_of_mem_set hm with hm | rfl
   ·exact hr.2 r hm
   intro z hz
   rcases List.mem_or_eq_of_mem_set hz with hz | rfl
   ·exact hr.2 row (List.mem_of_getElem? h4) z hz
   exact hp.at h5
  by_cases k9:x.kind=9
  ·obtain ⟨a0,g1,_,rfl⟩:=z65 h (beq_iff_eq.2 k9)
   exact ⟨h0,hr,fun _=>n4⟩
  by_cases k8:x.kind=8
  ·rcases z7e h (beq_iff_eq.2 k8) with ⟨c1,rfl⟩ | ⟨y,z,c1,rfl⟩
   ·exact ⟨h0,hr,fun _=>n4⟩
   have h1:=hr.1
   rw [c1] at h1
   exact ⟨h1 y (.head _),⟨fun v hv=>h1 v (.tail _ hv),hr.2⟩,fun _=>n4⟩
  obtain rfl:=z7d h (ne k3) (ne k4) (ne k5) (ne k6) (ne h7) (ne k9) (ne k8)
  exact ⟨h0,hr,fun _=>n4⟩
end
theorem y77 {a:Int} (h:I64 a):IntKind.i64.wrap (a % 2 ^ 64)=a:=by
  unfold I64 at h
  rw [IntWalk.i64_left]
  unfold Go.RowKit.wrap64
  omega
theorem y3x {a:Int} (h:I64 a):IntKind.i64.wrap ((BitVec.ofInt IntKind.i64.bits a).toNat:Int)=a:=by
  rw [BitVec.toNat_ofInt]
  have e:((a % ((2 ^ IntKind.i64.bits:Nat):Int)).toNat:Int)=a % 2 ^ 64:=by
    have:((2 ^ IntKind.i64.bits:Nat):Int)=2 ^ 64:=by decide
    rw [this]
    have:=Int.emod_nonneg a (show (2:Int) ^ 64≠0 by decide)
    omega
  rw [e]
  exact y77 h
theorem u64_wrap {a:Int} (h:I64 a):w64 (IntKind.u64.wrap a)=a:=by
  have e:IntKind.u64.wrap a=a % 2 ^ 64:=by
    unfold IntKind.wrap
    have:IntKind.u64.signed=false:=rfl
    rw [this]
    rfl
  unfold w64
  rw [e]
  exact y77 h
theorem zg9 {a:Int} (h:I64 a):w64 a=a:=IntWalk.i64_in a h
theorem zv4:min (andI 0 63).toNat IntKind.i64.bits=0:=by decide
theorem y3t:min (andI 0 63).toNat IntKind.u64.bits=0:=by decide
theorem y2p {op m a:Int} (h:z3a op m=true) (ha:I64 a):mTwo op a m=(a,true):=by
  unfold z3a at h
  split at h
  · rename_i ho
    simp only [beq_iff_eq] at h
    subst h
    simp only [Bool.or_eq_true,beq_iff_eq] at ho
    rcases ho with (((((rfl | rfl) | rfl) | rfl) | rfl) | rfl) | rfl
    · show (w64 (a+0),true)=_
      rw [Int.add_zero,zg9 ha]
    · show (w64 (a - 0),true)=_
      rw [Int.sub_zero,zg9 ha]
    · show (IntKind.i64.wrap ((BitVec.ofInt IntKind.i64.bits a ||| 0#IntKind.i64.bits).toNat:Int),true)=_
      rw [BitVec.or_zero,y3x ha]
    · show (IntKind.i64.wrap ((BitVec.ofInt IntKind.i64.bits a ^^^ 0#IntKind.i64.bits).toNat:Int),true)=_
      rw [BitVec.xor_zero,y3x ha]
    · show (w64 (a*2 ^ min (andI 0 63).toNat IntKind.i64.bits),true)=_
      rw [zv4,Int.pow_zero,Int.mul_one,zg9 ha]
    · show (a.fdiv (2 ^ min (andI 0 63).toNat IntKind.i64.bits),true)=_
      rw [zv4,Int.pow_zero,Int.fdiv_one]
    · show (w64 ((IntKind.u64.wrap a).fdiv (2 ^ min (andI 0 63).toNat IntKind.u64.bits)),true)=_
      rw [y3t,Int.pow_zero,Int.fdiv_one,u64_wrap ha]
  · split at h
    · rename_i ho
      simp only [beq_iff_eq] at h
      subst h
      simp only [Bool.or_eq_true,beq_iff_eq] at ho
      rcases ho with rfl | rfl
      · show (w64 (a*1),true)=_
        rw [Int.mul_one,zg9 ha]
      · show (w64 (a.tdiv 1),true)=_
        rw [Int.tdiv_one,zg9 ha]
    · split at h
      · rename_i ho
        simp only [beq_iff_eq] at h ho
        subst h ho
        show (IntKind.i64.wrap ((BitVec.ofInt IntKind.i64.bits a &&& BitVec.ofInt IntKind.i64.bits (-1)).toNat:Int),true)=_
        have:BitVec.ofInt IntKind.i64.bits (-1)=BitVec.allOnes IntKind.i64.bits:=by decide
        rw [this,BitVec.and_allOnes,y3x ha]
      · cases h
theorem y15 {op:Int} (h:z57 op=true) (a b:Int):mTwo op a b=mTwo op b a:=by
  simp only [z57,Bool.or_eq_true,beq_iff_eq] at h
  rcases h with (((((rfl | rfl) | rfl) | rfl) | rfl) | rfl) | rfl
  · show (w64 (a+b),true)=(w64 (b+a),true)
    rw [Int.add_comm]
  · show (w64 (a*b),true)=(w64 (b*a),true)
    rw [Int.mul_comm]
  · show (andI a b,true)=(andI b a,true)
    unfold andI;rw [BitVec.and_comm]
  · show (orI a b,true)=(orI b a,true)
    unfold orI;rw [BitVec.or_comm]
  · show (xorI a b,true)=(xorI b a,true)
    unfold xorI;rw [BitVec.xor_comm]
  · show (ze7 (a==b),true)=(ze7 (b==a),true)
    rw [show (a==b)=(b==a) by rw [Bool.eq_iff_iff,beq_iff_eq,beq_iff_eq];exact eq_comm]
  · show (ze7 (!(a==b)),true)=(ze7 (!(b==a)),true)
    rw [show (a==b)=(b==a) by rw [Bool.eq_iff_iff,beq_iff_eq,beq_iff_eq];exact eq_comm]
def KeyE (b:List Int) (k:Ky) (z:Int):Prop:=((k.kind=1∨k.kind=2)/\z=k.n)∨(k.kind=3/\∃ a0,getV b k.a=some a0/\z=mOne k.op a0)∨(k.kind=4/\∃ a0 a1,getV b k.a=some a0/\getV b k.b=some a1/\mTwo k.op a0 a1=(z,true))
def KeyV (b:List Int) (k:Ky) (y:Int):Prop:=∃ z,getV b y=some z/\KeyE b k z
def TabV (tb:Tb) (b:List Int):Prop:=(∀ k y,aGet k tb.seen=some y->KeyV b k y)/\∀ v m,aGet v tb.nums=some m->getV b v=some m
def TabIn (tb:Tb) (S:List Int):Prop:=(∀ k y,aGet k tb.seen=some y->y∈S/\(k.kind=3->k.a∈S)/\(k.kind=4->k.a∈S/\k.b∈S))/\∀ v m,aGet v tb.nums=some m->v∈S
def TabLe (t0 t1:Tb):Prop:=(∀ k y,aGet k t0.seen=some y->aGet k t1.seen=some y)/\∀ v m,aGet v t0.nums=some m->aGet v t1.nums=some m
theorem KeyE.keep {S b b2:List Int} {k:Ky} {z:Int} (h:KeyE b k z) (h3:k.kind=3->k.a∈S) (h4:k.kind=4->k.a∈S/\k.b∈S) (he:∀ v∈S,getV b2 v=getV b v):KeyE b2 k z:=by
  rcases h with h2 | ⟨k3,a0,g,e⟩ | ⟨k4,a0,a1,g,g',e⟩
  · exact .inl h2
  · exact .inr (.inl ⟨k3,a0,(he _ (h3 k3)).trans g,e⟩)
  · exact .inr (.inr ⟨k4,a0,a1,(he _ (h4 k4).1).trans g,(he _ (h4 k4).2).trans g',e⟩)
theorem TabV.keep {tb:Tb} {S b b2:List Int} (h:TabV tb b) (hi:TabIn tb S) (he:∀ v∈S,getV b2 v=getV b v):TabV tb b2 :=
  ⟨fun k y hk=>by
    obtain ⟨z,h1,h2⟩:=h.1 k y hk
    obtain ⟨i1,i2,i3⟩:=hi.1 k y hk
    exact ⟨z,(he y i1).trans h1,h2.keep i2 i3 he⟩,fun v m hv=>(he v (hi.2 v m hv)).trans (h.2 v m hv)⟩
theorem TabV.le {t0 t1:Tb} {b:List Int} (h:TabV t1 b) (hl:TabLe t0 t1):TabV t0 b:=⟨fun k y hk=>h.1 k y (hl.1 k y hk),fun v m hv=>h.2 v m (hl.2 v m hv)⟩
theorem TabIn.mono {tb:Tb} {S T:List Int} (h:TabIn tb S) (hs:∀ v∈S,v∈T):TabIn tb T :=
  ⟨fun k y hk=>⟨hs _ (h.1 k y hk).1,fun e=>hs _ ((h.1 k y hk).2.1 e),fun e=>⟨hs _ ((h.1 k y hk).2.2 e).1,hs _ ((h.1 k y hk).2.2 e).2⟩⟩,fun v m hv=>hs _ (h.2 v m hv)⟩
theorem TabLe.refl (tb:Tb):TabLe tb tb:=⟨fun _ _ h=>h,fun _ _ h=>h⟩
theorem TabLe.trans {a b c:Tb} (h:TabLe a b) (h':TabLe b c):TabLe a c:=⟨fun k y hk=>h'.1 k y (h.1 k y hk),fun v m hv=>h'.2 v m (h.2 v m hv)⟩
theorem P64.set {b b2:List Int} {o y:Int} (h:P64 b) (hy:I64 y) (hs:setV b o y=some b2):P64 b2:=by
  unfold setV at hs
  split at hs
  · cases hs
    intro z hz
    rcases List.mem_or_eq_of_mem_set hz with hz | rfl
    · exact h z hz
    · exact hy
  · cases hs
theorem P64.sets:∀ {l p b b2:List Int},P64 b->P64 p->mSet b l p=some b2->P64 b2
  | [],_,_,_,h,_,hs=>by cases hs;exact h
  | i::r,p,b,b2,h,hp,hs=>by
    obtain ⟨y,p',b1,rfl,g1,g2⟩:=z8z hs
    exact P64.sets (h.set (hp y (.head _)) g1) (fun z hz=>hp z (.tail _ hz)) g2
theorem P64.seto {outs b b2:List Int} {y:Int} (h:P64 b) (hy:I64 y) (hs:setO outs b y b2):P64 b2:=by
  cases outs with
  | nil=>obtain rfl:b2=b:=hs;exact h
  | cons o r=>exact h.set hy hs
theorem y02 {b:List Int} {v y:Int} (h:getV b v=some y):y∈b:=by
  unfold getV at h
  split at h
  · exact List.mem_of_getElem? h
  · cases h
theorem P64.of {b:List Int} (h:P64 b):∀ {l p:List Int},mOf b l=some p->P64 p
  | [],p,e=>by cases e;exact fun _ h=>by simp at h
  | i::r,p,e=>by
    simp only [mOf,Option.bind_eq_some_iff,Option.map_eq_some_iff] at e
    obtain ⟨y,e1,q,e2,rfl⟩:=e
    intro z hz
    rcases List.mem_cons.1 hz with rfl | hz
    · exact h z (y02 e1)
    · exact P64.of h e2 z hz
theorem y29 {b:List Int}:∀ {l p:List Int} {i:Nat} {y:Int},mOf b l=some p->p[i]? = some y->∃ v,l[i]? = some v/\getV b v=some y
  | [],p,i,y,e,h=>by cases e;simp at h
  | v::r,p,i,y,e,h=>by
    simp only [mOf,Option.bind_eq_some_iff,Option.map_eq_some_iff] at e
    obtain ⟨y0,e1,q,e2,rfl⟩:=e
    cases i with
    | zero=>simp at h;subst h;exact ⟨v,rfl,e1⟩
    | succ i=>simp at h;obtain ⟨w,g1,g2⟩:=y29 e2 h;exact ⟨w,by simpa using g1,g2⟩
theorem at0_D {l:List Int} {v:Int} (h:l[0]? = some v):l.getD 0 0=v:=by rw [List.getD_eq_getElem?_getD,h];rfl
theorem at1_D {l:List Int} {v:Int} (h:l[1]? = some v):l.getD 1 0=v:=by rw [List.getD_eq_getElem?_getD,h];rfl
theorem y67 {x:Nd} {b p:List Int} {z:Int} (hp:mOf b x.args=some p) (hk:x.kind=1∨x.kind=2∨x.kind=3∨x.kind=4) :
    KeyE b (z2h x) z↔(((x.kind=1∨x.kind=2)/\z=x.n)∨(x.kind=3/\∃ a0,getV b (x.args.getD 0 0)=some a0/\z=mOne x.op a0)∨(x.kind=4/\∃ a0 a1,getV b (x.args.getD 0 0)=some a0/\getV b (x.args.getD 1 0)=some a1/\mTwo x.op a0 a1=(z,true))):=by
  unfold KeyE z2h
  by_cases k3:x.kind=3
  · rw [if_pos (by simp [k3])]
    dsimp only
    constructor
    · rintro (⟨h,_⟩ | ⟨h,e⟩ | ⟨h,_⟩)
      · omega
      · exact .inr (.inl ⟨k3,e⟩)
      · omega
    · rintro (⟨h,_⟩ | ⟨h,e⟩ | ⟨h,_⟩)
      · omega
      · exact .inr (.inl ⟨k3,e⟩)
      · omega
  rw [if_neg (by simpa using k3)]
  by_cases k4:x.kind=4
  · rw [if_pos (by simp [k4])]
    split
    · rename_i ht
      simp only [Bool.and_eq_true] at ht
      dsimp only
      constructor
      · rintro (⟨h,_⟩ | ⟨h,_⟩ | ⟨_,a0,a1,g,g',e⟩)
        · omega
        · omega
        · exact .inr (.inr ⟨k4,a1,a0,g',g,by rw [y15 ht.1];exact e⟩)
      · rintro (⟨h,_⟩ | ⟨h,_⟩ | ⟨_,a0,a1,g,g',e⟩)
        · omega
        · omega
        · exact .inr (.inr ⟨k4,a1,a0,g',g,by rw [y15 ht.1];exact e⟩)
    · exact Iff.rfl
  · rw [if_neg (by simpa using k4)]
    dsimp only
    have k12:x.kind=1∨x.kind=2:=by omega
    constructor
    · rintro (h | ⟨h,_⟩ | ⟨h,_⟩)
      · exact .inl h
      · omega
      · omega
    · rintro (h | ⟨h,_⟩ | ⟨h,_⟩)
      · exact .inl h
      · omega
      · omega
theorem yk5 {X:Nd} {b p:List Int} {a0 a1:Int} (hp:mOf b X.args=some p) (h0:p[0]? = some a0) (h1:p[1]? = some a1):getV b (X.args.getD 0 0)=some a0/\getV b (X.args.getD 1 0)=some a1:=by
  obtain ⟨v0,g0,e0⟩:=y29 hp h0
  obtain ⟨v1,g1,e1⟩:=y29 hp h1
  rw [at0_D g0,at1_D g1]
  exact ⟨e0,e1⟩
theorem y65 {nums:TT} {v:Int} {q:Int->Bool} (h:y3a nums v q=true):∃ m,aGet v nums=some m/\q m=true:=by
  unfold y3a at h
  split at h
  ·exact ⟨_,by assumption,h⟩
  cases h
theorem y5z {tb:Tb} {X:Nd} {y:Int} {b p:List Int} (hk:X.kind=1∨X.kind=2∨X.kind=3∨X.kind=4) (hd:z2d tb.nums X=some y∨aGet (z2h X) tb.seen=some y) (hT:TabV tb b) (h64:P64 b) (hp:mOf b X.args=some p) :
    (∀ z,za0 X p=some z->getV b y=some z)/\(X.kind=4->∀ a0 a1,p[0]? = some a0->p[1]? = some a1->(mTwo X.op a0 a1).2=true):=by
  have four:X.kind=4->∀ z,za0 X p=some z->∃ a0 a1,p[0]? = some a0/\p[1]? = some a1/\(mTwo X.op a0 a1).1=z:=fun h4 z hz=>by
    unfold za0 at hz
    rw [if_neg oM0,if_neg oM0] at hz
    simp only [Option.bind_eq_some_iff,Option.map_eq_some_iff] at hz
    obtain ⟨a0,h0,a1,h1,h2⟩:=hz
    exact ⟨a0,a1,h0,h1,h2⟩
  have done:X.kind=4->(∀ a0 a1,p[0]? = some a0->p[1]? = some a1->∃ z,getV b y=some z/\mTwo X.op a0 a1=(z,true)) ->
      (∀ z,za0 X p=some z->getV b y=some z)/\(X.kind=4->∀ a0 a1,p[0]? = some a0->p[1]? = some a1->(mTwo X.op a0 a1).2=true):=fun h4 h=>by
    refine ⟨fun z hz=>?_,fun _ a0 a1 h0 h1=>?_⟩
    ·obtain ⟨a0,a1,h0,h1,h2⟩:=four h4 z hz
     obtain ⟨z',e1,e2⟩:=h a0 a1 h0 h1
     rw [e2] at h2
     rw [e1,<- h2]
    obtain ⟨z',e1,e2⟩:=h a0 a1 h0 h1
    rw [e2]
  rcases hd with hd | hd
  ·unfold z2d at hd
   split at hd
   ·cases hd
   rename_i h4
   have h4:X.kind=4:=by simpa using h4
   refine done h4 fun a0 a1 h0 h1=>?_
   obtain ⟨e0,e1⟩:=yk5 hp h0 h1
   split at hd
   ·rename_i hh
    cases hd
    obtain ⟨m,g1,g2⟩:=y65 hh
    have:=hT.2 _ _ g1
    rw [e1] at this
    cases this
    exact ⟨a0,e0,y2p g2 (h64 a0 (y02 e0))⟩
   split at hd
   ·rename_i hh
    cases hd
    obtain ⟨m,g1,g2⟩:=y65 hh
    simp only [Bool.and_eq_true] at g2
    have:=hT.2 _ _ g1
    rw [e0] at this
    cases this
    exact ⟨a1,e1,by rw [y15 g2.1];exact y2p g2.2 (h64 a1 (y02 e1))⟩
   cases hd
  obtain ⟨z',e1,e2⟩:=hT.1 _ _ hd
  rcases (y67 hp hk).1 e2 with ⟨k12,rfl⟩ | ⟨k3,a0,g,rfl⟩ | ⟨k4,a0,a1,g,g',e⟩
  ·refine ⟨fun z hz=>?_,fun h4=>by omega⟩
   unfold za0 at hz
   rw [if_pos k12] at hz
   cases hz
   exact e1
  ·refine ⟨fun z hz=>?_,fun h4=>by omega⟩
   unfold za0 at hz
   rw [if_neg oM0,if_pos k3] at hz
   obtain ⟨c0,h0,rfl⟩:=Option.map_eq_some_iff.1 hz
   obtain ⟨v0,g0,e0⟩:=y29 hp h0
   rw [at0_D g0,e0] at g
   cases g
   exact e1
  refine done k4 fun c0 c1 h0 h1=>?_
  obtain ⟨q0,q1⟩:=yk5 hp h0 h1
  rw [q0] at g;cases g
  rw [q1] at g';cases g'
  exact ⟨z',e1,e⟩
theorem y46 {l:List Int} {i:Nat} (h:i<l.length):l.getD i 0∈l:=by rw [List.getD_eq_getElem?_getD,List.getElem?_eq_getElem h];exact List.getElem_mem h
theorem key_in {X:Nd} {S:List Int} (ha:∀ v∈X.args,v∈S) (h3:X.kind=3->1<=X.args.length) (h4:X.kind=4->2<=X.args.length):((z2h X).kind=3->(z2h X).a∈S)/\((z2h X).kind=4->(z2h X).a∈S/\(z2h X).b∈S):=by
  have hk:=(y68 X).1
  rw [hk]
  refine ⟨fun k3=>?_,fun k4=>?_⟩
  ·unfold z2h
   rw [if_pos (by simp [k3])]
   exact ha _ (y46 (h3 k3))
  have m0:=ha _ (y46 (show 0<X.args.length by have:=h4 k4;omega))
  have m1:=ha _ (y46 (show 1<X.args.length by have:=h4 k4;omega))
  unfold z2h
  rw [if_neg (by simp [k4]),if_pos (by simp [k4])]
  split
  ·exact ⟨m1,m0⟩
  exact ⟨m0,m1⟩
def ze4 (tb:Tb) (X:Nd) (o:Int):Tb:=⟨aPut (z2h X) o tb.seen,if X.kind==1 then aPut o X.n tb.nums else tb.nums⟩
theorem zy0 {tb:Tb} {to:TT} {X:Nd} {o:Int} (ho:X.outs=[o]) :
    (∃ y,z1w tb to X=(false,tb,aPut o y to)/\(z2d tb.nums X=some y∨aGet (z2h X) tb.seen=some y))∨(z1w tb to X=(true,ze4 tb X o,to)/\aGet (z2h X) tb.seen=none):=by
  unfold z1w ze4
  rw [ho]
  cases hp:z2d tb.nums X with
  | some y=>exact .inl ⟨y,rfl,.inl rfl⟩
  | none =>
    cases hs:aGet (z2h X) tb.seen with
    | some y=>exact .inl ⟨y,rfl,.inr rfl⟩
    | none=>exact .inr ⟨rfl,rfl⟩
theorem kept_le {tb:Tb} {X:Nd} {o:Int} {S:List Int} (hi:TabIn tb S) (ho:o∉S) (hs:aGet (z2h X) tb.seen=none):TabLe tb (ze4 tb X o):=by
  refine ⟨fun k y hk=>?_,fun v m hv=>?_⟩
  ·show aGet k (aPut (z2h X) o tb.seen)=some y
   rw [z3c]
   split
   ·rename_i e;subst e;rw [hs] at hk;cases hk
   exact hk
  show aGet v (if X.kind==1 then aPut o X.n tb.nums else tb.nums)=some m
  split
  ·rw [z3c]
   split
   ·rename_i e;subst e;exact absurd (hi.2 _ _ hv) ho
   exact hv
  exact hv
theorem kept_in {tb:Tb} {X:Nd} {o:Int} {S:List Int} (hi:TabIn tb S) (ha:∀ v∈X.args,v∈S) (h3:X.kind=3->1<=X.args.length) (h4:X.kind=4->2<=X.args.length):TabIn (ze4 tb X o) (S++[o]):=by
  have hm:=hi.mono (T:=S++[o]) fun v hv=>List.mem_append_left _ hv
  have mo:o∈S++[o]:=by simp
  refine ⟨fun k y hk=>?_,fun v m hv=>?_⟩
  ·have hk:aGet k (aPut (z2h X) o tb.seen)=some y:=hk
   rw [z3c] at hk
   split at hk
   ·rename_i e
    cases hk
    subst e
    have:=key_in (S:=S++[o]) (fun v hv=>List.mem_append_left _ (ha v hv)) h3 h4
    exact ⟨mo,this⟩
   exact hm.1 k y hk
  have hv:aGet v (if X.kind==1 then aPut o X.n tb.nums else tb.nums)=some m:=hv
  split at hv
  ·rw [z3c] at hv
   split at hv
   ·rename_i e;subst e;exact mo
   exact hm.2 v m hv
  exact hm.2 v m hv
theorem kept_val {tb:Tb} {X:Nd} {o z:Int} {S b b2 p:List Int} (hk:X.kind=1∨X.kind=2∨X.kind=3∨X.kind=4) (hT:TabV tb b) (hi:TabIn tb S) (ho:o∉S) (ha:∀ v∈X.args,v∈S) (h3:X.kind=3->1<=X.args.length) (h4:X.kind=4->2<=X.args.length)
    (hp:mOf b X.args=some p) (hs:setV b o z=some b2) (hz:((X.kind=1∨X.kind=2)/\z=X.n)∨(X.kind=3/\∃ a0,p[0]? = some a0/\z=mOne X.op a0)∨(X.kind=4/\∃ a0 a1,p[0]? = some a0/\p[1]? = some a1/\mTwo X.op a0 a1=(z,true))):TabV (ze4 tb X o) b2:=by
  have he:∀ v∈S,getV b2 v=getV b v:=fun v hv=>by
    have hne:v≠o:=fun e=>ho (e ▸ hv)
    rw [z7r hs,if_neg hne]
  have h0:getV b2 o=some z:=by rw [z7r hs,if_pos rfl]
  have hold:=hT.keep hi he
  refine ⟨fun k y hk2=>?_,fun v m hv=>?_⟩
  ·have hk2:aGet k (aPut (z2h X) o tb.seen)=some y:=hk2
   rw [z3c] at hk2
   split at hk2
   ·rename_i e
    cases hk2
    subst e
    obtain ⟨i1,i2⟩:=key_in ha h3 h4
    refine ⟨z,h0,KeyE.keep ((y67 hp hk).2 ?_) i1 i2 he⟩
    rcases hz with h | ⟨k3,a0,g,e⟩ | ⟨k4,a0,a1,g,g',e⟩
    ·exact .inl h
    ·obtain ⟨v0,g0,e0⟩:=y29 hp g
     exact .inr (.inl ⟨k3,a0,by rw [at0_D g0];exact e0,e⟩)
    obtain ⟨q0,q1⟩:=yk5 hp g g'
    exact .inr (.inr ⟨k4,a0,a1,q0,q1,e⟩)
   exact hold.1 k y hk2
  have hv2:aGet v (if X.kind==1 then aPut o X.n tb.nums else tb.nums)=some m:=hv
  by_cases k1:X.kind=1
  ·rw [if_pos (by simp [k1]),z3c] at hv2
   by_cases e:v=o
   ·rw [if_pos e] at hv2
    rw [e,h0,<- Option.some.inj hv2]
    rcases hz with ⟨_,rfl⟩ | ⟨k3,_⟩ | ⟨k4,_⟩
    ·rfl
    ·omega
    omega
   rw [if_neg e] at hv2
   exact hold.2 v m hv2
  rw [if_neg (by simpa using k1)] at hv2
  exact hold.2 v m hv2
def IS (to:TT) (S:List Int) (tb:Tb) (a b:List Int):Prop:=EqT to S a b/\P64 b/\TabV tb b
def SE (t0:TT) (S0 S1:List Int) (tb0 tb1:Tb) (y lv:Bool):ER:=fun n p p' a b =>
  P64 p/\p'=p/\((n=12/\y=true/\IS t0 S0 tb0 a b)∨(n=13/\IS t0 S1 tb1 a b)∨(n=14/\lv=true/\IS t0 S1 tb1 a b)∨n=15)
theorem IS.sets {to:TT} {S S' l p a b a2 b2:List Int} {tb:Tb} (h:IS to S tb a b) (hp:P64 p) (g:mSet a l p=some a2) (g':mSet b l p=some b2) (hs:∀ v∈S,z0x to v∉l) (hl:∀ v∈l,aGet v to=none) (hi:TabIn tb S') (hd:∀ v∈S',v∉l):IS to (S++l) tb a2 b2 :=
  ⟨h.1.sets g g' hs hl,h.2.1.sets hp g',h.2.2.keep hi fun v hv=>zn2 g' (hd v hv)⟩
theorem IS.seto {to:TT} {S S' outs a b a2 b2:List Int} {y:Int} {tb:Tb} (h:IS to S tb a b) (hy:I64 y) (ho:outs.length<=1) (g:setO outs a y a2) (g':setO outs b y b2) (hs:∀ v∈S,z0x to v∉outs) (hl:∀ v∈outs,aGet v to=none) (hi:TabIn tb S') (hd:∀ v∈S',v∉outs):IS to (S++outs) tb a2 b2 :=
  ⟨h.1.seto ho g g' hs hl,h.2.1.seto hy g',h.2.2.keep hi fun v hv=>y0x g' (hd v hv)⟩
theorem IS.to {to to':TT} {S S' a b:List Int} {tb tb':Tb} (h:IS to S tb a b) (hc:∀ v∈S',v∈S/\z0x to v=z0x to' v) (hl:TabLe tb' tb):IS to' S' tb' a b:=⟨h.1.sub hc,h.2.1,h.2.2.le hl⟩
def n64 (n:Int):Bool:=decide (-9223372036854775808<=n)&&decide (n<=9223372036854775807)
mutual
def nIN:Nd->Bool
  | .mk _ _ n _ _ _ _ ks=>n64 n&&nIK ks
def nIL:List Nd->Bool
  | []=>true
  | x::r=>nIN x&&nIL r
def nIK:List (List Nd)->Bool
  | []=>true
  | l::r=>nIL l&&nIK r
end
theorem yd2 (x:Nd):nIN x=(n64 x.n&&nIK x.kids):=by cases x;simp [nIN,Nd.n,Nd.kids]
theorem n64_I {n:Int} (h:n64 n=true):I64 n:=by
  simp only [n64,Bool.and_eq_true,decide_eq_true_eq] at h
  exact h
def SNd (u:Un) (f:Fl) (x:Nd):Prop:=∀ (deep:Int) (w:Wh) (all all':List Int) (tb:Tb) (to:TT),New f (dN x) all all' to->TabOk f.types tb all'->TabIn tb all'->z4g u f deep w all x=true->nIN x=true ->
  ∀ (r R':List Nd) (t0:TT) (S0 S1:List Int) (tb0 tb1:Tb) (y lv:Bool),Ends t0 to S0 S1 all->TabLe tb0 tb->TabLe tb1 tb->(x.kind=12->y=true)->(z1f x=true->lv=true) ->
  (z01 x=false->LRel 0 0 (IS (z02 tb to x).2.2 (all++x.outs) (z02 tb to x).2.1) r [] R' (SE t0 S0 S1 tb0 tb1 y lv))->(z01 x=true->r=[]/\R'=[])->LRel 0 0 (IS to all tb) (x::r) [] ((z02 tb to x).1++R') (SE t0 S0 S1 tb0 tb1 y lv)
def SA (u:Un) (f:Fl) (l:List Nd):Prop:=∀ (deep:Int) (w:Wh) (all all':List Int) (tb:Tb) (to:TT),l≠[]->New f (dL l) all all' to->TabOk f.types tb all'->TabIn tb all'->vGo u f deep w all l=true->nIL l=true ->
  ∀ (t0:TT) (S0 S1:List Int) (tb0 tb1:Tb) (y lv:Bool),Ends t0 to S0 S1 all->TabLe tb0 tb->TabLe tb1 tb->(z1o l=12->y=true)->(z0l l=true->lv=true)->LRel 0 0 (IS to all tb) l [] (z0e tb to l).1 (SE t0 S0 S1 tb0 tb1 y lv)
theorem y6j {f:Fl} {D all all':List Int} {to:TT} (nw:New f D all all' to) {x:Nd} (h:∀ v∈x.args,v∈all):∀ v∈x.args.map (z0x to),v∈all':=fun v hv=>by
  obtain ⟨q,hq,rfl⟩:=List.mem_map.1 hv
  have h1:=nw.inr q (h q hq)
  exact List.contains_iff_mem.1 (nw.rel q (List.contains_iff_mem.2 (h q hq)) h1.1 h1.2).1
theorem pure_s (u:Un) (f:Fl) (x:Nd) (hK:stK x.kind=true):SNd u f x:=by
  intro deep w all all' tb to nw hto hi hv hn r R' t0 S0 S1 tb0 tb1 y lv he hl0 hl1 h12 hlv hL hC
  have hkk:x.kind=1∨x.kind=2∨x.kind=3∨x.kind=4:=by simp only [stK,Bool.or_eq_true,beq_iff_eq] at hK;omega
  have hok:=z3p u f x deep w all hv
  rw [z9w] at hok
  simp only [Bool.and_eq_true] at hok
  have hb:=z29 u f deep _ all hv
  have e10:(x.kind==10)=false:=by simp;omega
  have e11:(x.kind==11)=false:=by simp;omega
  have hk0:x.kids=[]:=z50 hb e10 e11
  have e2:(z0g tb to x.kids).2=to:=by rw [hk0];simp [z0g]
  have hcl:z01 x=false:=by
    cases hc:z01 x with
    | false=>rfl
    | true=>rw [z7p hc] at hK;cases hK
  rw [z17 u f deep w all hb e10 e11] at hv
  obtain ⟨a1,ho1,a3,a4,a5⟩:=z89 hv
  obtain ⟨o,ho,_⟩:=zn8 hK hv
  have hLr:=hL hcl
  have hod:o∈dN x:=by rw [zz8,ho];simp
  have hoa:o∉all:=nw.na hod
  have hob:o∉all':=nw.fb o hod
  have hXk:(z0j tb to x).kind=x.kind:=rfl
  have hXp:(z0j tb to x).op=x.op:=rfl
  have hXo:(z0j tb to x).outs=[o]:=ho
  have hXa:(z0j tb to x).args=x.args.map (z0x to):=rfl
  have hargs:∀ v∈(z0j tb to x).args,v∈all':=y6j nw a1
  have l3:(z0j tb to x).kind=3->1<=(z0j tb to x).args.length:=fun h=>by
    have h:x.kind=3:=h
    have:=hok.1.1.2
    rw [h] at this
    rw [hXa,List.length_map];simpa using this
  have l4:(z0j tb to x).kind=4->2<=(z0j tb to x).args.length:=fun h=>by
    have h:x.kind=4:=h
    have:=hok.1.2
    rw [h] at this
    rw [hXa,List.length_map];simpa using this
  have hof:∀ {a b q:List Int},IS to all tb a b->mOf a x.args=some q->mOf b (z0j tb to x).args=some q:=fun {a b q} hI g=>by rw [hXa,hI.1.mof a1];exact g
  have hEv:∀ q,za0 (z0j tb to x) q=za0 x q:=fun q=>rfl
  have hm:x.kind≠4->HL x:=fun h4=>(a3 (by unfold za6;rcases hkk with e | e | e | e<;>simp [e]<;>omega)).1
  rw [z4w,if_pos hK,e2] at hLr ⊢
  rcases zy0 (tb:=tb) (to:=to) hXo with ⟨y1,hp,hd⟩ | ⟨hp,hs⟩
  ·rw [hp,ho] at hLr
   rw [hp]
   show LRel 0 0 (IS to all tb) (x::r) [] R' _
   have step:∀ a b a2,IS to all tb a b->hRun x a a2->IS (aPut o y1 to) (all++[o]) tb a2 b:=fun a b a2 hI ha=>by
     obtain ⟨q,z,o1,g1,g2,g3,g4⟩:=ha
     rw [ho] at g3
     obtain rfl:o=o1:=by simpa using g3
     have hy:=(y5z (X:=z0j tb to x) hkk hd hI.2.2 hI.2.1 (hof hI g1)).1 z (by rw [hEv];exact g2)
     refine ⟨fun v hv=>?_,hI.2.1,hI.2.2⟩
     rw [z7r g4]
     by_cases e:v=o
     ·subst e
      rw [if_pos rfl]
      have:z0x (aPut v y1 to) v=y1:=by unfold z0x;rw [z3c,if_pos rfl];rfl
      rw [this];exact hy
     rw [if_neg e]
     have:z0x (aPut o y1 to) v=z0x to v:=by unfold z0x;rw [z3c,if_neg e]
     rw [this]
     exact hI.1 v ((List.mem_append.1 hv).resolve_right fun h=>e (List.mem_singleton.1 h))
   by_cases h4:x.kind=4
   ·exact .drop h4 (by rw [ho];simp) (fun a b p a0 a1 hI g g0 g1=>(y5z (X:=z0j tb to x) hkk hd hI.2.2 hI.2.1 (hof hI g)).2 h4 a0 a1 g0 g1) step hLr
   exact .skip (hm h4) step hLr
  rw [hp,ho] at hLr
  rw [hp]
  show LRel 0 0 (IS to all tb) (x::r) [] (z0j tb to x::R') _
  have hso:∀ v∈all,z0x to v∉[o]:=fun v hv h=>nw.stv v hv o hod (List.mem_singleton.1 h)
  have hlo:∀ v∈[o],aGet v to=none:=fun v hv=>nw.ft v (by rw [List.mem_singleton.1 hv];exact hod)
  have step:∀ {a b a2 b2 q:List Int} {z:Int},IS to all tb a b->mOf b (z0j tb to x).args=some q->I64 z->setV a o z=some a2->setV b o z=some b2 ->
      (((z0j tb to x).kind=1∨(z0j tb to x).kind=2)/\z=(z0j tb to x).n)∨((z0j tb to x).kind=3/\∃ a0,q[0]? = some a0/\z=mOne (z0j tb to x).op a0)∨((z0j tb to x).kind=4/\∃ a0 a1,q[0]? = some a0/\q[1]? = some a1/\mTwo (z0j tb to x).op a0 a1=(z,true)) ->
      IS to (all++[o]) (ze4 tb (z0j tb to x) o) a2 b2:=fun {a b a2 b2 q z} hI g hz g1 g2 hh =>
    ⟨hI.1.seto (outs:=[o]) sI0 g1 g2 hso hlo,hI.2.1.set hz g2,kept_val (X:=z0j tb to x) hkk hI.2.2 hi hob hargs l3 l4 g g2 hh⟩
  by_cases h4:x.kind=4
  ·refine .eff (J:=IS to (all++[o]) (ze4 tb (z0j tb to x) o)) oM0 rfl rfl rfl rfl (fun a b p hI g=>hI.2.1.of (hof hI g)) (fun a b p p' hI g g'=>?_) (fun a b p a2 b2 z hI g hz htw s1 s2=>?_) hLr
   ·rw [hof hI g] at g';exact (Option.some.inj g').symm
   rw [ho] at s1
   rw [hXo] at s2
   exact step hI g hz s1 s2 (.inr (.inr ⟨h4,htw h4⟩))
  have hHL:=hm h4
  have hHL':HL (z0j tb to x):=hHL
  refine .both (J:=IS to (all++[o]) (ze4 tb (z0j tb to x) o)) hHL hHL' (Nat.le_refl _) (fun a b a2' b2' hI ha hb2=>?_) hLr
  obtain ⟨q,z,o1,g1,g2,g3,g4⟩:=ha
  obtain ⟨q',z',o1',g1',g2',g3',g4'⟩:=hb2
  rw [hof hI g1] at g1'
  cases g1'
  rw [hEv,g2] at g2'
  cases g2'
  rw [ho] at g3
  obtain rfl:o=o1:=by simpa using g3
  rw [hXo] at g3'
  obtain rfl:o=o1':=by simpa using g3'
  have hn1:I64 x.n:=by rw [yd2,Bool.and_eq_true] at hn;exact n64_I hn.1
  unfold za0 at g2
  by_cases k12:x.kind=1∨x.kind=2
  ·rw [if_pos k12] at g2
   cases g2
   exact step hI (hof hI g1) hn1 g4 g4' (.inl ⟨k12,rfl⟩)
  have k3:x.kind=3:=by omega
  rw [if_neg k12,if_pos k3] at g2
  obtain ⟨a0,h0,rfl⟩:=Option.map_eq_some_iff.1 g2
  exact step hI (hof hI g1) (y2k _ _) g4 g4' (.inr (.inl ⟨k3,a0,h0,rfl⟩))
theorem y6g {x:Nd} {l:List Nd} (h:l≠[]):z1o (x::l)=z1o l:=by
  cases l with
  | nil=>exact absurd rfl h
  | cons y r=>simp [z1o,List.getLast?_cons_cons]
theorem y6a (x:Nd):z1o [x]=if z0u x.kind then x.kind else 0:=by simp [z1o]
def NEnd (w:Wh) (x:Nd) (r:Rres):Prop:=(r.1.1=0/\z01 x=false)∨EOk w (x.kind==12) (z1f x) r
def LTot (u:Un) (n:Nat) (B M:Int) (d:Nat):Prop:=∀ f deep w seen l a s,l≠[]->vGo u f deep w seen l=true->a.length=f.types.length->Inv n B M s->3*s.fuel+1<=(d:Int) ->
  ∃ r,z1x u d l a s=some r/\Inv n B M r.2.2/\(Live r.2.2->r.2.2.fuel<s.fuel/\EOk w (z1o l==12) (z0l l) r)
def PTot (u:Un) (n:Nat) (B M:Int) (d:Nat):Prop:=∀ f deep x q seen a p s,x.kids=[q]->q≠[]->vGo u f deep (w2 f x) seen q=true->inR f.types.length x.params->inR f.types.length x.outs->p.length=x.params.length->a.length=f.types.length->Inv n B M s->3*s.fuel+2<=(d:Int) ->
  ∃ r,z39 u d x a p s=some r/\Inv n B M r.2.2/\(Live r.2.2->(r.1.1=0/\z0l q=true)∨(r.1.1=15/\r.1.2.length=1))
def CTot (u:Un) (n:Nat) (B M:Int) (d:Nat):Prop:=∀ k p s,0<=k->(∃ g,u.flows[k.toNat]? = some g/\(p.length:Int)=g.params)->Inv n B M s->3*s.fuel+2<=(d:Int)->∃ r,z3t u d k p s=some r/\Inv n B M r.2
def STot (u:Un) (n:Nat) (B M:Int) (d:Nat):Prop:=∀ x p s,SumOk u x p.length->InvS n B M s->3*s.fuel+3<=(d:Int)->∃ r,mSum u d x p s=some r/\Inv n B M r.2
theorem node_tot {u:Un} {n:Nat} {B M:Int} (hB:B<=4611686018427387903) (hv:∀ g∈u.flows,VF u g) {d:Nat} (i1:LTot u n B M d) (i2:PTot u n B M d) (i4:STot u n B M d)
    {f:Fl} {deep:Int} {w:Wh} {seen:List Int} {x:Nd} {a:List Int} {s:Rs} (hx:z4g u f deep w seen x=true) (ha:a.length=f.types.length) (hl:Live s) (hi:Inv n B M s) (hf:1<=s.fuel) (hd:3*s.fuel+1<=((d+1:Nat):Int)) :
    ∃ p r,mOf a x.args=some p/\z4q (z1x u d) (z39 u d) (mSum u d) x p a (dec s)=some r/\Inv n B M r.2.2/\(Live r.2.2->r.2.2.fuel<s.fuel/\NEnd w x r):=by
  have hb:=z29 u f deep w seen hx
  have hiS:InvS n B M (dec s):=⟨(z3w hi.ok hf).1,(z3w hi.ok hf).2,by have:=hi.out;show (s.out.length:Int)+(s.fuel - 1)+1<=M;omega,hi.ar⟩
  have hi1:Inv n B M (dec s):=⟨hiS.ok,by have:=hiS.out;omega,hiS.ar⟩
  have hdf:(dec s).fuel=s.fuel - 1:=rfl
  have ne:∀ {i:Int},x.kind≠i->(x.kind==i)=false:=fun h=>beq_eq_false_iff_ne.2 h
  by_cases h10:x.kind=10
  ·obtain ⟨q0,q1,hk⟩:=z2x hb h10
   rw [z4x u f deep w seen hb h10 hk] at hx
   simp only [Bool.and_eq_true,z36] at hx
   obtain ⟨⟨⟨⟨v1,v2⟩,v3⟩,v4⟩,v5⟩:=hx
   obtain ⟨t1,t2⟩:=zg5 v1
   have hou:=z2e v5
   obtain ⟨p,hp,hpl⟩:=y08 (a:=a) (l:=x.args) (by rw [ha];exact t2)
   obtain ⟨c,hc⟩:=zl1 (p:=p) (i:=0) (by rw [hpl,t1];decide)
   have hq:∃ q,x.kids[if c != 0 then 0 else 1]? = some q/\q≠[]/\vGo u f (deep+1) (w1 w f x) seen q=true/\(q=q0∨q=q1):=by
     rw [hk]
     by_cases hc0:(c != 0)=true
     ·rw [if_pos hc0];exact ⟨q0,rfl,by simpa using v2.1,v2.2,.inl rfl⟩
     rw [if_neg hc0];exact ⟨q1,rfl,by simpa using v3.1,v3.2,.inr rfl⟩
   obtain ⟨q,hq1,hq2,hq3,hq4⟩:=hq
   obtain ⟨r2,g1,g2,g3⟩:=i1 f (deep+1) (w1 w f x) seen q a (dec s) hq2 hq3 ha hi1 (by rw [hdf];omega)
   have hlen:=z7a g1
   have hlv:z0l q=true->z1f x=true:=fun h=>by
     rw [z2n,h10,hk]
     rcases hq4 with rfl | rfl<;>simp [z2b,h]
   have hcl:z1o q=12->z01 x=false:=fun h=>by
     rcases hq4 with rfl | rfl<;>simp [z01,h10,hk,kid0,kid1,h]
   by_cases hov:z14 r2.2.2=true
   ·refine ⟨p,r2,hp,?_,g2,fun h=>by rw [z0r h] at hov;cases hov⟩
    unfold z4q
    simp only [h10,show ((10:Int)==1)=false from rfl,show ((10:Int)==2)=false from rfl,show ((10:Int)==12)=false from rfl,show ((10:Int)==13)=false from rfl,show ((10:Int)==14)=false from rfl,show ((10:Int)==15)=false from rfl,show ((10:Int)==10)=true from rfl,Bool.or_self,Bool.false_eq_true,if_false,if_true,hc,Option.bind_some,hq1,g1,hov,Bool.not_true,Bool.false_and]
   have hov':z14 r2.2.2=false:=by simpa using hov
   have hL2:=z6z.1 hov'
   obtain ⟨e1,e2⟩:=g3 hL2
   by_cases h12:r2.1.1=12
   ·rcases e2 with ⟨_,e3,_,e4⟩ | ⟨e3,_⟩ | ⟨e3,_⟩ | ⟨e3,_⟩
    ·rw [show (w1 w f x).Yield=r8of f.types x.outs from rfl,zn9 hou] at e4
     obtain ⟨a2,h2⟩:=zn3 (l:=x.outs) (p:=r2.1.2) (a:=r2.2.1) (by rw [hlen,ha];exact hou) e4
     refine ⟨p,((0,[]),a2,r2.2.2),hp,?_,g2,fun _=>⟨by show r2.2.2.fuel<s.fuel;have:=hdf;omega,.inl ⟨rfl,hcl (by simpa using e3)⟩⟩⟩
     unfold z4q
     simp only [h10,show ((10:Int)==1)=false from rfl,show ((10:Int)==2)=false from rfl,show ((10:Int)==12)=false from rfl,show ((10:Int)==13)=false from rfl,show ((10:Int)==14)=false from rfl,show ((10:Int)==15)=false from rfl,show ((10:Int)==10)=true from rfl,Bool.or_self,Bool.false_eq_true,if_false,if_true,hc,Option.bind_some,hq1,g1,hov',h12,Bool.not_false,Bool.true_and,show ((12:Int)==12)=true from rfl,h2,Option.map_some]
    ·rw [h12] at e3;exact absurd e3 dC0
    ·rw [h12] at e3;exact absurd e3 dC0
    rw [h12] at e3;exact absurd e3 dC0
   refine ⟨p,r2,hp,?_,g2,fun _=>⟨by have:=hdf;omega,.inr ?_⟩⟩
   ·unfold z4q
    have hc12:(!false&&r2.1.1==12)=false:=by simpa using h12
    simp only [h10,show ((10:Int)==1)=false from rfl,show ((10:Int)==2)=false from rfl,show ((10:Int)==12)=false from rfl,show ((10:Int)==13)=false from rfl,show ((10:Int)==14)=false from rfl,show ((10:Int)==15)=false from rfl,show ((10:Int)==10)=true from rfl,Bool.or_self,Bool.false_eq_true,if_false,if_true,hc,Option.bind_some,hq1,g1,hov',hc12]
   rcases e2 with ⟨e3,_⟩ | e3 | ⟨e3,e4,e5⟩ | e3
   ·exact absurd e3 h12
   ·exact .inr (.inl e3)
   ·exact .inr (.inr (.inl ⟨e3,hlv e4,e5⟩))
   exact .inr (.inr (.inr e3))
  by_cases h11:x.kind=11
  ·obtain ⟨q,hk⟩:=z1u hb h11
   rw [z37 u f deep w seen hb h11 hk] at hx
   simp only [Bool.and_eq_true,z36] at hx
   obtain ⟨⟨⟨⟨v1,v2⟩,v3⟩,v4⟩,v5⟩:=hx
   obtain ⟨t1,t2⟩:=zg5 v1
   have hpi:=z2e v2
   rw [zn9 hpi] at t1
   obtain ⟨p,hp,hpl⟩:=y08 (a:=a) (l:=x.args) (by rw [ha];exact t2)
   obtain ⟨r,g1,g2,g3⟩:=i2 f (deep+1) x q _ a p (dec s) hk (by simpa using v3.1) v3.2 hpi (z2e v5) (by rw [hpl,t1]) ha hi1 (by rw [hdf];omega)
   refine ⟨p,r,hp,?_,g2,fun hL=>⟨?_,?_⟩⟩
   ·unfold z4q
    simp only [h11,show ((11:Int)==1)=false from rfl,show ((11:Int)==2)=false from rfl,show ((11:Int)==12)=false from rfl,show ((11:Int)==13)=false from rfl,show ((11:Int)==14)=false from rfl,show ((11:Int)==15)=false from rfl,show ((11:Int)==10)=false from rfl,show ((11:Int)==11)=true from rfl,Bool.or_self,Bool.false_eq_true,if_false,if_true,g1]
   ·have:=(zd8 hB g1 hi1.ok).fuel;omega
   rcases g3 hL with ⟨e1,e2⟩ | ⟨e1,e2⟩
   ·exact .inl ⟨e1,by simp [z01,h11,hk,kid0,e2]⟩
   exact .inr (.inr (.inr (.inr ⟨e1,e2⟩)))
  rw [z17 u f deep w seen hb (ne h10) (ne h11)] at hx
  obtain ⟨s1,s2,s3,s4,s12,s13,s14,s15⟩:=smp_ok hv hx
  obtain ⟨p,hp,hpl⟩:=y08 (a:=a) (l:=x.args) (by rw [ha];exact s2)
  have cl:z01 x=z0u x.kind:=by unfold z01;rw [ne h10,ne h11];rfl
  by_cases h1:x.kind=1∨x.kind=2
  ·have ho:=s4 h1
   obtain ⟨o,os,he⟩:∃ o os,x.outs=o::os:=by cases hxo:x.outs with
     | nil=>exact absurd hxo ho
     | cons o os=>exact ⟨o,os,rfl⟩
   obtain ⟨a2,h2⟩:=y0y (a:=a) (i:=o) (y:=x.n) (by rw [ha];exact s1 o (by rw [he];exact .head _))
   refine ⟨p,((0,[]),a2,dec s),hp,?_,hi1,fun _=>⟨by show s.fuel - 1<s.fuel;omega,.inl ⟨rfl,?_⟩⟩⟩
   ·unfold z4q
    rw [if_pos (by rcases h1 with h1 | h1<;>rw [h1]<;>rfl),he]
    simp only [List.getElem?_cons_zero,Option.bind_some,h2,Option.map_some]
   rw [cl];rcases h1 with h1 | h1<;>rw [h1]<;>rfl
  have n1:(x.kind==1||x.kind==2)=false:=by rw [Bool.or_eq_false_iff];exact ⟨ne fun h=>h1 (.inl h),ne fun h=>h1 (.inr h)⟩
  by_cases hE:12<=x.kind/\x.kind<=15
  ·refine ⟨p,((x.kind,p),a,dec s),hp,?_,hi1,fun _=>⟨by show s.fuel - 1<s.fuel;omega,.inr ?_⟩⟩
   ·unfold z4q
    rw [n1,if_neg dC0,if_pos (by rcases (show x.kind=12∨x.kind=13∨x.kind=14∨x.kind=15 by omega) with e | e | e | e<;>rw [e]<;>rfl)]
   rcases (show x.kind=12∨x.kind=13∨x.kind=14∨x.kind=15 by omega) with e | e | e | e
   ·exact .inl ⟨e,by rw [e];rfl,(s12 e).1,by rw [<- (s12 e).2];exact hpl⟩
   ·exact .inr (.inl ⟨e,by rw [<- s13 e];exact hpl⟩)
   ·exact .inr (.inr (.inl ⟨e,by rw [z2n,e];rfl,by rw [<- s14 e];exact hpl⟩))
   exact .inr (.inr (.inr ⟨e,by rw [<- s15 e];exact hpl⟩))
  have n2:(x.kind==12||x.kind==13||x.kind==14||x.kind==15)=false:=by simp;omega
  obtain ⟨q,g1,g2⟩:=i4 x p (dec s) (by rw [hpl];exact s3) hiS (by rw [hdf];omega)
  have hfq:=(y42 hB g1 hiS.ok hiS.ok1).fuel
  have cl0:z01 x=false:=by rw [cl];simp [z0u];omega
  have hnode:∀ r1,(if !z14 q.2&&decide (0<x.outs.length) then (x.outs[0]?).bind fun o=>(setV a o q.1).map fun v'=>(((0,[]),v',q.2):Rres) else some ((0,[]),a,q.2))=some r1->z4q (z1x u d) (z39 u d) (mSum u d) x p a (dec s)=some r1:=fun r1 h=>by
    unfold z4q
    rw [n1,n2,ne h10,ne h11]
    simp only [Bool.false_eq_true,if_false,g1,Option.bind_some]
    exact h
  by_cases hov:(!z14 q.2&&decide (0<x.outs.length))=true
  ·obtain ⟨o,os,he⟩:∃ o os,x.outs=o::os:=by cases hxo:x.outs with
     | nil=>rw [hxo] at hov;simp at hov
     | cons o os=>exact ⟨o,os,rfl⟩
   obtain ⟨a2,h2⟩:=y0y (a:=a) (i:=o) (y:=q.1) (by rw [ha];exact s1 o (by rw [he];exact .head _))
   exact ⟨p,((0,[]),a2,q.2),hp,hnode _ (by rw [if_pos hov,he];simp [h2]),g2,fun _=>⟨by show q.2.fuel<s.fuel;omega,.inl ⟨rfl,cl0⟩⟩⟩
  exact ⟨p,((0,[]),a,q.2),hp,hnode _ (if_neg hov),g2,fun _=>⟨by show q.2.fuel<s.fuel;omega,.inl ⟨rfl,cl0⟩⟩⟩
theorem list_tot {u:Un} {n:Nat} {B M:Int} (hB:B<=4611686018427387903) (hv:∀ g∈u.flows,VF u g) {d:Nat} (i1:LTot u n B M d) (i2:PTot u n B M d) (i4:STot u n B M d):LTot u n B M (d+1):=by
  intro f deep w seen l a s hne hg ha hi hd
  cases l with
  | nil=>exact absurd rfl hne
  | cons x l =>
    cases hov:z14 s with
    | true =>
      have:z8l s=(false,s):=by unfold z8l;rw [hov];rfl
      refine ⟨((0,[]),a,s),by rw [z1x,this],hi,fun h=>by rw [z0r h] at hov;cases hov⟩
    | false =>
      have hl:=z6z.1 hov
      unfold vGo at hg
      simp only [Bool.and_eq_true,beq_iff_eq] at hg
      obtain ⟨⟨⟨_,v2⟩,v3⟩,v4⟩:=hg
      rcases zz2 hB hi.ok hl with ⟨hf,hs⟩ | ⟨hf,hs⟩
      ·refine ⟨((0,[]),a,gone s),by rw [z1x,hs],⟨hi.ok,hi.out,hi.ar⟩,fun h=>?_⟩
       have:=h.1
       cases this
      obtain ⟨p,r1,g1,g2,g3,g4⟩:=node_tot hB hv i1 i2 i4 v2 ha hl hi hf hd
      have hlen:r1.2.1.length=a.length:=y28 (fun _ _ _ _ h=>(zi3 u d).1 _ _ _ _ h) (fun _ _ _ _ _ h=>(zi3 u d).2 _ _ _ _ _ h) g2
      by_cases hov1:z14 r1.2.2=true
      ·exact ⟨r1,by rw [z1x,hs];simp only [g1,Option.bind_some,g2,hov1,Bool.true_or,if_true],g3,fun h=>by rw [z0r h] at hov1;cases hov1⟩
      have hov1':z14 r1.2.2=false:=by simpa using hov1
      obtain ⟨f1,f2⟩:=g4 (z6z.1 hov1')
      by_cases hk0:r1.1.1=0
      ·have hc:z01 x=false:=by
         rcases f2 with ⟨_,h⟩ | ⟨h,_⟩ | ⟨h,_⟩ | ⟨h,_⟩ | ⟨h,_⟩
         ·exact h
         all_goals rw [hk0] at h;exact absurd h dC0
       have hlne:l≠[]:=by rw [hc] at v3;intro e;rw [e] at v3;cases v3
       obtain ⟨r,q1,q2,q3⟩:=i1 f deep w _ l r1.2.1 r1.2.2 hlne v4 (by rw [hlen,ha]) g3 (by have:=hi.ok.1;omega)
       refine ⟨r,by rw [z1x,hs];simp only [g1,Option.bind_some,g2,hov1',hk0,Bool.false_or,show ((0:Int) != 0)=false from rfl,Bool.false_eq_true,if_false,q1],q2,fun h=>?_⟩
       obtain ⟨z1,z2⟩:=q3 h
       refine ⟨by omega,?_⟩
       rw [y6g hlne]
       rcases z2 with z | z | ⟨z1,z2,z3⟩ | z
       ·exact .inl z
       ·exact .inr (.inl z)
       ·exact .inr (.inr (.inl ⟨z1,by simp [z0l,z2],z3⟩))
       exact .inr (.inr (.inr z))
      have hk1:(false||r1.1.1 != 0)=true:=by simpa using hk0
      refine ⟨r1,by rw [z1x,hs];simp only [g1,Option.bind_some,g2,hov1',hk1,if_true],g3,fun _=>⟨f1,?_⟩⟩
      rcases f2 with ⟨h,_⟩ | ⟨z1,z2,z3,z4⟩ | z | ⟨z1,z2,z3⟩ | z
      ·exact absurd h hk0
      ·have hxk:x.kind=12:=by simpa using z2
       have hc:z01 x=true:=by unfold z01;rw [hxk];rfl
       have hl0:l=[]:=by rw [hc] at v3;cases l with
         | nil=>rfl
         | cons y r=>cases v3
       refine .inl ⟨z1,?_,z3,z4⟩
       rw [hl0,y6a,hxk];rfl
      ·exact .inr (.inl z)
      ·exact .inr (.inr (.inl ⟨z1,by simp [z0l,z2],z3⟩))
      exact .inr (.inr (.inr z))
theorem loop_tot {u:Un} {n:Nat} {B M:Int} {d:Nat} (i1:LTot u n B M d) (i2:PTot u n B M d):PTot u n B M (d+1):=by
  intro f deep x q seen a p s hk hq hg hpi hoi hp ha hi hd
  obtain ⟨a2,h2⟩:=zn3 (l:=x.params) (p:=p) (a:=a) (by rw [ha];exact hpi) hp
  obtain ⟨r1,g1,g2,g3⟩:=i1 f deep (w2 f x) seen q a2 s hq hg (by rw [z49 h2,ha]) hi oM0
  have hlen:=(z7a g1).trans (z49 h2)
  have hk0:x.kids[0]? = some q:=by rw [hk];rfl
  by_cases hov:z14 r1.2.2=true
  ·exact ⟨r1,by rw [z39,h2];simp only [Option.bind_some,hk0,g1,hov,Bool.true_or,if_true],g2,fun h=>by rw [z0r h] at hov;cases hov⟩
  have hov':z14 r1.2.2=false:=by simpa using hov
  obtain ⟨f1,f2⟩:=g3 (z6z.1 hov')
  rcases f2 with ⟨_,_,h,_⟩ | ⟨z1,z2⟩ | ⟨z1,z2,z3⟩ | ⟨z1,z2⟩
  ·cases h
  ·rw [show (w2 f x).Next=r8of f.types x.params from rfl,zn9 hpi] at z2
   obtain ⟨r,q1,q2,q3⟩:=i2 f deep x q seen r1.2.1 r1.1.2 r1.2.2 hk hq hg hpi hoi z2 (by rw [hlen,ha]) g2 oM0
   exact ⟨r,by rw [z39,h2];simp only [Option.bind_some,hk0,g1,hov',z1,Bool.false_or,show ((13:Int)==15)=false from rfl,show ((13:Int)==14)=false from rfl,Bool.false_eq_true,if_false,q1],q2,q3⟩
  ·rw [show (w2 f x).Left=r8of f.types x.outs from rfl,zn9 hoi] at z3
   obtain ⟨a3,h3⟩:=zn3 (l:=x.outs) (p:=r1.1.2) (a:=r1.2.1) (by rw [hlen,ha];exact hoi) z3
   exact ⟨((0,[]),a3,r1.2.2),by rw [z39,h2];simp only [Option.bind_some,hk0,g1,hov',z1,Bool.false_or,show ((14:Int)==15)=false from rfl,show ((14:Int)==14)=true from rfl,Bool.false_eq_true,if_false,if_true,h3,Option.map_some],g2,fun _=>.inl ⟨rfl,z2⟩⟩
  exact ⟨r1,by rw [z39,h2];simp only [Option.bind_some,hk0,g1,hov',z1,Bool.false_or,show ((15:Int)==15)=true from rfl,if_true],g2,fun _=>.inr ⟨z1,z2⟩⟩
theorem call_tot {u:Un} {n:Nat} {B M:Int} (hv:∀ g∈u.flows,VF u g) {d:Nat} (i1:LTot u n B M d):CTot u n B M (d+1):=by
  rintro k p s hk ⟨g,hg,hp⟩ hi hd
  obtain ⟨v1,v2,v3,v4⟩:=hv g (List.mem_of_getElem? hg)
  simp only [z36,Bool.and_eq_true] at v1
  have hpl:p.length<=g.types.length:=by omega
  obtain ⟨r1,g1,g2,_⟩:=i1 g 1 z1k _ g.body (p++List.replicate (g.types.length - p.length) 0) s (by simpa using v1.1) v1.2 (by simp;omega) hi oM0
  have e:z3t u (d+1) k p s=(if z14 r1.2.2 then some (0,r1.2.2) else some (r1.1.2.headD 0,r1.2.2)):=by
    rw [z3t,if_pos hk,hg,Option.bind_some,if_pos ⟨hpl,by omega⟩,g1,Option.bind_some]
  rw [e]
  split
  ·exact ⟨_,rfl,g2⟩
  exact ⟨_,rfl,g2⟩
theorem yk3 {u:Un} {n:Nat} {B M:Int} (hB:B<=4611686018427387903) (hM:M<=1073741824) (hn:n=u.arrays.length) (hv:∀ g∈u.flows,VF u g):∀ d,LTot u n B M d/\PTot u n B M d/\CTot u n B M d/\STot u n B M d
  | 0=>⟨fun f deep w seen l a s _ _ _ hi hd=>by have:=hi.ok.1;omega,fun f deep x q seen a p s _ _ _ _ _ _ _ hi hd=>by have:=hi.ok.1;omega,fun k p s _ _ hi hd=>by have:=hi.ok.1;omega,fun x p s _ hi hd=>by have:=hi.ok.1;omega⟩
  | d+1=>by
    obtain ⟨i1,i2,i3,i4⟩:=yk3 hB hM hn hv d
    exact ⟨list_tot hB hv i1 i2 i4,loop_tot i1 i2,call_tot hv i1,fun x p s hx hi hd=>sum_tot hB hM hn hv i3 x p s hx hi hd⟩
section
def HCall (u v:Un) (D:Nat) (B:Int) (m:Bool) (N:Nat):Prop:=∀ e e' k p s s' q q',e<D->P64 p->z3t u e k p s=some q->z3t v e' k p s'=some q'->Oks B s->Oks B s'->RelR m N 0 (N+1) 0 s s'->RC m N q q'
inductive RN (m:Bool) (N:Nat) (J:VR) (F:Int->Prop) (E:ER) (r r':Rres):Prop
  | go:r.1.1=0->r'.1.1=0->RelR m N 0 (N+1) 0 r.2.2 r'.2.2->J r.2.1 r'.2.1->RN m N J F E r r'
  | fin:r.1.1≠0->r'.1.1=r.1.1->F r.1.1->RelR m N 0 (N+1) 0 r.2.2 r'.2.2->E r.1.1 r.1.2 r'.1.2 r.2.1 r'.2.1->RN m N J F E r r'
  | halt:Halt m r.2.2 r'.2.2->RN m N J F E r r'
  | cut:Cut m r.2.2 r'.2.2->RN m N J F E r r'
theorem z67 {s:Rs} (h:s.spent=true):z14 s=true:=by unfold z14;rw [h];rfl
section
variable {u v:Un} {D:Nat} {B:Int} {m:Bool} {N:Nat}
theorem RelR.weak {k w c k2 w2 c2:Nat} {s s':Rs} (h:RelR m N k w c s s') (hk:k<=k2) (hw:w2<=w) (hc:c<=c2):RelR m N k2 w2 c2 s s':=⟨h.al,h.g.weak hk hw,by have:=h.co;omega⟩
theorem RelR.dec {k w c:Nat} {s s':Rs} (h:RelR m N k w c s s') (hw:1<=w):RelR m N k (N+1) c (dec s) (dec s'):=⟨⟨h.al.l,h.al.l',h.al.ins,h.al.ar,h.al.out,h.al.code,h.al.rg⟩,h.g.step hw,h.co⟩
theorem sum_sim (hB:B<=4611686018427387903) (hA:v.arrays=u.arrays) (hP:∀ name,z05 name v.flows 0=z05 name u.flows 0) (HC:HCall u v D B m N) {d d':Nat} (hd:d<=D) {x x':Nd} {p:List Int} {s s':Rs} {q q':Int × Rs}
    (hk:x'.kind=x.kind) (hop:x'.op=x.op) (hnm:x'.name=x.name) (h:mSum u d x p s=some q) (h':mSum v d' x' p s'=some q') (ho:Oks B s) (ho':Oks B s') (ho1:s.cost+s.fuel+1<=B) (ho1':s'.cost+s'.fuel+1<=B)
    (hp:P64 p) (hr:RelR m N 0 (N+1) 0 s s'):RC m N q q':=by
  by_cases k7:x.kind=7
  ·obtain ⟨d,rfl⟩:=z58 h
   obtain ⟨d',rfl⟩:=z58 h'
   have g:=z90 h (beq_iff_eq.2 k7)
   have g':=z90 h' (beq_iff_eq.2 (hk.trans k7))
   rw [zd6 hB ho] at g
   rw [zd6 hB ho',hnm,hP] at g'
   have hb:∀ {s:Rs},Oks B s->s.cost+s.fuel+1<=B->Oks B (bmp s):=fun {s} ho ho1=>⟨ho.1,by have:=ho.2.1;show 0<=s.cost+1;omega,by show s.cost+1+s.fuel<=B;omega⟩
   refine HC _ _ _ _ _ _ _ _ oM0 hp g g' (hb ho ho1) (hb ho' ho1') ⟨⟨hr.al.l,hr.al.l',hr.al.ins,hr.al.ar,hr.al.out,hr.al.code,hr.al.rg⟩,hr.g,?_⟩
   have:=hr.co
   show s'.cost+1<=s.cost+1+(0:Nat);omega
  have hs:=sum_rg k7 hp hr.al.rg h
  obtain ⟨h1,ins,ar,st,out,h2,h3⟩:=yj9 hk hop hnm k7 hA hB ho ho' hr.al h h'
  have hco:q'.2.cost<=q.2.cost:=by rw [h2,h3];have:=hr.co;show s'.cost+1<=s.cost+1;omega
  by_cases hst:st=0
  ·subst hst
   refine .ok h1 hs.1 ⟨?_,?_,by simpa using hco⟩
   ·rw [h2,h3];exact ⟨⟨hr.al.l.1,rfl⟩,⟨hr.al.l'.1,rfl⟩,rfl,rfl,rfl,hr.al.code,by have h:=hs.2.1;rw [h2] at h;exact h⟩
   rw [h2,h3];exact hr.g
  refine .halt ⟨by rw [h2];exact hst,by rw [h2,h3];rfl,by rw [h2];exact hr.al.l.1,by rw [h3];exact hr.al.l'.1,by rw [h2,h3];rfl,by rw [h2,h3];exact hr.al.code,hco,fun hm=>?_⟩
  have:=hr.g
  unfold G at this
  rw [if_pos hm] at this
  rw [h2,h3];show s.fuel<=s'.fuel;simpa using this
theorem zf4 {l:List Nd} {K:List KF} {r1 r:Rres} (h:KNext u D l K r1 r) (ho:z14 r1.2.2=true):r=r1:=by
  rcases h with ⟨_,h⟩ | ⟨h,_⟩ | ⟨h,_⟩
  ·exact h
  ·rw [z0r h] at ho;cases ho
  rw [z0r h] at ho;cases ho
theorem y0c (hB:B<=4611686018427387903) {D':Nat} {J:VR} {F:Int->Prop} {E:ER} {l l':List Nd} {K:List KF} {r1 r1' r r':Rres} (h:KNext u D l K r1 r) (h':KNext v D' l' [] r1' r') (ho:Oks B r1.2.2) (ho':Oks B r1'.2.2)
    (hR:RN m N J F E r1 r1') (hF:∀ n,F n->K=[]∨n=15) (hN:lsz l+ksz K<=N)
    (ih:∀ (D':Nat) (a b:List Int) (s s':Rs) (r r':Rres),KRun u D l K a s r->KRun v D' l' [] b s' r'->Oks B s->Oks B s'->RelR m N 0 (lsz l+ksz K) 0 s s'->lsz l+ksz K<=N->J a b->RR m N E r r'):RR m N E r r':=by
  cases hR with
  | go e e' hr hJ =>
    rcases h with ⟨h,_⟩ | ⟨_,h,_⟩ | ⟨_,_,h⟩
    ·rw [z0r hr.al.l] at h;cases h
    ·exact absurd e h
    rcases h' with ⟨h',_⟩ | ⟨_,h',_⟩ | ⟨_,_,h'⟩
    ·rw [z0r hr.al.l'] at h';cases h'
    ·exact absurd e' h'
    exact ih _ _ _ _ _ _ _ h h' ho ho' (hr.weak (Nat.le_refl _) oM0 (Nat.le_refl _)) hN hJ
  | fin e e' hf hr hE =>
    rcases h with ⟨h,_⟩ | ⟨_,_,h⟩ | ⟨_,h,_⟩
    ·rw [z0r hr.al.l] at h;cases h
    ·rcases h' with ⟨h',_⟩ | ⟨_,_,h'⟩ | ⟨_,h',_⟩
     ·rw [z0r hr.al.l'] at h';cases h'
     ·obtain rfl:r'=r1':=h'
      have hr1:r=r1:=by
        rcases hF _ hf with rfl | k15
        ·exact h
        cases K with
        | nil=>exact h
        | cons f K=>unfold KFin at h;rw [if_pos k15] at h;exact h
      subst hr1
      exact .ok e' hE hr
     exact absurd (e'.symm.trans h') e
    exact absurd h e
  | halt hh =>
    obtain ⟨o1,o2⟩:=hh.over
    rw [zf4 h o1,zf4 h' o2]
    exact .halt hh
  | cut hc =>
    refine .cut ?_
    unfold Cut at hc ⊢
    cases m with
    | true =>
      simp only [if_true] at hc ⊢
      rw [zf4 h (z67 hc.1)]
      exact ⟨hc.1,hc.2.1,hc.2.2.trans (h'.out hB ho')⟩
    | false =>
      simp only [Bool.false_eq_true,if_false] at hc ⊢
      rw [zf4 h' (z67 hc.1)]
      exact ⟨hc.1,hc.2.1,hc.2.2.trans (h.out hB ho)⟩
theorem y2q (hB:B<=4611686018427387903) {d:Nat} {x:Nd} {r1 r:Rres} (ho:Oks B r1.2.2)
    (h:(if z14 r1.2.2||r1.1.1==15 then some r1 else if r1.1.1==14 then (mSet r1.2.1 x.outs r1.1.2).map fun v=>((0,[]),v,r1.2.2) else z39 u d x r1.2.1 r1.1.2 r1.2.2)=some r):r1.2.2.out <+: r.2.2.out/\(z14 r1.2.2=true->r=r1):=by
  split at h
  ·cases h;exact ⟨List.prefix_refl _,fun _=>rfl⟩
  rename_i hn
  refine ⟨?_,fun ho=>absurd (by rw [ho];rfl) hn⟩
  split at h
  ·obtain ⟨v3,_,rfl⟩:=Option.map_eq_some_iff.1 h
   exact List.prefix_refl _
  exact (zd8 hB h ho).out
theorem y6e (hB:B<=4611686018427387903) {k c:Nat} {I2 J:VR} {E E2:ER} {x x':Nd} {q q':List Nd} (hq:x.kids=[q]) (hq':x'.kids=[q']) (hN:lsz q<=N)
    (ih:∀ (D':Nat) (a b:List Int) (s s':Rs) (r r':Rres),KRun u D q [] a s r->KRun v D' q' [] b s' r'->Oks B s->Oks B s'->RelR m N k (lsz q+ksz []) c s s'->lsz q+ksz []<=N->I2 a b->RR m N E2 r r')
    (hE:∀ n p p' a b,E2 n p p' a b->(n=15/\E 15 p p' a b)∨(n=14/\∀ a2 b2,mSet a x.outs p=some a2->mSet b x'.outs p'=some b2->J a2 b2)∨(n=13/\∀ a2 b2,mSet a x.params p=some a2->mSet b x'.params p'=some b2->I2 a2 b2)) :
    ∀ (d d':Nat) (a b p p':List Int) (s s':Rs) (r r':Rres),d<=D->z39 u d x a p s=some r->z39 v d' x' b p' s'=some r'->Oks B s->Oks B s'->RelR m N k (lsz q) c s s' ->
      (∀ a2 b2,mSet a x.params p=some a2->mSet b x'.params p'=some b2->I2 a2 b2)->RN m N J (fun n=>n=15) E r r'
  | 0,_,_,_,_,_,_,_,_,_,_,h,_,_,_,_,_=>by simp [z39] at h
  | d+1,d',a,b,p,p',s,s',r,r',hd,h,h',ho,ho',hr,hI=>by
    obtain ⟨d1,v2,q2,r1,e,g1,g2,g3,g4⟩:=z4h h
    obtain ⟨d1',v2',q2',r1',e',g1',g2',g3',g4'⟩:=z4h h'
    obtain rfl:d1=d:=by omega
    rw [hq] at g2
    rw [hq'] at g2'
    obtain rfl:=Option.some.inj g2
    obtain rfl:=Option.some.inj g2'
    have R:=ih d1' v2 v2' s s' r1 r1' ⟨d1,r1,by omega,g3,by split<;>rfl⟩ ⟨d1',r1',Nat.le_refl _,g3',by split<;>rfl⟩ ho ho' hr hN (hI _ _ g1 g1')
    have o1:=(z6u hB g3 ho).ok
    have o1':=(z6u hB g3' ho').ok
    have W:=y2q hB o1 g4
    have W':=y2q hB o1' g4'
    cases R with
    | halt hh =>
      obtain ⟨t1,t2⟩:=hh.over
      rw [W.2 t1,W'.2 t2]
      exact .halt hh
    | cut hc =>
      refine .cut ?_
      unfold Cut at hc ⊢
      cases m with
      | true =>
        simp only [if_true] at hc ⊢
        rw [W.2 (z67 hc.1)]
        exact ⟨hc.1,hc.2.1,hc.2.2.trans W'.1⟩
      | false =>
        simp only [Bool.false_eq_true,if_false] at hc ⊢
        rw [W'.2 (z67 hc.1)]
        exact ⟨hc.1,hc.2.1,hc.2.2.trans W.1⟩
    | ok ek eE hr2 =>
      rw [z0r hr2.al.l] at g4
      rw [z0r hr2.al.l',ek] at g4'
      obtain ⟨⟨n,pp⟩,va,sa⟩:=r1
      obtain ⟨⟨n',pp'⟩,vb,sb⟩:=r1'
      obtain rfl:n'=n:=ek
      rcases hE _ _ _ _ _ eE with ⟨rfl,h15⟩ | ⟨rfl,h14⟩ | ⟨rfl,h13⟩
      ·cases g4;cases g4'
       exact .fin (show (15:Int)≠0 by decide) rfl rfl hr2 h15
      ·obtain ⟨w,g5,rfl⟩:=Option.map_eq_some_iff.1 g4
       obtain ⟨w',g5',rfl⟩:=Option.map_eq_some_iff.1 g4'
       exact .go rfl rfl hr2 (h14 _ _ g5 g5')
      exact y6e hB hq hq' hN ih hE d1 d1' va vb pp pp' sa sb r r' oM0 g4 g4' o1 o1' (hr2.weak (Nat.zero_le _) oM0 (Nat.zero_le _)) h13
end
end
section
section
variable {u v:Un} {D:Nat} {B:Int} {m:Bool} {N:Nat}
theorem z7v (x:Nd):1<=nsz x:=by rw [zx7];omega
theorem yi8 {x:Nd} {q:Int × Rs} {a:List Int} {r1:Rres} (hl:Live q.2)
    (h:(if !z14 q.2&&decide (0<x.outs.length) then (x.outs[0]?).bind fun o=>(setV a o q.1).map fun v'=>((0,[]),v',q.2) else some ((0,[]),a,q.2))=some r1):∃ a2,setO x.outs a q.1 a2/\r1=((0,[]),a2,q.2):=by
  rw [z0r hl] at h
  cases ho:x.outs with
  | nil=>rw [ho] at h;cases h;exact ⟨a,rfl,rfl⟩
  | cons o os =>
    rw [ho] at h
    simp only [Bool.not_false,Bool.true_and,List.length_cons,Nat.zero_lt_succ,decide_true,if_true,List.getElem?_cons_zero,Option.bind_some,Option.map_eq_some_iff] at h
    obtain ⟨a2,h1,rfl⟩:=h
    exact ⟨a2,h1,rfl⟩
theorem y2c {x:Nd} {q:Int × Rs} {a:List Int} {r1:Rres}
    (h:(if !z14 q.2&&decide (0<x.outs.length) then (x.outs[0]?).bind fun o=>(setV a o q.1).map fun v'=>((0,[]),v',q.2) else some ((0,[]),a,q.2))=some r1):r1.2.2=q.2:=by
  split at h
  ·simp only [Option.bind_eq_some_iff,Option.map_eq_some_iff] at h
   obtain ⟨o,_,v',_,rfl⟩:=h
   rfl
  cases h;rfl
theorem sound (hB:B<=4611686018427387903) (hA:v.arrays=u.arrays) (hP:∀ name,z05 name v.flows 0=z05 name u.flows 0) (HC:HCall u v D B m N)
    {k c:Nat} {I:VR} {l:List Nd} {K:List KF} {l':List Nd} {E:ER} (h:LRel k c I l K l' E) :
    ∀ (D':Nat) (a b:List Int) (s s':Rs) (r r':Rres),KRun u D l K a s r->KRun v D' l' [] b s' r'->Oks B s->Oks B s'->RelR m N k (lsz l+ksz K) c s s'->lsz l+ksz K<=N->I a b->RR m N E r r':=by
  induction h with
  | dead hd=>intro D' a b s s' r r' h h' ho ho' hr hN hI;exact absurd hI (hd a b)
  | weak hw _ ih=>intro D' a b s s' r r' h h' ho ho' hr hN hI;exact ih D' a b s s' r r' h h' ho ho' hr hN (hw a b hI)
  | @both k c I J x x' l K l' E hx hx' hcc hJ hL ih =>
    intro D' a b s s' r r' h h' ho ho' hr hN hI
    have hs:=z7v x
    have ez:lsz (x::l)=nsz x+lsz l:=rfl
    rcases y21 hB hx h ho hr.al.l with ⟨hf,e⟩ | ⟨hf,a2,ha,hk⟩
    ·exact zu4 hr oM0 hf ho'.1 (h'.out hB ho') e
    rcases y21 hB hx' h' ho' hr.al.l' with ⟨hf',e'⟩ | ⟨hf',b2,hb,hk'⟩
    ·exact y92 hB (LRel.both hx hx' hcc hJ hL) (List.cons_ne_nil _ _) h ho hr hf' e'
    have h2:=hr.dec oM0
    refine ih D' a2 b2 _ _ r r' hk hk' (zf3 ho hf) (zf3 ho' hf') ⟨⟨h2.al.l,h2.al.l',h2.al.ins,h2.al.ar,h2.al.out,h2.al.code,h2.al.rg⟩,h2.g.weak (Nat.le_refl _) oM0,?_⟩ oM0 (hJ _ _ _ _ hI ha hb)
    have:=hr.co
    show s'.cost+(hc x':Int)<=s.cost+(hc x:Int)+(c:Int);omega
  | @skip k c I J x l K l' E hx hJ hL ih =>
    intro D' a b s s' r r' h h' ho ho' hr hN hI
    have hs:=z7v x
    have ez:lsz (x::l)=nsz x+lsz l:=rfl
    rcases y21 hB hx h ho hr.al.l with ⟨hf,e⟩ | ⟨hf,a2,ha,hk⟩
    ·exact zu4 hr oM0 hf ho'.1 (h'.out hB ho') e
    refine ih D' a2 b _ _ r r' hk h' (zf3 ho hf) ho' ⟨⟨hr.al.l,hr.al.l',hr.al.ins,hr.al.ar,hr.al.out,hr.al.code,hr.al.rg⟩,(hr.g.weak (Nat.le_refl _) (w2:=lsz l+ksz K+1) oM0).left,?_⟩ oM0 (hJ _ _ _ hI ha)
    have:=hr.co
    show s'.cost<=s.cost+(hc x:Int)+(c:Int);omega
  | @drop I J x l K l' E h4 hou hok hJ hL ih =>
    intro D' a b s s' r r' h h' ho ho' hr hN hI
    have hs:=z7v x
    have ez:lsz (x::l)=nsz x+lsz l:=rfl
    rcases y9r hB h4 hou (fun p a0 a1=>hok a b p a0 a1 hI) h ho hr.al.l with ⟨hf,e⟩ | ⟨hf,a2,ha,hk⟩
    ·exact zu4 hr oM0 hf ho'.1 (h'.out hB ho') e
    refine ih D' a2 b _ _ r r' hk h' (zf3 ho hf) ho' ⟨⟨hr.al.l,hr.al.l',hr.al.ins,hr.al.ar,hr.al.out,hr.al.code,hr.al.rg⟩,(hr.g.weak (Nat.le_refl _) (w2:=lsz l+ksz K+1) oM0).left,?_⟩ oM0 (hJ _ _ _ hI ha)
    have:=hr.co
    show s'.cost<=s.cost+(hc x:Int)+((0:Nat):Int);omega
  | @paid k c I J x l K l' E hx hJ hne hL ih =>
    intro D' a b s s' r r' h h' ho ho' hr hN hI
    have hs:=z7v x
    have ez:lsz (x::l)=nsz x+lsz l:=rfl
    rcases y21 hB hx h ho hr.al.l with ⟨hf,e⟩ | ⟨hf,a2,ha,hk⟩
    ·exact zu4 hr oM0 hf ho'.1 (h'.out hB ho') e
    refine ih D' a2 b _ _ r r' hk h' (zf3 ho hf) ho' ⟨⟨hr.al.l,hr.al.l',hr.al.ins,hr.al.ar,hr.al.out,hr.al.code,hr.al.rg⟩,(hr.g.weak (Nat.le_refl _) (w2:=lsz l+ksz K+1) oM0).pay,?_⟩ oM0 (hJ _ _ _ hI ha)
    have:=hr.co
    show s'.cost<=s.cost+(hc x:Int)+(c:Int);omega
  | @add k c I J x' l K l' E hx' hne hJ hL ih =>
    intro D' a b s s' r r' h h' ho ho' hr hN hI
    rcases y21 hB hx' h' ho' hr.al.l' with ⟨hf',e'⟩ | ⟨hf',b2,hb,hk'⟩
    ·exact y92 hB (LRel.add hx' hne hJ hL) hne h ho hr hf' e'
    refine ih D' a b2 _ _ r r' h hk' ho (zf3 ho' hf') ⟨⟨hr.al.l,hr.al.l',hr.al.ins,hr.al.ar,hr.al.out,hr.al.code,hr.al.rg⟩,hr.g.right,?_⟩ hN (hJ _ _ _ hI hb)
    have:=hr.co
    show s'.cost+(hc x':Int)<=s.cost+((c+hc x':Nat):Int);omega
  | @eff I J x x' l K l' E hk hkk hop hnm hlen h64 hp hJ hL ih =>
    intro D' a b s s' r r' h h' ho ho' hr hN hI
    have hs:=z7v x
    have ez:lsz (x::l)=nsz x+lsz l:=rfl
    rcases zi2 hB h ho hr.al.l with ⟨hf,e⟩ | ⟨hf,d1,p,r1,hd,g1,g2,g3⟩
    ·exact zu4 hr oM0 hf ho'.1 (h'.out hB ho') e
    rcases zi2 hB h' ho' hr.al.l' with ⟨hf',e'⟩ | ⟨hf',d1',p',r1',hd',g1',g2',g3'⟩
    ·exact y92 hB (LRel.eff hk hkk hop hnm hlen h64 hp hJ hL) (List.cons_ne_nil _ _) h ho hr hf' e'
    obtain ⟨k1,k2,k10,k11,k12,k13,k14,k15⟩:=hk
    have ne:∀ {i:Int},x.kind≠i->(x.kind==i)=false:=fun h=>beq_eq_false_iff_ne.2 h
    have ne':∀ {i:Int},x.kind≠i->(x'.kind==i)=false:=fun h=>beq_eq_false_iff_ne.2 (by rw [hkk];exact h)
    obtain ⟨q,t1,t2⟩:=z6f g2 (by rw [ne k1,ne k2];rfl) (by rw [ne k12,ne k13,ne k14,ne k15];rfl) (ne k10) (ne k11)
    obtain ⟨q',t1',t2'⟩:=z6f g2' (by rw [ne' k1,ne' k2];rfl) (by rw [ne' k12,ne' k13,ne' k14,ne' k15];rfl) (ne' k10) (ne' k11)
    have hpp:=hp _ _ _ _ hI g1 g1'
    subst hpp
    have h2:=hr.dec oM0
    obtain ⟨o1,o2⟩:=z3w ho hf
    obtain ⟨o1',o2'⟩:=z3w ho' hf'
    have e1:r1.2.2=q.2:=y2c t2
    have e1':r1'.2.2=q'.2:=y2c t2'
    have R:RN m N J (fun n=>K=[]∨n=15) E r1 r1':=by
      have h64p:=h64 _ _ _ hI g1
      have htw:q.2.st=0->Two x p' q.1:=fun hst=>by
        by_cases k7:x.kind=7
        ·intro k4;rw [k7] at k4;exact absurd k4 dC0
        exact (sum_rg k7 h64p h2.al.rg t1).2.2 hst
      cases sum_sim hB hA hP HC oM0 hkk hop hnm t1 t1' o1 o1' o2 o2' h64p h2 with
      | ok hv hq64 hrel =>
        obtain ⟨a2,s1,rfl⟩:=yi8 hrel.al.l t2
        obtain ⟨b2,s2,rfl⟩:=yi8 hrel.al.l' t2'
        rw [hv] at s2
        exact .go rfl rfl hrel (hJ _ _ _ _ _ _ hI g1' hq64 (htw hrel.al.l.2) s1 s2)
      | halt hh=>exact .halt (by rw [e1,e1'];exact hh)
      | cut hh=>exact .cut (by rw [e1,e1'];exact hh)
    exact y0c hB g3 g3' (by rw [e1];exact (y42 hB t1 o1 o2).ok) (by rw [e1'];exact (y42 hB t1' o1' o2').ok) R (fun _ h=>h) oM0 ih
  | @ite I J E2 x x' q0 q1 q0' q1' l K l' E hk hk' hq hq' hp hL0 hL1 hE hL ih0 ih1 ih =>
    intro D' a b s s' r r' h h' ho ho' hr hN hI
    have hs:=z7v x
    have ez:lsz (x::l)=nsz x+lsz l:=rfl
    have ezx:nsz x=1+(lsz q0+(lsz q1+0)):=by rw [zx7,hq];rfl
    rcases zi2 hB h ho hr.al.l with ⟨hf,e⟩ | ⟨hf,d1,p,r1,hd,g1,g2,g3⟩
    ·exact zu4 hr oM0 hf ho'.1 (h'.out hB ho') e
    rcases zi2 hB h' ho' hr.al.l' with ⟨hf',e'⟩ | ⟨hf',d1',p',r1',hd',g1',g2',g3'⟩
    ·exact y92 hB (LRel.ite hk hk' hq hq' hp hL0 hL1 hE hL) (List.cons_ne_nil _ _) h ho hr hf' e'
    have hpp:=hp _ _ _ _ hI g1 g1'
    obtain ⟨a0,q,r2,t1,t2,t3,t4⟩:=ze8 g2 (by rw [hk];rfl)
    obtain ⟨a0',q',r2',t1',t2',t3',t4'⟩:=ze8 g2' (by rw [hk'];rfl)
    rw [t1,t1'] at hpp
    obtain rfl:=Option.some.inj hpp
    have h2:=hr.dec oM0
    obtain ⟨o1,o2⟩:=z3w ho hf
    obtain ⟨o1',o2'⟩:=z3w ho' hf'
    have R2:RR m N E2 r2 r2':=by
      rw [hq] at t2
      rw [hq'] at t2'
      by_cases c0:(a0' != 0)=true
      ·rw [if_pos c0] at t2 t2'
       obtain rfl:q0=q:=by simpa using t2
       obtain rfl:q0'=q':=by simpa using t2'
       exact ih0 d1' a b _ _ r2 r2' ⟨d1,r2,by omega,t3,by split<;>rfl⟩ ⟨d1',r2',Nat.le_refl _,t3',by split<;>rfl⟩ o1 o1' (h2.weak (Nat.le_refl _) (by simp [ksz];omega) (Nat.le_refl _)) (by simp [ksz];omega) hI
      rw [if_neg c0] at t2 t2'
      obtain rfl:q1=q:=by simpa using t2
      obtain rfl:q1'=q':=by simpa using t2'
      exact ih1 d1' a b _ _ r2 r2' ⟨d1,r2,by omega,t3,by split<;>rfl⟩ ⟨d1',r2',Nat.le_refl _,t3',by split<;>rfl⟩ o1 o1' (h2.weak (Nat.le_refl _) (by simp [ksz];omega) (Nat.le_refl _)) (by simp [ksz];omega) hI
    have x1:=(z6u hB t3 o1).ok
    have x1':=(z6u hB t3' o1').ok
    have SS:∀ {x:Nd} {r2 r1:Rres},(if !z14 r2.2.2&&r2.1.1==12 then (mSet r2.2.1 x.outs r2.1.2).map fun v'=>(((0,[]),v',r2.2.2):Rres) else some r2)=some r1->r1.2.2=r2.2.2:=by
      intro x r2 r1 h
      split at h
      ·obtain ⟨w,_,rfl⟩:=Option.map_eq_some_iff.1 h;rfl
      cases h;rfl
    have e1:=SS t4
    have e1':=SS t4'
    have R:RN m N J (fun n=>K=[]∨n=15) E r1 r1':=by
      cases R2 with
      | halt hh=>exact .halt (by rw [e1,e1'];exact hh)
      | cut hh=>exact .cut (by rw [e1,e1'];exact hh)
      | ok ek eE hr2 =>
        rw [z0r hr2.al.l] at t4
        rw [z0r hr2.al.l',ek] at t4'
        obtain ⟨⟨n,pp⟩,va,sa⟩:=r2
        obtain ⟨⟨n',pp'⟩,vb,sb⟩:=r2'
        obtain rfl:n'=n:=ek
        rcases hE _ _ _ _ _ eE with ⟨rfl,h12⟩ | ⟨n12,n0,hKn,hEE⟩
        ·obtain ⟨w,g5,rfl⟩:=Option.map_eq_some_iff.1 t4
         obtain ⟨w',g5',rfl⟩:=Option.map_eq_some_iff.1 t4'
         exact .go rfl rfl hr2 (h12 _ _ g5 g5')
        have c:(!false&&n'==12)=false:=by simpa using n12
        simp only [c] at t4 t4'
        cases t4;cases t4'
        exact .fin n0 rfl hKn hr2 hEE
    exact y0c hB g3 g3' (by rw [e1];exact x1) (by rw [e1'];exact x1') R (fun _ h=>h) oM0 ih
  | @loop k c I I2 J E2 x x' q q' l K l' E hk hk' hq hq' hI2 hL2 hE hL ih2 ih =>
    intro D' a b s s' r r' h h' ho ho' hr hN hI
    have hs:=z7v x
    have ez:lsz (x::l)=nsz x+lsz l:=rfl
    have ezx:nsz x=1+(lsz q+0):=by rw [zx7,hq];rfl
    rcases zi2 hB h ho hr.al.l with ⟨hf,e⟩ | ⟨hf,d1,p,r1,hd,g1,g2,g3⟩
    ·exact zu4 hr oM0 hf ho'.1 (h'.out hB ho') e
    rcases zi2 hB h' ho' hr.al.l' with ⟨hf',e'⟩ | ⟨hf',d1',p',r1',hd',g1',g2',g3'⟩
    ·exact y92 hB (LRel.loop hk hk' hq hq' hI2 hL2 hE hL) (List.cons_ne_nil _ _) h ho hr hf' e'
    have t:=z63 g2 (by rw [hk];rfl)
    have t':=z63 g2' (by rw [hk'];rfl)
    have h2:=hr.dec oM0
    obtain ⟨o1,_⟩:=z3w ho hf
    obtain ⟨o1',_⟩:=z3w ho' hf'
    have R:=y6e hB hq hq' oM0 ih2 hE d1 d1' a b p p' _ _ r1 r1' oM0 t t' o1 o1' (h2.weak (Nat.le_refl _) oM0 (Nat.le_refl _)) fun a2 b2=>hI2 a b p p' a2 b2 hI g1 g1'
    exact y0c hB g3 g3' (zd8 hB t o1).ok (zd8 hB t' o1').ok R (fun n hn=>.inr hn) oM0 ih
  | @ender I x x' l K l' E h1 h2 hkk hKn hE =>
    intro D' a b s s' r r' h h' ho ho' hr hN hI
    have hs:=z7v x
    have ez:lsz (x::l)=nsz x+lsz l:=rfl
    rcases zh5 hB h1 h2 h ho hr.al.l with ⟨hf,e⟩ | ⟨hf,p,g1,g2⟩
    ·exact zu4 hr oM0 hf ho'.1 (h'.out hB ho') e
    rcases zh5 hB (by rw [hkk];exact h1) (by rw [hkk];exact h2) h' ho' hr.al.l' with ⟨hf',e'⟩ | ⟨hf',p',g1',g2'⟩
    ·exact y92 (l':=x'::l') hB (LRel.ender h1 h2 hkk hKn hE) (List.cons_ne_nil _ _) h ho hr hf' e'
    obtain rfl:r'=((x'.kind,p'),b,dec s'):=g2'
    obtain rfl:r=((x.kind,p),a,dec s):=by
      rcases hKn with rfl | k15
      ·exact g2
      cases K with
      | nil=>exact g2
      | cons f K=>unfold KFin at g2;rw [show (((x.kind,p),a,dec s):Rres).1.1=15 from k15,if_pos rfl] at g2;exact g2
    exact .ok hkk (hE _ _ _ _ hI g1 g1') (hr.dec oM0)
  | @once k c I J x q l K l' E hk hq hJ hL ih =>
    intro D' a b s s' r r' h h' ho ho' hr hN hI
    have ez:lsz (x::l)=nsz x+lsz l:=rfl
    have ezx:nsz x=1+(lsz q+0):=by rw [zx7,hq];rfl
    have ek:ksz (⟨14,x.outs,l⟩::K)=lsz l+ksz K:=rfl
    rcases y2j hB hk hq h ho hr.al.l with ⟨hf,e⟩ | ⟨hf,p,a2,g1,g2,g3⟩
    ·exact zu4 hr oM0 hf ho'.1 (h'.out hB ho') e
    exact ih D' a2 b _ _ r r' g3 h' (z3w ho hf).1 ho' ⟨⟨hr.al.l,hr.al.l',hr.al.ins,hr.al.ar,hr.al.out,hr.al.code,hr.al.rg⟩,(hr.g.weak (Nat.le_refl _) (w2:=lsz q+(lsz l+ksz K)+1) oM0).left,hr.co⟩ oM0 (hJ _ _ _ _ hI g1 g2)
  | @leave k c I J y l f K l' E hk hk2 hJ hL ih =>
    intro D' a b s s' r r' h h' ho ho' hr hN hI
    have hs:=z7v y
    have ez:lsz (y::l)=nsz y+lsz l:=rfl
    have ek:ksz (f::K)=lsz f.rest+ksz K:=rfl
    rcases zx2 hB hk hk2 h ho hr.al.l with ⟨hf,e⟩ | ⟨hf,p,a2,g1,g2,g3⟩
    ·exact zu4 hr oM0 hf ho'.1 (h'.out hB ho') e
    exact ih D' a2 b _ _ r r' g3 h' (z3w ho hf).1 ho' ⟨⟨hr.al.l,hr.al.l',hr.al.ins,hr.al.ar,hr.al.out,hr.al.code,hr.al.rg⟩,(hr.g.weak (Nat.le_refl _) (w2:=lsz f.rest+ksz K+1) oM0).left,hr.co⟩ oM0 (hJ _ _ _ _ hI g1 g2)
  | @fork k c I x q0 q1 l K l' E hk hq hL0 hL1 ih0 ih1 =>
    intro D' a b s s' r r' h h' ho ho' hr hN hI
    have ez:lsz (x::l)=nsz x+lsz l:=rfl
    have ezx:nsz x=1+(lsz q0+(lsz q1+0)):=by rw [zx7,hq];rfl
    have ek:ksz (⟨12,x.outs,l⟩::K)=lsz l+ksz K:=rfl
    rcases y1x hB hk hq h ho hr.al.l with ⟨hf,e⟩ | ⟨hf,q,hq',g3⟩
    ·exact zu4 hr oM0 hf ho'.1 (h'.out hB ho') e
    rcases hq' with rfl | rfl
    ·exact ih0 D' a b _ _ r r' g3 h' (z3w ho hf).1 ho' ⟨⟨hr.al.l,hr.al.l',hr.al.ins,hr.al.ar,hr.al.out,hr.al.code,hr.al.rg⟩,(hr.g.weak (Nat.le_refl _) (w2:=lsz q+(lsz l+ksz K)+1) oM0).left,hr.co⟩ oM0 hI
    exact ih1 D' a b _ _ r r' g3 h' (z3w ho hf).1 ho' ⟨⟨hr.al.l,hr.al.l',hr.al.ins,hr.al.ar,hr.al.out,hr.al.code,hr.al.rg⟩,(hr.g.weak (Nat.le_refl _) (w2:=lsz q+(lsz l+ksz K)+1) oM0).left,hr.co⟩ oM0 hI
def EF:ER:=fun _ p p' _ _=>p'.headD 0=p.headD 0/\I64 (p.headD 0)
def FRel (N:Nat) (f g:Fl):Prop:=g.types.length=f.types.length/\lsz f.body<=N/\LRel 0 0 (fun a b=>a=b/\a.length=f.types.length/\P64 a) f.body [] g.body EF
theorem y1l (hB:B<=4611686018427387903) (hA:v.arrays=u.arrays) (hP:∀ name,z05 name v.flows 0=z05 name u.flows 0)
    (hF:∀ (i:Nat) f g,u.flows[i]? = some f->v.flows[i]? = some g->FRel N f g):∀ D,HCall u v D B m N
  | 0=>fun e _ _ _ _ _ _ _ h=>absurd h (Nat.not_lt_zero e)
  | D+1=>by
    intro e e' k p s s' q q' he hp h h' ho ho' hr
    have HC:=y1l hB hA hP hF D
    obtain ⟨d1,f,r1,rfl,hk,hf,hl1,_,h1,rfl⟩:=z62 h
    obtain ⟨d1',g,r1',rfl,_,hg,hl1',_,h1',rfl⟩:=z62 h'
    obtain ⟨ht,hsz,hL⟩:=hF _ _ _ hf hg
    have R:=sound hB hA hP HC hL d1' _ _ s s' r1 r1' ⟨d1,r1,by omega,h1,by split<;>rfl⟩ ⟨d1',r1',Nat.le_refl _,h1',by split<;>rfl⟩ ho ho' (hr.weak (Nat.le_refl _) (by simp [ksz];omega) (Nat.le_refl _)) (by simp [ksz];omega) ⟨by rw [ht],by simp;omega,fun y hy=>by
      rcases List.mem_append.1 hy with hy | hy
      · exact hp y hy
      · rw [(List.mem_replicate.1 hy).2];simp [I64]⟩
    cases R with
    | ok ek eE hr2 =>
      refine .ok ?_ ?_ hr2
      ·rw [z0r hr2.al.l,z0r hr2.al.l']
       exact eE.1
      rw [z0r hr2.al.l]
      exact eE.2
    | halt hh=>exact .halt hh
    | cut hc=>exact .cut hc
end
end
section
variable {P:Program} {c:Cx} {fr:Fr} {hp:Hp} {Q:Exit->Fr->Heap'->Prop}
def ISub (x y:IV):Prop:=∀ F ρ σ w v,RepI F ρ σ w x v->RepI F ρ σ w y v
theorem ISub.refl (x:IV):ISub x x:=fun _ _ _ _ _ h=>h
theorem ISub.pv {p q:PV} (h:PSub p q):ISub (.pv p) (.pv q):=fun _ _ _ _ _ hv=>z7l h hv
def ISubs:List IV->List IV->Prop
  | [],[]=>True
  | x::xs,y::ys=>ISub x y/\ISubs xs ys
  | _,_=>False
theorem ISubs.length:∀ {xs ys:List IV},ISubs xs ys->xs.length=ys.length
  | [],[],_=>rfl
  | _::_,_::_,h=>congrArg (· + 1) (ISubs.length h.2)
theorem ISubs.at:∀ {xs ys:List IV},ISubs xs ys->∀ {j:Nat} {y:IV},ys[j]? = some y->∃ x,xs[j]? = some x/\ISub x y
  | [],[],_,_,_,hj=>by simp at hj
  | x::xs,y::ys,h,0,y',hj=>by simp at hj;subst hj;exact ⟨x,rfl,h.1⟩
  | x::xs,y::ys,h,j+1,y',hj=>by simpa using ISubs.at h.2 (by simpa using hj)
theorem All.subBox {ρ:Loc} {w:World} {a:Act} {k:Nat} {cs cs':List IV} (h:All c ρ (look hp) w fr a) (hk:look hp k=some (.box cs)) (hs:ISubs cs cs') (hR:¬ c.R k):All c ρ (look ((k,some (.box cs'))::hp)) w fr a:=by
  cases hρ:ρ k with
  | none=>obtain ⟨s,hs⟩:=h.rel.real k _ hk hρ;cases hs
  | some bc =>
    obtain ⟨b,cc⟩:=bc
    obtain ⟨o,ho,hro⟩:=h.rel.obj k b cc hρ
    rw [hk] at ho;cases ho
    refine h.write hρ hk trivial hR rfl rfl rfl rfl (fun _ _=>rfl) fun hI _=>?_
    cases hro with
    | box _ e a' u h1 h2 h3 h4 =>
      refine .box _ e a' u h1 (hs.length ▸ h2) (fun j x hj=>?_) fun j x hj=>?_
      ·obtain ⟨x0,h5,_⟩:=hs.at hj
       exact h3 j x0 h5
      obtain ⟨x0,h5,h6⟩:=hs.at hj
      exact h6 _ _ _ _ _ (hI _ _ (h4 j x0 h5))
theorem Tr.subBox {x:Code} {k:Nat} {cs:List IV} (cs':List IV) (hk:look hp k=some (.box cs)) (hs:ISubs cs cs') (hR:¬ c.R k) (h:Tr P c x fr (look ((k,some (.box cs'))::hp)) Q):Tr P c x fr (look hp) Q :=
  fun _ w a ha=>h _ w a (ha.subBox hk hs hR)
theorem ok_max {R1:Nat->Prop} {o:Oper} {σ:Heap'} {t:TypeId} {x y:Operand} {k:IntKind} {m n:Int} (ho:o.op = .call { callee:=.builtin .max,args:=#[x,y],argTypes:=#[t,t] }) (hx:fr.ev x=some (.pv (.val (.int k m)))) (hy:fr.ev y=some (.pv (.val (.int k n)))) :
    OkV P c R1 o fr σ (.pv (.val (.int k (if m<n then n else m)))):=by
  intro ρ w a h
  refine ⟨.int k (if m<n then n else m),fun w2 _=>?_,z2u _⟩
  simp [execOp,ho,z0y h hx,z0y h hy,resolve,invoke,builtin,Builtin.max_,Builtin.max2]
end
section
def sw (a b k:Nat):Nat:=bif Nat.beq k a then b else bif Nat.beq k b then a else k
theorem sw_sw (a b k:Nat):sw a b (sw a b k)=k:=by
  unfold sw
  by_cases h1:k=a
  ·subst h1
   have e1:Nat.beq k k=true:=Nat.beq_refl k
   simp only [e1,cond_true]
   by_cases h2:b=k
   ·subst h2;simp
   have e2:Nat.beq b k=false:=z06 h2
   have e3:Nat.beq b b=true:=Nat.beq_refl b
   simp [e2,e3]
  have e1:Nat.beq k a=false:=z06 h1
  simp only [e1,cond_false]
  by_cases h2:k=b
  ·subst h2
   simp
  have e2:Nat.beq k b=false:=z06 h2
  simp [e1,e2]
mutual
def IV.ren (p:Nat->Nat):IV->IV
  | .pv x=>.pv x
  | .ptr k off=>.ptr (p k) off
  | .sl k len=>.sl (p k) len
  | .rpt k len off=>.rpt (p k) len off
  | .bs k n=>.bs (p k) n
  | .mp k=>.mp (p k)
  | .agg cs=>.agg (renL p cs)
  | .tup cs=>.tup (renL p cs)
  | .fn f xs ys=>.fn f (renL p xs) (renL p ys)
def renL (p:Nat->Nat):List IV->List IV
  | []=>[]
  | x::r=>x.ren p::renL p r
end
theorem zo0 (p:Nat->Nat):∀ xs:List IV,renL p xs=xs.map (IV.ren p)
  | []=>rfl
  | x::r=>by simp [renL,zo0 p r]
theorem z59 {p:Nat->Nat} {xs:List IV} {j:Nat} {c:IV} (h:(renL p xs)[j]? = some c):∃ x,xs[j]? = some x/\c=x.ren p:=by
  rw [zo0,List.getElem?_map,Option.map_eq_some_iff] at h
  obtain ⟨x,h1,rfl⟩:=h
  exact ⟨x,h1,rfl⟩
theorem z9s (p:Nat->Nat) (xs:List IV):(renL p xs).length=xs.length:=by rw [zo0,List.length_map]
def HO.ren (p:Nat->Nat):HO->HO
  | .box cs=>.box (renL p cs)
  | .row s els=>.row s els
  | .map es=>.map es
def renP (p:Nat->Nat) (l:List (Nat × HO)):List (Nat × HO):=l.map fun x=>(p x.1,x.2.ren p)
section
variable {p:Nat->Nat} (hp:∀ k,p (p k)=k) {F:Nat->Prop} {ρ:Loc} {σ σ':Heap'} {w:World}
include hp
theorem zr4 {b:Nat}:owned F (fun k=>ρ (p k)) b↔owned F ρ b:=by
  constructor
  ·rintro (h | ⟨k,c,h⟩)
   ·exact .inl h
   exact .inr ⟨p k,c,h⟩
  rintro (h | ⟨k,c,h⟩)
  ·exact .inl h
  exact .inr ⟨p k,c,by show ρ (p (p k))=_;rw [hp];exact h⟩
theorem y0o (hσ:∀ k,σ' (p k)=(σ k).map (HO.ren p)) {x:IV} {v:Value} (h:RepI F ρ σ w x v):RepI F (fun k=>ρ (p k)) σ' w (x.ren p) v:=by
  induction h with
  | pv q v h=>exact .pv q v (h.own fun b hb=>(zr4 hp).1 hb)
  | ptr k off v h =>
    refine .ptr _ off v fun cs' h'=>?_
    rw [hσ,Option.map_eq_some_iff] at h'
    obtain ⟨o,h1,h2⟩:=h'
    cases o with
    | box cs=>obtain ⟨b,c,h3,h4⟩:=h cs h1;exact ⟨b,c,by rw [hp];exact h3,h4⟩
    | row=>cases h2
    | map=>cases h2
  | sl k len v h =>
    refine .sl _ len v fun s els h'=>?_
    rw [hσ,Option.map_eq_some_iff] at h'
    obtain ⟨o,h1,h2⟩:=h'
    cases o with
    | row s' els'=>cases h2;rw [hp];exact h _ _ h1
    | box=>cases h2
    | map=>cases h2
  | rpt k len off v h =>
    refine .rpt _ len off v fun s els h'=>?_
    rw [hσ,Option.map_eq_some_iff] at h'
    obtain ⟨o,h1,h2⟩:=h'
    cases o with
    | row s' els'=>cases h2;rw [hp];exact h _ _ h1
    | box=>cases h2
    | map=>cases h2
  | bs k n v h =>
    refine .bs _ n v fun cs' h'=>?_
    rw [hσ,Option.map_eq_some_iff] at h'
    obtain ⟨o,h1,h2⟩:=h'
    cases o with
    | box cs=>obtain ⟨b,c,h3,h4⟩:=h cs h1;exact ⟨b,c,by rw [hp];exact h3,h4⟩
    | row=>cases h2
    | map=>cases h2
  | mp k v h =>
    refine .mp _ v fun es h'=>?_
    rw [hσ,Option.map_eq_some_iff] at h'
    obtain ⟨o,h1,h2⟩:=h'
    cases o with
    | map es'=>cases h2;rw [hp];exact h _ h1
    | row=>cases h2
    | box=>cases h2
  | agg cs vs u hl hv _ ih =>
    refine .agg _ vs u (by rw [z9s];exact hl) (fun j c hj=>?_) fun j c hj=>?_
    ·obtain ⟨x,h1,rfl⟩:=z59 hj;exact hv j x h1
    obtain ⟨x,h1,rfl⟩:=z59 hj;exact ih j x h1
  | tup cs vs u hl hv _ ih =>
    refine .tup _ vs u (by rw [z9s];exact hl) (fun j c hj=>?_) fun j c hj=>?_
    ·obtain ⟨x,h1,rfl⟩:=z59 hj;exact hv j x h1
    obtain ⟨x,h1,rfl⟩:=z59 hj;exact ih j x h1
  | fn f xs ys vs ws u t hl hv _ hl' hv' _ ih ih' =>
    refine .fn f _ _ vs ws u t (by rw [z9s];exact hl) (fun j c hj=>?_) (fun j c hj=>?_) (by rw [z9s];exact hl') (fun j c hj=>?_) fun j c hj=>?_
    ·obtain ⟨x,h1,rfl⟩:=z59 hj;exact hv j x h1
    ·obtain ⟨x,h1,rfl⟩:=z59 hj;exact ih j x h1
    ·obtain ⟨x,h1,rfl⟩:=z59 hj;exact hv' j x h1
    obtain ⟨x,h1,rfl⟩:=z59 hj;exact ih' j x h1
mutual
theorem yf6:∀ x:IV,(x.ren p).ren p=x
  | .pv _=>rfl
  | .ptr k off=>by simp only [IV.ren,hp]
  | .sl k len=>by simp only [IV.ren,hp]
  | .rpt k len off=>by simp only [IV.ren,hp]
  | .bs k n=>by simp only [IV.ren,hp]
  | .mp k=>by simp only [IV.ren,hp]
  | .agg cs=>by simp only [IV.ren,z7j cs]
  | .tup cs=>by simp only [IV.ren,z7j cs]
  | .fn f xs ys=>by simp only [IV.ren,z7j xs,z7j ys]
theorem z7j:∀ xs:List IV,renL p (renL p xs)=xs
  | []=>rfl
  | x::r=>by simp only [renL,yf6 x,z7j r]
end
theorem HO.ren_ren (o:HO):(o.ren p).ren p=o:=by cases o<;>simp [HO.ren,z7j hp]
theorem repO_ren (hσ:∀ k,σ' (p k)=(σ k).map (HO.ren p)) {b c:Nat} {o:HO} (h:RepO F ρ σ w b c o):RepO F (fun k=>ρ (p k)) σ' w b c (o.ren p):=by
  cases h with
  | box cs e a u h1 h2 h3 h4 =>
    refine .box _ e a u h1 (by rw [z9s];exact h2) (fun j x hj=>?_) fun j x hj=>?_
    ·obtain ⟨y,h5,rfl⟩:=z59 hj;exact h3 j y h5
    obtain ⟨y,h5,rfl⟩:=z59 hj;exact y0o hp hσ (h4 j y h5)
  | row s els a u h1 h2 h3 h4 h5 h6 h7=>exact .row s els a u h1 h2 h3 h4 h5 h6 fun i el hi j x hj=>(h7 i el hi j x hj).own fun b hb=>(zr4 hp).1 hb
  | map es a t u h1 h2 h3 h4=>exact .map es a t u h1 h2 h3 fun i k q hi=>(h4 i k q hi).own fun b hb=>(zr4 hp).1 hb
theorem y6s (hσ:∀ k,σ' (p k)=(σ k).map (HO.ren p)) (h:RelH F ρ σ w):RelH F (fun k=>ρ (p k)) σ' w where
  inj k k' b c c' h1 h2:=by
    have:=h.inj _ _ _ _ _ h1 h2
    rw [<- hp k,this,hp]
  apart k b c h1:=h.apart _ _ _ h1
  old:=h.old
  obj k b c h1:=by
    obtain ⟨o,h2,h3⟩:=h.obj _ _ _ h1
    refine ⟨o.ren p,?_,repO_ren hp hσ h3⟩
    have:=hσ (p k)
    rw [hp,h2] at this
    exact this
  real k o h1 h2:=by
    have h3:=hσ (p k)
    rw [hp,h1] at h3
    obtain ⟨o',h4,h5⟩:=Option.map_eq_some_iff.1 h3.symm
    obtain ⟨s,rfl⟩:=h.real _ _ h4 h2
    exact ⟨s,h5.symm⟩
end
theorem yk4 {p:Nat->Nat} (hp:∀ k,p (p k)=k) {F R:Nat->Prop} {ρ ρ1:Loc} {σ σ1 τ τ1:Heap'} {w w':World} (hσ:∀ k,τ (p k)=(σ k).map (HO.ren p)) (hσ1:∀ k,τ1 (p k)=(σ1 k).map (HO.ren p)) (t:Trans F R ρ σ w ρ1 σ1 w') :
    Trans F (fun k=>R (p k)) (fun k=>ρ (p k)) τ w (fun k=>ρ1 (p k)) τ1 w' where
  os:=t.os
  tape:=t.tape
  output:=t.output
  size:=t.size
  blk b hb h:=t.blk b hb fun k c hk=>by
    have:=h (p k) c (by rw [hp];exact hk)
    rwa [hp] at this
  own k b c h hb:=t.own _ b c h hb
  box k cs cs' h h':=by
    have e:=hσ (p k);have e':=hσ1 (p k)
    rw [hp,h] at e;rw [hp,h'] at e'
    obtain ⟨o,h1,h2⟩:=Option.map_eq_some_iff.1 e.symm
    obtain ⟨o',h3,h4⟩:=Option.map_eq_some_iff.1 e'.symm
    cases o with
    | box cs0=>cases o' with
      | box cs1=>exact t.box _ _ _ h1 h3
      | row=>cases h4
      | map=>cases h4
    | row=>cases h2
    | map=>cases h2
  map k cs cs' h h':=by
    have e:=hσ (p k);have e':=hσ1 (p k)
    rw [hp,h] at e;rw [hp,h'] at e'
    obtain ⟨o,h1,h2⟩:=Option.map_eq_some_iff.1 e.symm
    obtain ⟨o',h3,h4⟩:=Option.map_eq_some_iff.1 e'.symm
    cases o with
    | map cs0=>cases o' with
      | map cs1=>exact t.map _ _ _ h1 h3
      | row=>cases h4
      | box=>cases h4
    | row=>cases h2
    | box=>cases h2
  row k s s' els els' h h' hl:=by
    have e:=hσ (p k);have e':=hσ1 (p k)
    rw [hp,h] at e;rw [hp,h'] at e'
    obtain ⟨o,h1,h2⟩:=Option.map_eq_some_iff.1 e.symm
    obtain ⟨o',h3,h4⟩:=Option.map_eq_some_iff.1 e'.symm
    cases o with
    | row s0 cs0=>cases o' with
      | row s1 cs1=>cases h2;cases h4;exact t.row _ _ _ _ _ h1 h3 hl
      | map=>cases h4
      | box=>cases h4
    | map=>cases h2
    | box=>cases h2
  grow k s s' els els' h h':=by
    have e:=hσ (p k);have e':=hσ1 (p k)
    rw [hp,h] at e;rw [hp,h'] at e'
    obtain ⟨o,h1,h2⟩:=Option.map_eq_some_iff.1 e.symm
    obtain ⟨o',h3,h4⟩:=Option.map_eq_some_iff.1 e'.symm
    cases o with
    | row s0 cs0=>cases o' with
      | row s1 cs1=>cases h2;cases h4;exact t.grow _ _ _ _ _ h1 h3
      | map=>cases h4
      | box=>cases h4
    | map=>cases h2
    | box=>cases h2
  kindB k cs' h':=by
    have e':=hσ1 (p k);have e:=hσ (p k)
    rw [hp,h'] at e';rw [hp] at e
    obtain ⟨o',h3,h4⟩:=Option.map_eq_some_iff.1 e'.symm
    cases o' with
    | box cs1 =>
      rcases t.kindB _ _ h3 with h5 | ⟨cs,h5⟩
      ·rw [h5] at e;exact .inl e
      rw [h5] at e;exact .inr ⟨_,e⟩
    | row=>cases h4
    | map=>cases h4
  kindM k cs' h':=by
    have e':=hσ1 (p k);have e:=hσ (p k)
    rw [hp,h'] at e';rw [hp] at e
    obtain ⟨o',h3,h4⟩:=Option.map_eq_some_iff.1 e'.symm
    cases o' with
    | map cs1 =>
      rcases t.kindM _ _ h3 with h5 | ⟨cs,h5⟩
      ·rw [h5] at e;exact .inl e
      rw [h5] at e;exact .inr ⟨_,e⟩
    | row=>cases h4
    | box=>cases h4
  kindR k s cs' h':=by
    have e':=hσ1 (p k);have e:=hσ (p k)
    rw [hp,h'] at e';rw [hp] at e
    obtain ⟨o',h3,h4⟩:=Option.map_eq_some_iff.1 e'.symm
    cases o' with
    | row s1 cs1 =>
      cases h4
      rcases t.kindR _ _ _ h3 with h5 | ⟨cs,h5⟩
      ·rw [h5] at e;exact .inl e
      rw [h5] at e;exact .inr ⟨_,e⟩
    | map=>cases h4
    | box=>cases h4
theorem beq_ren {p:Nat->Nat} (hp:∀ k,p (p k)=k) (a k:Nat):Nat.beq (p a) (p k)=Nat.beq a k:=by
  by_cases h:a=k
  ·subst h;simp
  rw [z06 h,z06 fun e=>h (by rw [<- hp a,e,hp])]
theorem z9k {p:Nat->Nat} (hp:∀ k,p (p k)=k):∀ (l:List (Nat × HO)) (k:Nat),look (up (renP p l)) (p k)=(look (up l) k).map (HO.ren p)
  | [],_=>rfl
  | (a,o)::r,k=>by
    simp only [renP,up,List.map_cons,look]
    rw [beq_ren hp]
    cases Nat.beq a k with
    | true=>rfl
    | false=>exact z9k hp r k
theorem SC.ren {P:Program} {p:Nat->Nat} (hp:∀ k,p (p k)=k) {f:FuncId} {args:List IV} {pre post:List (Nat × HO)} {R:Nat->Prop} {r:IV} (h:SC P f args pre R r post):SC P f (renL p args) (renP p pre) (fun k=>R (p k)) (r.ren p) (renP p post):=by
  intro F ρ w vs hrel hargs
  have hb:∀ (l:List (Nat × HO)) (k:Nat),look (up l) (p k)=(look (up (renP p l)) k).map (HO.ren p):=by
    intro l k
    have:=z9k hp l (p k)
    rw [hp] at this
    rw [this]
    cases look (up l) (p k) with
    | none=>rfl
    | some o=>exact congrArg some (HO.ren_ren hp o).symm
  have h1:RelH F (fun k=>ρ (p k)) (look (up pre)) w:=y6s hp (hb pre) hrel
  have h2:RepL F (fun k=>ρ (p k)) (look (up pre)) w args vs:=by
    refine ⟨by rw [<- hargs.1,z9s],fun j x hj=>?_⟩
    obtain ⟨v,h3,h4⟩:=hargs.2 j (x.ren p) (by rw [zo0,List.getElem?_map,hj];rfl)
    have h5:=y0o hp (hb pre) h4
    rw [yf6 hp] at h5
    exact ⟨v,h3,h5⟩
  refine Calls.mono (h F _ w vs h1 h2) fun e w' hq=>?_
  obtain ⟨ρ',v,h3,h4,h5,h6⟩:=hq
  refine ⟨fun k=>ρ' (p k),v,h3,y0o hp (z9k hp post) h4,y6s hp (z9k hp post) h5,?_⟩
  have:=yk4 hp (z9k hp pre) (z9k hp post) h6
  simpa only [hp] using this
theorem SC.sw {P:Program} {f:FuncId} {args:List IV} {pre post:List (Nat × HO)} {R:Nat->Prop} {r:IV} (a b:Nat) (h:SC P f args pre R r post):SC P f (renL (sw a b) args) (renP (sw a b) pre) (fun k=>R (Proofs.YthbcibeddfacbaaGreat.sw a b k)) (r.ren (Proofs.YthbcibeddfacbaaGreat.sw a b)) (renP (Proofs.YthbcibeddfacbaaGreat.sw a b) post):=h.ren (sw_sw a b)
end
section
variable {P:Program} {c:Cx} {R1:Nat->Prop} {o:Oper} {fr:Fr} {hp:Hp} {σ:Heap'} {Q:Exit->Fr->Heap'->Prop}
theorem Names.one {Q:Nat->Prop} {x:IV} (h:Names Q x):∃ k,Q k/\Names (· = k) x:=by
  induction h with
  | ptr h=>exact ⟨_,h,.ptr rfl⟩
  | sl h=>exact ⟨_,h,.sl rfl⟩
  | rpt h=>exact ⟨_,h,.rpt rfl⟩
  | bs h=>exact ⟨_,h,.bs rfl⟩
  | mp h=>exact ⟨_,h,.mp rfl⟩
  | agg hc _ ih=>obtain ⟨k,h1,h2⟩:=ih;exact ⟨k,h1,.agg hc h2⟩
  | tup hc _ ih=>obtain ⟨k,h1,h2⟩:=ih;exact ⟨k,h1,.tup hc h2⟩
  | fn1 hc _ ih=>obtain ⟨k,h1,h2⟩:=ih;exact ⟨k,h1,.fn1 hc h2⟩
  | fn2 hc _ ih=>obtain ⟨k,h1,h2⟩:=ih;exact ⟨k,h1,.fn2 hc h2⟩
theorem mem2 {p:Nat->Prop} {a b:Nat} (ha:p a) (hb:p b):∀ k∈[a,b],p k:=fun k hk=>by
  rcases List.mem_cons.1 hk with rfl | hk
  ·exact ha
  obtain rfl:=List.mem_singleton.1 hk;exact hb
open Classical in
theorem SC.stepN {ns:List Nat} {f:FuncId} {args:List IV} {pre post:List (Nat × HO)} {R:Nat->Prop} {r:IV} {hp:Hp} {ρ:Loc} {w:World} {a:Act} {vs:List Value} (hsc:SC P f args pre R r post)
    (h:All c ρ (look hp) w fr a) (hargs:RepL c.F ρ (look hp) w args vs) (hpre:∀ k o,look (up pre) k=some o->look hp k=some o) (hdom:post.map (·.1)=ns++pre.map (·.1)) (hσ0:∀ k∈ns,look hp k=none) (hc0:∀ k∈ns,c.σ k=none) (hfr0:∀ k∈ns,nmFr k fr=false) (hhp0:∀ k∈ns,nmHp k hp=false)
    (hR:∀ k,c.R k->look (up pre) k=none∨R k) (hr:only (post.map (·.1)) r=true) (hpost:z30 (post.map (·.1)) post=true) :
    Calls P f vs.toArray w fun e w'=>∃ ρ' v,e = .returned v/\All c ρ' (look (up post++hp)) w' fr a/\RepI c.F ρ' (look (up post++hp)) w' r v:=by
  have hd:∀ k,look (up post) k=none↔look (up pre) k=none/\k∉ns:=fun k=>by
    rw [z1e,z1e,hdom,List.mem_append,not_or]
    exact And.comm
  have hpp:∀ k,look (up post) k≠none->look hp k≠none->look (up pre) k≠none:=fun k e e1 e2=>by
    by_cases e3:k∈ns
    ·exact e1 (hσ0 k e3)
    exact e ((hd k).2 ⟨e2,e3⟩)
  let ρ1:Loc:=fun k=>if look (up pre) k=none then none else ρ k
  let F1:Nat->Prop:=fun b=>c.F b∨∃ k cc,ρ k=some (b,cc)/\look (up pre) k=none
  have h1in:∀ k,look (up pre) k≠none -> ρ1 k = ρ k:=fun k hk=>if_neg hk
  have h1out:∀ k,look (up pre) k=none -> ρ1 k=none:=fun k hk=>if_pos hk
  have h1:∀ k l,ρ1 k=some l->look (up pre) k≠none /\ ρ k=some l:=fun k l hk=>by
    by_cases e:look (up pre) k=none
    ·rw [h1out k e] at hk;cases hk
    exact ⟨e,(h1in k e) ▸ hk⟩
  have hown1:∀ b,owned F1 ρ1 b->owned c.F ρ b:=fun b hb=>by
    rcases hb with (hb | ⟨k,cc,hk,_⟩) | ⟨k,cc,hk⟩
    ·exact .inl hb
    ·exact .inr ⟨k,cc,hk⟩
    exact .inr ⟨k,cc,(h1 k _ hk).2⟩
  have hconv:∀ x:IV,¬ Names (fun k=>¬ ∀ o,look (up pre) k=some o->look hp k=some o /\ ρ1 k = ρ k) x:=fun x hx=>by
    obtain ⟨k,hk⟩:=hx.some
    exact hk fun o ho=>⟨hpre k o ho,h1in k (by simp [ho])⟩
  have hrel1:RelH F1 ρ1 (look (up pre)) w:=by
    refine ⟨fun k k' b cc cc' hk hk'=>h.rel.inj k k' b cc cc' (h1 _ _ hk).2 (h1 _ _ hk').2,fun k b cc hk hb=>?_,fun b hb=>?_,fun k b cc hk=>?_,fun k o hk hρ=>?_⟩
    ·rcases hb with hb | ⟨k',cc',hk',hn⟩
     ·exact h.rel.apart k b cc (h1 _ _ hk).2 hb
     obtain rfl:=h.rel.inj _ _ _ _ _ (h1 _ _ hk).2 hk'
     exact (h1 _ _ hk).1 hn
    ·rcases hb with hb | ⟨k',cc',hk',_⟩
     ·exact h.rel.old b hb
     exact h.rel.lt hk'
    ·obtain ⟨hne,hk2⟩:=h1 _ _ hk
     obtain ⟨o1,ho1,ho2⟩:=h.rel.obj k b cc hk2
     cases hl:look (up pre) k with
     | none=>exact absurd hl hne
     | some o2 =>
       rw [hpre k o2 hl] at ho1;cases ho1
       exact ⟨_,rfl,ho2.conv hown1 fun x _=>hconv x⟩
    rw [h1in k (by simp [hk])] at hρ
    exact h.rel.real k o (hpre k o hk) hρ
  refine (hsc F1 ρ1 w vs hrel1 ⟨hargs.1,fun j x hj=>?_⟩).mono ?_
  ·obtain ⟨v,hv,hx⟩:=hargs.2 j x hj
   exact ⟨v,hv,hx.conv hown1 (hconv x)⟩
  rintro e w' ⟨ρ2,v,rfl,hv,hrel2,t⟩
  let ρ':Loc:=fun k=>if look (up post) k=none then ρ k else ρ2 k
  have h2in:∀ k,look (up post) k≠none -> ρ' k = ρ2 k:=fun k hk=>if_neg hk
  have h2out:∀ k,look (up post) k=none -> ρ' k = ρ k:=fun k hk=>if_pos hk
  have h2none:∀ k,look (up post) k=none -> ρ2 k=none:=fun k hk=>by
    cases h3:ρ2 k with
    | none=>rfl
    | some l =>
      obtain ⟨o1,ho1,_⟩:=hrel2.obj k l.1 l.2 h3
      rw [hk] at ho1;cases ho1
  have hσin:∀ k,look (up post) k≠none->look (up post++hp) k=look (up post) k:=fun k hk=>by
    rw [z2a]
    cases h3:look (up post) k with
    | none=>exact absurd h3 hk
    | some o=>rfl
  have hσout:∀ k,look (up post) k=none->look (up post++hp) k=look hp k:=fun k hk=>by
    rw [z2a,hk];rfl
  have hown2:∀ b,owned c.F ρ' b->owned F1 ρ2 b:=fun b hb=>by
    rcases hb with hb | ⟨k,cc,hk⟩
    ·exact .inl (.inl hb)
    by_cases e:look (up post) k=none
    ·rw [h2out k e] at hk;exact .inl (.inr ⟨k,cc,hk,((hd k).1 e).1⟩)
    rw [h2in k e] at hk;exact .inr ⟨k,cc,hk⟩
  have hconv2:∀ x:IV,only (post.map (·.1)) x=true -> ¬ Names (fun k=>¬ ∀ o,look (up post++hp) k=some o->look (up post) k=some o /\ ρ' k = ρ2 k) x:=fun x hx hn=>by
    refine zi8 hx (hn.imp fun k hk hmem=>hk fun o ho=>?_)
    have hne:look (up post) k≠none:=fun e=>(z1e.1 e) hmem
    rw [hσin k hne] at ho
    exact ⟨ho,h2in k hne⟩
  have T:Trans c.F (fun k=>look (up pre) k=none∨R k) ρ (look hp) w ρ' (look (up post++hp)) w':=by
    refine ⟨t.os,t.tape,t.output,t.size,fun b hb hall=>t.blk b hb fun k cc hk=>?_,fun k b cc hk hb=>?_,fun k cs cs' e1 e2=>?_,fun k cs cs' e1 e2=>?_,fun k s s' els els' e1 e2 hl=>?_,fun k s s' els els' e1 e2=>?_,fun k cs' e2=>?_,fun k cs' e2=>?_,fun k s els' e2=>?_⟩
    ·obtain ⟨hne,hk2⟩:=h1 _ _ hk
     exact (hall k cc hk2).resolve_left hne
    ·by_cases e:look (up post) k=none
     ·rwa [h2out k e] at hk
     rw [h2in k e] at hk;exact (h1 _ _ (t.own k b cc hk hb)).2
    all_goals by_cases e:look (up post) k=none
    ·exact h2out k e
    ·cases h3:look (up pre) k with
     | none=>exact absurd h3 (hpp k e (by simp [e1]))
     | some o =>
       rw [hpre k o h3] at e1;cases e1
       rw [hσin k e] at e2
       rw [h2in k e,t.box k _ _ h3 e2,h1in k (by simp [h3])]
    ·exact h2out k e
    ·cases h3:look (up pre) k with
     | none=>exact absurd h3 (hpp k e (by simp [e1]))
     | some o =>
       rw [hpre k o h3] at e1;cases e1
       rw [hσin k e] at e2
       rw [h2in k e,t.map k _ _ h3 e2,h1in k (by simp [h3])]
    ·exact h2out k e
    ·cases h3:look (up pre) k with
     | none=>exact absurd h3 (hpp k e (by simp [e1]))
     | some o =>
       rw [hpre k o h3] at e1;cases e1
       rw [hσin k e] at e2
       rw [h2in k e,t.row k _ _ _ _ h3 e2 hl,h1in k (by simp [h3])]
    ·rw [hσout k e,e1] at e2;cases e2;exact Nat.le_refl _
    ·cases h3:look (up pre) k with
     | none=>exact absurd h3 (hpp k e (by simp [e1]))
     | some o =>
       rw [hpre k o h3] at e1;cases e1
       rw [hσin k e] at e2
       exact t.grow k _ _ _ _ h3 e2
    ·rw [hσout k e] at e2;exact .inr ⟨_,e2⟩
    ·rw [hσin k e] at e2
     rcases t.kindB k _ e2 with h3 | ⟨cs,h3⟩
     ·by_cases e3:k∈ns
      ·exact .inl (hσ0 k e3)
      exact absurd ((hd k).2 ⟨h3,e3⟩) e
     exact .inr ⟨cs,hpre k _ h3⟩
    ·rw [hσout k e] at e2;exact .inr ⟨_,e2⟩
    ·rw [hσin k e] at e2
     rcases t.kindM k _ e2 with h3 | ⟨cs,h3⟩
     ·by_cases e3:k∈ns
      ·exact .inl (hσ0 k e3)
      exact absurd ((hd k).2 ⟨h3,e3⟩) e
     exact .inr ⟨cs,hpre k _ h3⟩
    ·rw [hσout k e] at e2;exact .inr ⟨_,e2⟩
    rw [hσin k e] at e2
    rcases t.kindR k _ _ e2 with h3 | ⟨cs,h3⟩
    ·by_cases e3:k∈ns
     ·exact .inl (hσ0 k e3)
     exact absurd ((hd k).2 ⟨h3,e3⟩) e
    exact .inr ⟨cs,hpre k _ h3⟩
  have hnone:∀ k,(look hp k=none/\look (up post++hp) k≠none)->k∈ns:=fun k hk=>by
    by_cases e:look (up post) k=none
    ·rw [hσout k e] at hk;exact absurd hk.1 hk.2
    refine Classical.byContradiction fun e3=>?_
    have e4:look (up pre) k≠none:=fun h3=>e ((hd k).2 ⟨h3,e3⟩)
    cases h3:look (up pre) k with
    | none=>exact e4 h3
    | some o=>rw [hpre k o h3] at hk;cases hk.1
  have hnn:∀ x:IV,(∀ k∈ns,nm k x=false) -> ¬ Names (fun k=>look hp k=none/\look (up post++hp) k≠none) x:=fun x hx hn=>by
    obtain ⟨k,hk,hk2⟩:=(hn.imp hnone).one
    have:=hx k hk
    rw [zn6 hk2] at this;cases this
  refine ⟨ρ',v,rfl,h.step T hR ⟨fun k k' b cc cc' hk hk'=>?_,fun k b cc hk hb=>?_,fun b hb=>Nat.lt_of_lt_of_le (h.rel.old b hb) t.size,fun k b cc hk=>?_,fun k o hk hρ=>?_⟩ (fun k e1 e2=>hc0 k (hnone k ⟨e1,e2⟩)) fun _ x hx=>hnn x fun k hk=>zf1 (hfr0 k hk) hx,hv.conv hown2 (hconv2 r hr)⟩
  ·by_cases e:look (up post) k=none<;>by_cases e':look (up post) k'=none
   ·rw [h2out k e] at hk;rw [h2out k' e'] at hk';exact h.rel.inj _ _ _ _ _ hk hk'
   ·rw [h2out k e] at hk;rw [h2in k' e'] at hk'
    exact absurd (.inr ⟨k,cc,hk,((hd k).1 e).1⟩) (hrel2.apart _ _ _ hk')
   ·rw [h2in k e] at hk;rw [h2out k' e'] at hk'
    exact absurd (.inr ⟨k',cc',hk',((hd k').1 e').1⟩) (hrel2.apart _ _ _ hk)
   rw [h2in k e] at hk;rw [h2in k' e'] at hk';exact hrel2.inj _ _ _ _ _ hk hk'
  ·by_cases e:look (up post) k=none
   ·rw [h2out k e] at hk;exact h.rel.apart _ _ _ hk hb
   rw [h2in k e] at hk;exact hrel2.apart _ _ _ hk (.inl hb)
  ·by_cases e:look (up post) k=none
   ·rw [h2out k e] at hk
    obtain ⟨o1,ho1,ho2⟩:=h.rel.obj k b cc hk
    refine ⟨o1,(hσout k e).trans ho1,ho2.keep T (t.blk b (h.rel.lt hk) fun k' cc' hk'=>?_) fun x ⟨cs,h3,h4⟩=>hnn x fun k hk=>by subst h3;exact z5k (z93 (hhp0 k hk) ho1) h4⟩
    obtain ⟨hne,hk2⟩:=h1 _ _ hk'
    obtain rfl:=h.rel.inj _ _ _ _ _ hk hk2
    exact absurd ((hd _).1 e).1 hne
   rw [h2in k e] at hk
   obtain ⟨o1,ho1,ho2⟩:=hrel2.obj k b cc hk
   refine ⟨o1,(hσin k e).trans ho1,ho2.conv hown2 fun x ⟨cs,h3,h4⟩=>hconv2 x ?_⟩
   subst h3
   exact z5h (z66 hpost (z19 ho1)) h4
  by_cases e:look (up post) k=none
  ·rw [hσout k e] at hk;rw [h2out k e] at hρ;exact h.rel.real k o hk hρ
  rw [hσin k e] at hk;rw [h2in k e] at hρ;exact hrel2.real k o hk hρ
theorem y2g {ns:List Nat} {f:FuncId} {os:Array Operand} {tys:Array TypeId} {xs args:List IV} {pre post:List (Nat × HO)} {R:Nat->Prop} {r:IV} {hp:Hp} (hsc:SC P f args pre R r post) (hf:z0f P f)
    (ho:o.op = .call { callee:=.value (.func f),args:=os,argTypes:=tys }) (hx:evs fr os.toList=some xs) (hs:Subs (look hp) xs args) (hpre:∀ k o,look (up pre) k=some o->look hp k=some o) (hdom:post.map (·.1)=ns++pre.map (·.1)) (hσ0:∀ k∈ns,look hp k=none) (hc0:∀ k∈ns,c.σ k=none) (hfr0:∀ k∈ns,nmFr k fr=false) (hhp0:∀ k∈ns,nmHp k hp=false)
    (hR:∀ k,c.R k->look (up pre) k=none∨R k) (hr:only (post.map (·.1)) r=true) (hpost:z30 (post.map (·.1)) post=true):Ok P c o fr (look hp) r (look (up post++hp)):=by
  intro ρ w a K Q h hK
  obtain ⟨fn,hfn,hname,hbody⟩:=hf
  have hargs:=hs _ _ _ _ (z8r h hx)
  have hrun:(execOp a.eval o).run P w = .ok (.enter f (os.toList.map a.eval).toArray) w:=by
    have hcall:(callFunc f (os.toList.map a.eval).toArray).run P w = .ok (.enter f (os.toList.map a.eval).toArray) w:=by
      unfold callFunc
      simp only [Sem.run_bind]
      show (Result.andThen (.ok P w) _)=_
      simp only [Result.andThen_ok,hfn,hname,hbody]
      rfl
    simp only [execOp,ho,resolve,Act.eval,Deferred.ofValue,Sem.run_bind,Sem.run_pure,Result.andThen_ok,invoke]
    rw [<- hcall]
    congr 2
    apply Array.ext'
    simp
  unfold Oper.wp
  rw [hrun,Oper.upon_enter]
  refine (hsc.stepN h hargs hpre hdom hσ0 hc0 hfr0 hhp0 hR hr hpost).mono ?_
  rintro e w' ⟨ρ',v,rfl,h1,h2⟩
  exact hK ρ' w' v h1 h2
def kyV (k:Ky):Value:=.agg #[.int .i64 k.kind,.int .i64 k.op,.int .i64 k.n,.int .i64 k.a,.int .i64 k.b]
abbrev kyP (k:Ky):PV:=.agg [vInt k.kind,vInt k.op,vInt k.n,vInt k.a,vInt k.b]
def kyEs (l:List (Ky × Int)):List (Value × PV):=l.map fun e=>(kyV e.1,vInt e.2)
theorem yc5 {own:Nat->Prop} {w:World} {k:Ky} {v:Value} (h:RepP own w (kyP k) v):v=kyV k:=by
  cases h with
  | agg _ vs u hl hv hr =>
    have h0:=hv 0 _ rfl;have h1:=hv 1 _ rfl;have h2:=hv 2 _ rfl;have h3:=hv 3 _ rfl;have h4:=hv 4 _ rfl
    have r0:=hr 0 _ rfl;have r1:=hr 1 _ rfl;have r2:=hr 2 _ rfl;have r3:=hr 3 _ rfl;have r4:=hr 4 _ rfl
    cases hu0:u 0<;>rw [hu0] at r0<;>cases r0
    cases hu1:u 1<;>rw [hu1] at r1<;>cases r1
    cases hu2:u 2<;>rw [hu2] at r2<;>cases r2
    cases hu3:u 3<;>rw [hu3] at r3<;>cases r3
    cases hu4:u 4<;>rw [hu4] at r4<;>cases r4
    rw [hu0] at h0;rw [hu1] at h1;rw [hu2] at h2;rw [hu3] at h3;rw [hu4] at h4
    unfold kyV
    congr 1
    apply Array.ext_getElem?
    intro i
    match i with
    | 0=>simpa using h0
    | 1=>simpa using h1
    | 2=>simpa using h2
    | 3=>simpa using h3
    | 4=>simpa using h4
    | i+5=>rw [Array.getElem?_eq_none (by simp at hl;omega),Array.getElem?_eq_none sI0]
structure K5 (P:Program) (t:TypeId) (f0 f1 f2 f3 f4:Field):Prop where
  hu:P.underlying t=some (.struct #[f0,f1,f2,f3,f4])
  hs:P.stoodInHeld t=false
  t0:P.underlying f0.type=some (.int .i64)
  t1:P.underlying f1.type=some (.int .i64)
  t2:P.underlying f2.type=some (.int .i64)
  t3:P.underlying f3.type=some (.int .i64)
  t4:P.underlying f4.type=some (.int .i64)
  n0:f0.name ≠ "_"
  n1:f1.name ≠ "_"
  n2:f2.name ≠ "_"
  n3:f3.name ≠ "_"
  n4:f4.name ≠ "_"
  o0:f0.offset=0
  o1:f1.offset=1
  o2:f2.offset=2
  o3:f3.offset=3
  o4:f4.offset=4
section
variable {kt:TypeId} {f0 f1 f2 f3 f4:Field}
theorem K5.part0 (K:K5 P kt f0 f1 f2 f3 f4) (w:World) (a b c d e:Int):(part f0.type #[.int .i64 a,.int .i64 b,.int .i64 c,.int .i64 d,.int .i64 e] f0.offset).run P w = .ok (.int .i64 a) w:=by simp [part,z4u K.t0,TypeDesc.isRow,K.o0,Sem.run_bind]
theorem K5.part1 (K:K5 P kt f0 f1 f2 f3 f4) (w:World) (a b c d e:Int):(part f1.type #[.int .i64 a,.int .i64 b,.int .i64 c,.int .i64 d,.int .i64 e] f1.offset).run P w = .ok (.int .i64 b) w:=by simp [part,z4u K.t1,TypeDesc.isRow,K.o1,Sem.run_bind]
theorem K5.part2 (K:K5 P kt f0 f1 f2 f3 f4) (w:World) (a b c d e:Int):(part f2.type #[.int .i64 a,.int .i64 b,.int .i64 c,.int .i64 d,.int .i64 e] f2.offset).run P w = .ok (.int .i64 c) w:=by simp [part,z4u K.t2,TypeDesc.isRow,K.o2,Sem.run_bind]
theorem K5.part3 (K:K5 P kt f0 f1 f2 f3 f4) (w:World) (a b c d e:Int):(part f3.type #[.int .i64 a,.int .i64 b,.int .i64 c,.int .i64 d,.int .i64 e] f3.offset).run P w = .ok (.int .i64 d) w:=by simp [part,z4u K.t3,TypeDesc.isRow,K.o3,Sem.run_bind]
theorem K5.part4 (K:K5 P kt f0 f1 f2 f3 f4) (w:World) (a b c d e:Int):(part f4.type #[.int .i64 a,.int .i64 b,.int .i64 c,.int .i64 d,.int .i64 e] f4.offset).run P w = .ok (.int .i64 e) w:=by simp [part,z4u K.t4,TypeDesc.isRow,K.o4,Sem.run_bind]
theorem K5.eq (K:K5 P kt f0 f1 f2 f3 f4) (w:World) (k k':Ky):(Op.equal kt (kyV k) (kyV k')).run P w = .ok (decide (k=k')) w:=by
  have hfs:P.fieldsOf kt = #[f0,f1,f2,f3,f4]:=by simp [Program.fieldsOf,K.hu]
  show (Op.equalIn (9999+1) kt (.agg _) (.agg _)).run P w=_
  rw [run_equalIn_struct w 9999 kt _ _ (by rw [hfs];exact K.hu) K.hs,hfs]
  have e0:∀ a b:Int,(Op.equalIn 9999 f0.type (.int .i64 a) (.int .i64 b)).run P w = .ok (a==b) w:=fun a b=>run_equalIn_int w 9998 f0.type .i64 .i64 a b K.t0
  have e1:∀ a b:Int,(Op.equalIn 9999 f1.type (.int .i64 a) (.int .i64 b)).run P w = .ok (a==b) w:=fun a b=>run_equalIn_int w 9998 f1.type .i64 .i64 a b K.t1
  have e2:∀ a b:Int,(Op.equalIn 9999 f2.type (.int .i64 a) (.int .i64 b)).run P w = .ok (a==b) w:=fun a b=>run_equalIn_int w 9998 f2.type .i64 .i64 a b K.t2
  have e3:∀ a b:Int,(Op.equalIn 9999 f3.type (.int .i64 a) (.int .i64 b)).run P w = .ok (a==b) w:=fun a b=>run_equalIn_int w 9998 f3.type .i64 .i64 a b K.t3
  have e4:∀ a b:Int,(Op.equalIn 9999 f4.type (.int .i64 a) (.int .i64 b)).run P w = .ok (a==b) w:=fun a b=>run_equalIn_int w 9998 f4.type .i64 .i64 a b K.t4
  obtain ⟨a0,a1,a2,a3,a4⟩:=k
  obtain ⟨b0,b1,b2,b3,b4⟩:=k'
  have S:∀ (f:Field) (fs:List Field) (xs ys:Array Value) (a b:Int),f.name ≠ "_" -> (part f.type xs f.offset).run P w = .ok (.int .i64 a) w->(part f.type ys f.offset).run P w = .ok (.int .i64 b) w->(Op.equalIn 9999 f.type (.int .i64 a) (.int .i64 b)).run P w = .ok (a==b) w ->
      (Op.eqFields 9999 xs ys (f::fs)).run P w=if a=b then (Op.eqFields 9999 xs ys fs).run P w else .ok false w:=fun f fs xs ys a b hn hx hy he=>by
    simp only [Op.eqFields,hn,ne_eq,not_false_eq_true,if_true,Sem.run_bind,hx,hy,he,Result.andThen_ok]
    by_cases h:a=b
    ·simp [h]
    have:(a==b)=false:=by simpa using h
    simp [h]
  rw [S f0 _ _ _ a0 b0 K.n0 (K.part0 ..) (K.part0 ..) (e0 ..),S f1 _ _ _ a1 b1 K.n1 (K.part1 ..) (K.part1 ..) (e1 ..),S f2 _ _ _ a2 b2 K.n2 (K.part2 ..) (K.part2 ..) (e2 ..),S f3 _ _ _ a3 b3 K.n3 (K.part3 ..) (K.part3 ..) (e3 ..),S f4 _ _ _ a4 b4 K.n4 (K.part4 ..) (K.part4 ..) (e4 ..)]
  have hn:(Op.eqFields 9999 #[.int .i64 a0,.int .i64 a1,.int .i64 a2,.int .i64 a3,.int .i64 a4] #[.int .i64 b0,.int .i64 b1,.int .i64 b2,.int .i64 b3,.int .i64 b4] []).run P w = .ok true w:=by simp [Op.eqFields]
  rw [hn]
  by_cases h0:a0=b0<;>by_cases h1:a1=b1<;>by_cases h2:a2=b2<;>by_cases h3:a3=b3<;>by_cases h4:a4=b4<;>simp [h0,h1,h2,h3,h4]
theorem K5.check (K:K5 P kt f0 f1 f2 f3 f4) (w:World) (em:Bool) (k:Ky):(Instr.checkKey em 10000 kt (kyV k)).run P w = .ok () w:=by
  show (Instr.checkKey em (9999+1) kt (.agg _)).run P w=_
  rw [Instr.checkKey]
  have c:∀ (t:TypeId) (a:Int),P.underlying t=some (.int .i64)->(Instr.checkKey em 9999 t (.int .i64 a)).run P w = .ok () w:=fun t a h=>MapKept.run_checkKey (w:=w) h (k:=.int .i64 a) (by simp [MapKept.IsKey]) em 9998
  simp only [Sem.run_bind,run_underlying K.hu,Result.andThen_ok]
  rw [<- Array.forIn_toList]
  simp [Sem.run_bind,K.n0,K.n1,K.n2,K.n3,K.n4,K.part0,K.part1,K.part2,K.part3,K.part4,c _ _ K.t0,c _ _ K.t1,c _ _ K.t2,c _ _ K.t3,c _ _ K.t4]
theorem K5.find (K:K5 P kt f0 f1 f2 f3 f4) (w:World) (k:Ky):∀ (l:List (Ky × Int)) (es:List MapEntry) (i:Nat),es.length=l.length->(∀ (j:Nat) (a:Ky) (v:Int),l[j]? = some (a,v)->∃ m:MapEntry,es[j]? = some m/\m.key=kyV a) ->
    ((Instr.findAsking kt (kyV k) es i).run P w = .ok none w/\aGet k l=none)∨∃ j m v,(Instr.findAsking kt (kyV k) es i).run P w = .ok (some (i+j,m.val)) w/\es[j]? = some m/\l[j]? = some (k,v)/\aGet k l=some v
  | [],[],_,_,_=>.inl ⟨by simp [Instr.findAsking],rfl⟩
  | (a,v)::l,m::es,i,hl,h=>by
    obtain ⟨m',hm',e⟩:=h 0 a v rfl
    cases hm'
    have hr:=K.eq w k a
    rw [<- e] at hr
    by_cases hk:k=a
    ·subst hk
     exact .inr ⟨0,m,v,by simp [Instr.findAsking,hr],rfl,rfl,by simp [aGet]⟩
    rcases K.find w k l es (i+1) (by simpa using hl) (fun j a v hj=>by simpa using h (j+1) a v (by simpa using hj)) with ⟨h1,h2⟩ | ⟨j,m',v',h1,h2,h3,h4⟩
    ·exact .inl ⟨by simp [Instr.findAsking,hr,hk,h1],by simp [aGet,hk,h2]⟩
    exact .inr ⟨j+1,m',v',by simp [Instr.findAsking,hr,hk,h1,Nat.add_assoc,Nat.add_comm 1 j],by simpa using h2,by simpa using h3,by simp [aGet,hk,h4]⟩
theorem zn0 {l:List (Ky × Int)} {j:Nat} {a:Ky} {v:Int} (h:l[j]? = some (a,v)):(kyEs l)[j]? = some (kyV a,vInt v):=by
  unfold kyEs;rw [List.getElem?_map,h];rfl
theorem y69 (l:List (Ky × Int)):(kyEs l).length=l.length:=by simp [kyEs]
theorem y4n {t et:TypeId} {x y:Operand} {k:Nat} {l:List (Ky × Int)} {q:Ky} (K:K5 P kt f0 f1 f2 f3 f4) (ho:o.op = .lookup t x y true) (hx:fr.ev x=some (.mp k)) (hy:fr.ev y=some (.pv (kyP q))) (hk:look hp k=some (.map (kyEs l)))
    (hu:P.underlying t=some (.map kt et)) (hzv:((P.info? et).bind (·.zero))=some (.int .i64 0)) (hR:R1 k):OkV P c R1 o fr (look hp) (.tup [iInt ((aGet q l).getD 0),iBool (aGet q l).isSome]):=by
  intro ρ w a h
  obtain ⟨b,cc,r,ck,u,hv,hρ,h3,h4,h5,h6⟩:=h.mapAt hx hk
  have h3':∀ w2,SameFor c.F R1 ρ w w2->w2.heap[b]? = some (.map r ck):=fun w2 h2=>(h2 b (h.rel.lt hρ) (.inr ⟨k,cc,hR,hρ⟩)).trans h3
  have hyv:a.eval y=kyV q:=by
    have:=h.ev hy
    generalize a.eval y=vy at this
    cases this with
    | pv _ _ hp=>exact yc5 hp
  have two:∀ {n:Int} {g:Bool},RepI c.F ρ (look hp) w (.tup [iInt n,iBool g]) (.tuple #[.int .i64 n,.bool g]):=fun {n g}=>.tup _ _ (fun j=>if j=0 then .int .i64 n else .bool g) rfl (fun j x hj=>by
      match j,hj with
      | 0,hj=>rfl
      | 1,hj=>rfl
      | j+2,hj=>simp at hj) fun j x hj=>by
      match j,hj with
      | 0,hj=>cases hj;exact z2u _
      | 1,hj=>cases hj;exact z2u _
      | j+2,hj=>simp at hj
  have hfk:∀ w2,(Instr.findKey kt (kyV q) r.toList).run P w2=(Instr.findAsking kt (kyV q) r.toList).run P w2:=fun w2=>run_findKey_eq w2 (by rw [K.hu]) _ _
  have hz:∀ w2,(zeroValue et).run P w2 = .ok (.int .i64 0) w2:=fun w2=>by
    cases hq:P.info? et with
    | none=>simp [hq] at hzv
    | some i=>simp [hq] at hzv;simp [zeroValue,typeInfo,hq,hzv]
  have F:=fun w2=>K.find w2 q l r.toList 0 (by simpa [y69] using h4) (fun j a v hj=>by obtain ⟨m,h1,h2,_⟩:=h5 j _ _ (zn0 hj);exact ⟨m,by simpa using h1,h2⟩)
  cases hg:aGet q l with
  | none =>
    refine ⟨.tuple #[.int .i64 0,.bool false],fun w2 hw2=>?_,two⟩
    rcases F w2 with ⟨h1,_⟩ | ⟨j,m,v,_,_,_,h2⟩
    ·simp only [execOp,ho,hv,hyv,Sem.run_bind,Instr.lookup,run_underlying hu,Result.andThen_ok,MapKept.run_getObj_map (h3' w2 hw2),Sem.run_pure,K.check,hfk,h1,hz]
     rfl
    rw [hg] at h2;cases h2
  | some v =>
    refine ⟨.tuple #[.int .i64 v,.bool true],fun w2 hw2=>?_,two⟩
    rcases F w2 with ⟨_,h2⟩ | ⟨j,m,v',h1,h2,h7,h8⟩
    ·rw [hg] at h2;cases h2
    rw [hg] at h8;cases h8
    obtain ⟨m',hm',_,e2⟩:=h5 j _ _ (zn0 h7)
    have hmm:m'=m:=by
      have e:r[j]? = some m:=by simpa using h2
      rw [e] at hm';exact (Option.some.inj hm').symm
    subst hmm
    have hval:m'.val = .int .i64 v:=by
      have:=h6 j _ _ (zn0 h7)
      rw [<- e2] at this
      cases hmv:m'.val<;>rw [hmv] at this<;>cases this
      rfl
    simp only [execOp,ho,hv,hyv,Sem.run_bind,Instr.lookup,run_underlying hu,Result.andThen_ok,MapKept.run_getObj_map (h3' w2 hw2),Sem.run_pure,K.check,hfk,h1,hval]
    rfl
theorem y5v {α β:Type} [DecidableEq α] {k:α} {v:β}:∀ {l:List (α × β)},aGet k l=none->aPut k v l=l++[(k,v)]
  | [],_=>rfl
  | (a,b)::r,h=>by
    unfold aGet at h
    split at h
    ·cases h
    rename_i e
    unfold aPut
    rw [if_neg e,y5v h];rfl
theorem y0i {t et:TypeId} {x y z:Operand} {k:Nat} {l:List (Ky × Int)} {q:Ky} {v:Int} (K:K5 P kt f0 f1 f2 f3 f4) (ho:o.op = .mapUpdate t x y z) (hx:fr.ev x=some (.mp k)) (hy:fr.ev y=some (.pv (kyP q))) (hz:fr.ev z=some (iInt v)) (hk:look hp k=some (.map (kyEs l)))
    (hR:¬ c.R k) (hu:P.underlying t=some (.map kt et)) (hnew:aGet q l=none):Ok P c o fr (look hp) (.pv (.val undef)) (look ((k,some (.map (kyEs (aPut q v l))))::hp)):=by
  refine zi7 fun ρ w a h=>?_
  obtain ⟨b,cc,r,ck,u,hv,hρ,h3,h4,h5,h6⟩:=h.mapAt hx hk
  have hyv:a.eval y=kyV q:=by
    have:=h.ev hy
    generalize a.eval y=vy at this
    cases this with
    | pv _ _ hp=>exact yc5 hp
  have hzv:a.eval z = .int .i64 v:=z0y h hz
  have hset:∀ o',(setObj b o').run P w = .ok () { w with heap:=w.heap.setIfInBounds b o' }:=fun o'=>MapKept.run_setObj_map o' h3
  have hb:b<w.heap.size:=(Array.getElem?_eq_some_iff.1 h3).1
  have hfk:(Instr.findKey kt (kyV q) r.toList).run P w = .ok none w:=by
    rw [run_findKey_eq w (by rw [K.hu])]
    rcases K.find w q l r.toList 0 (by simpa [y69] using h4) (fun j a v hj=>by obtain ⟨m,h1,h2,_⟩:=h5 j _ _ (zn0 hj);exact ⟨m,by simpa using h1,h2⟩) with ⟨h1,_⟩ | ⟨j,m,v',_,_,_,h2⟩
    ·exact h1
    rw [hnew] at h2;cases h2
  have hen:kyEs (aPut q v l)=kyEs l++[(kyV q,vInt v)]:=by rw [y5v hnew];simp [kyEs]
  refine ⟨ρ,{ w with heap:=w.heap.setIfInBounds b (.map (r.push ⟨kyV q,.int .i64 v,ck⟩) (ck+1)) },by simp [execOp,ho,hv,hyv,hzv,Instr.mapUpdate,Sem.run_bind,run_underlying hu,MapKept.run_getObj_map h3,K.check,hfk,hset],?_⟩
  refine h.write hρ hk trivial hR rfl rfl rfl sI0 (fun j hj=>by simp [Ne.symm hj]) fun keep keepP=>?_
  refine .map _ (r.push ⟨kyV q,.int .i64 v,ck⟩) (ck+1) (fun i=>if i=(kyEs l).length then .int .i64 v else u i) (by simp [hb]) (by rw [hen];simp [h4]) (fun i k' p' hi=>?_) fun i k' p' hi=>?_
  ·rw [hen] at hi
   by_cases e:i=(kyEs l).length
   ·subst e
    simp only [List.getElem?_concat_length,Option.some.injEq,Prod.mk.injEq] at hi
    obtain ⟨rfl,rfl⟩:=hi
    exact ⟨⟨kyV q,.int .i64 v,ck⟩,by rw [<- h4];simp,rfl,by simp⟩
   have hlt:i<(kyEs l).length:=by
     have:=(List.getElem?_eq_some_iff.1 hi).1
     simp at this;omega
   rw [List.getElem?_append_left hlt] at hi
   obtain ⟨m,hm,e1,e2⟩:=h5 i k' p' hi
   refine ⟨m,?_,e1,by simp [e,e2]⟩
   rw [Array.getElem?_push,if_neg oM0]
   exact hm
  rw [hen] at hi
  by_cases e:i=(kyEs l).length
  ·subst e
   simp only [List.getElem?_concat_length,Option.some.injEq,Prod.mk.injEq] at hi
   obtain ⟨rfl,rfl⟩:=hi
   simpa using RepP.val _
  have hlt:i<(kyEs l).length:=by
    have:=(List.getElem?_eq_some_iff.1 hi).1
    simp at this;omega
  rw [List.getElem?_append_left hlt] at hi
  simpa [e] using keepP _ _ (h6 i k' p' hi)
end
theorem y6m {f:FuncId} {x:Operand} {tys:Array TypeId} {k k2:Nat} {es:List (Value × PV)} (hcl:∀ (b:Nat) (r:Array MapEntry) (ck:Nat) (w:World),w.heap[b]? = some (.map r ck)->Calls P f #[.map (some b)] w fun e w'=>e = .returned (.map (some w.heap.size))/\w'=w.alloc (.map r ck)) (hf:z0f P f)
    (ho:o.op = .call { callee:=.value (.func f),args:=#[x],argTypes:=tys }) (hx:fr.ev x=some (.mp k)) (hk:look hp k=some (.map es)) (hσ:look hp k2=none) (hc:c.σ k2=none) (hfr:nmFr k2 fr=false) (hhp:nmHp k2 hp=false) :
    Ok P c o fr (look hp) (.mp k2) (look ((k2,some (.map es))::hp)):=by
  intro ρ w a K Q h hK
  obtain ⟨fn,hfn,hname,hbody⟩:=hf
  obtain ⟨b,cc,r,ck,u,hv,hρ,h3,h4,h5,h6⟩:=h.mapAt hx hk
  have hrun:(execOp a.eval o).run P w = .ok (.enter f #[.map (some b)]) w:=by
    have hcall:(callFunc f #[.map (some b)]).run P w = .ok (.enter f #[.map (some b)]) w:=by
      unfold callFunc
      simp only [Sem.run_bind]
      show (Result.andThen (.ok P w) _)=_
      simp only [Result.andThen_ok,hfn,hname,hbody]
      rfl
    simp only [execOp,ho,resolve,Act.eval,Deferred.ofValue,Sem.run_bind,Sem.run_pure,Result.andThen_ok,invoke]
    rw [<- hcall]
    congr 2
    simp [<- hv]
  unfold Oper.wp
  rw [hrun,Oper.upon_enter]
  refine (hcl b r ck w h3).mono ?_
  rintro e w' ⟨rfl,rfl⟩
  refine hK (z1n ρ k2 (some (w.heap.size,1))) _ _ (h.alloc hσ hc hfr hhp 1 _ _ fun _ keepP=>?_) (.mp _ _ fun es' _=>⟨w.heap.size,1,z0h,rfl⟩)
  exact .map es r ck u (z33 w _) h4 h5 fun i k p hi=>keepP _ _ (h6 i k p hi)
end
section
variable {P:Program} {c:Cx} {o:Oper} {fr:Fr} {hp:Hp}
theorem All.flatRow {ρ:Loc} {w:World} {a:Act} (h:All c ρ (look hp) w fr a) {x:Operand} {k n:Nat} {s:RT} {els:List (List PV)} (hx:fr.ev x=some (.sl k n)) (hk:look hp k=some (.row s els)) (hn:els.length=n) (hone:∀ el∈els,∀ x∈el,x.one=true) :
    FlatV (owned c.F ρ) w s.n els (a.eval x):=by
  rcases h.row hx hk hn with ⟨b,cc,r,u,hv,hρ,h3,h4,hc,hcm,hwe,hcells,hu⟩ | ⟨hv,hρ,hnil⟩
  ·have key:∀ q,q<els.length*s.n->∃ el x,els[q / s.n]? = some el/\el.length=s.n/\el[q % s.n]? = some x/\x.one=true:=fun q hq=>by
     obtain ⟨h1,h2,h3⟩:=y00 hq
     have he:=hwe _ (List.getElem_mem h1)
     exact ⟨els[q / s.n],els[q / s.n][q % s.n]'oM0,List.getElem?_eq_getElem h1,he,List.getElem?_eq_getElem _,hone _ (List.getElem_mem h1) _ (List.getElem_mem _)⟩
   refine ⟨some ⟨b,0,none⟩,cc,u,by rw [hv,hn],fun _=>⟨_,rfl,fun j y hj=>?_⟩,fun y hy=>?_,hu⟩
   ·have hq:j<els.length*s.n:=by have:=(List.getElem?_eq_some_iff.1 hj).1;simpa using this
    obtain ⟨el,x,h1,h2,h5,_⟩:=key j hq
    have hy:y=u (j / s.n) (j % s.n):=by simpa [hq] using hj.symm
    have:=hcells _ el h1 _ x h5
    rw [Addr.add_mid,hy,z4n h3,Nat.zero_add,<- this,(y00 hq).2.2]
   obtain ⟨q,hq,rfl⟩:=List.mem_map.1 hy
   obtain ⟨el,x,h1,h2,h5,h6⟩:=key q (by simpa using hq)
   exact (hu _ el h1 _ x h5).one h6
  subst hnil
  exact ⟨none,0,fun _ _=>undef,by simpa using hv,fun hne=>absurd rfl hne,fun y hy=>by simp at hy,fun i el hi=>by simp at hi⟩
theorem z5v {t:TypeId} {x y:Operand} {k n k2 n2 by_:Nat} {s:RT} {els news:List (List PV)} (ho:o.op = .call { callee:=.builtin .append,args:=#[x,y],argTypes:=#[t,t] }) (hx:fr.ev x=some (.sl k n)) (hy:fr.ev y=some (.sl k2 n2))
    (hk:look hp k=some (.row s els)) (hn:els.length=n) (hk2:look hp k2=some (.row s news)) (hn2:news.length=n2) (hR:¬ c.R k) (ht:P.underlying t=some (.slice s.e)) (hi:(P.info? s.e).map (fun i=>(i.size,i.bytes,(i.zero.map fun z=>z.cells.size)))=some (s.n,by_,some s.n)) (hs:0<s.n)
    (hw:∀ el∈news,el.length=s.n) (hone:∀ el∈news,∀ x∈el,x.one=true) (hmax:n+news.length<=maxLen) (hb:(n+news.length)*by_<=140737488355328) :
    Ok P c o fr (look hp) (.sl k (n+news.length)) (look ((k,some (.row s (els++news)))::hp)) :=
  za7 ho hx (fun ρ w a h=>h.flatRow hy hk2 hn2 hone) hk hn hR ht hi hs hw hmax hb
theorem za5 {t e:TypeId} {len s:Nat} {parts:Array (Nat × Operand)} {xs:List (Nat × IV)} {z:Value} {out:List IV} {ρ:Loc} {w:World} {a:Act} (h:All c ρ (look hp) w fr a) (ho:o.op = .buildSlice t len parts) (hx:z3y fr parts.toList=some xs)
    (hu:P.underlying t=some (.slice e)) (hz:((P.info? e).bind (·.zero))=some z) (hs:(P.info? e).map (·.size)=some s) (hzs:z.cells.size=s) (hpos:Nat.ble 1 s=true) (hsmall:Nat.ble (len*s) (2 ^ 24)=true)
    (hf:z5c (fun i=>some (i*s,s)) (zc6 z len) xs=some out) (hfirm:z42 (look hp) xs) :
    ∃ vs,z5q c.F ρ (look hp) w out vs/\out.length=len*s/\(execOp a.eval o).run P w = .ok (.value (.slice (some ⟨w.heap.size,0,none⟩) len len)) (w.alloc (.cells vs e)):=by
  have hpos':0<s:=Nat.le_of_ble_eq_true hpos
  have hsmall':=Nat.le_of_ble_eq_true hsmall
  have hzv:(zeroValue e).run P w = .ok z w:=by
    cases hq:P.info? e with
    | none=>simp [hq] at hz
    | some i=>simp [hq] at hz;simp [zeroValue,typeInfo,hq,hz]
  obtain ⟨hl,hv⟩:=z6b h hx
  obtain ⟨hrl,hrg⟩:=zs5 (z:=z) oM0 len
  have hrep:z5q c.F ρ (look hp) w (zc6 z len) ((Array.range (len*s)).map (z.cells[· % z.cells.size]!)):=by
    refine ⟨by simp [hrl,hzs],fun j x hj=>?_⟩
    have hjl:j<len*s:=by have:=(List.getElem?_eq_some_iff.1 hj).1;rw [hrl,hzs] at this;exact this
    rw [hrg j x hj]
    exact ⟨_,by simp [hjl],z2u _⟩
  have hlenfill:out.length=len*s:=by
    have:∀ (ps:List (Nat × IV)) (cs out:List IV),z5c (fun i=>some (i*s,s)) cs ps=some out->out.length=cs.length:=by
      intro ps
      induction ps with
      | nil=>intro cs out h;cases h;rfl
      | cons p r ih =>
        intro cs out h
        simp only [z5c] at h
        cases hc:Nat.beq (z77 p.2).length s&&Nat.ble (p.1*s+s) cs.length with
        | false=>rw [hc] at h;cases h
        | true =>
          rw [hc] at h
          simp only [Bool.and_eq_true] at hc
          have h1:=Nat.eq_of_beq_eq_true hc.1
          have h2:=Nat.le_of_ble_eq_true hc.2
          rw [ih _ _ h,z98 oM0]
    rw [this _ _ _ hf,hrl,hzs]
  obtain ⟨vs,h1,h2⟩:=zd9 hrep hl (fun j i x hj=>by
    obtain ⟨v,h3,h4⟩:=hv j i x hj
    exact ⟨v,h3,h4,hfirm _ (List.mem_of_getElem? hj)⟩) hf
  have hparts:(parts.map fun (i,x)=>(i,a.eval x)).toList=parts.toList.map fun p=>(p.1,a.eval p.2):=by simp
  have hrun:(execOp a.eval o).run P w = .ok (.value (.slice (some ⟨w.heap.size,0,none⟩) len len)) (w.alloc (.cells vs e)):=by
    have hnr:(newRow e vs).run P w = .ok ⟨w.heap.size,0,none⟩ (w.alloc (.cells vs e)):=rfl
    simp only [execOp,ho,Instr.buildSlice,Sem.run_bind,run_underlying hu,z1r hs,Result.andThen_ok]
    rw [if_neg oM0]
    by_cases h0:len*s=0
    ·have h1':Instr.fill (fun i=>some (i*s,s)) ((Array.range (len*s)).map ((#[]:Array Value)[· % (#[]:Array Value).size]!)) (List.map (fun p=>(p.fst,a.eval p.snd)) parts.toList)=some vs:=by
       have e1:∀ f:Nat->Value,(Array.range (len*s)).map f = #[]:=fun f=>by rw [h0];simp
       rw [e1] at h1 ⊢
       exact h1
     simp only [if_pos h0,Sem.run_bind,Sem.run_pure,Result.andThen_ok,hparts]
     rw [h1']
     simp only [Sem.run_bind,hnr,Result.andThen_ok]
     rfl
    simp only [if_neg h0,Sem.run_bind,Sem.run_pure,Result.andThen_ok,hzv,hparts]
    rw [h1]
    simp only [Sem.run_bind,hnr,Result.andThen_ok]
    rfl
  exact ⟨vs,h2,hlenfill,hrun⟩
theorem z8h {k:Nat} {t e:TypeId} {len s:Nat} {parts:Array (Nat × Operand)} {xs:List (Nat × IV)} {z:Value} {out:List IV} {ps:List PV} (ho:o.op = .buildSlice t len parts) (hx:z3y fr parts.toList=some xs)
    (hu:P.underlying t=some (.slice e)) (hz:((P.info? e).bind (·.zero))=some z) (hs:(P.info? e).map (·.size)=some s) (hzs:z.cells.size=s) (hpos:Nat.ble 1 s=true) (hsmall:Nat.ble (len*s) (2 ^ 24)=true)
    (hf:z5c (fun i=>some (i*s,s)) (zc6 z len) xs=some out) (hfirm:z42 (look hp) xs) (hps:z6k out=some ps) (hσ:look hp k=none) (hc:c.σ k=none) (hfr:nmFr k fr=false) (hhp:nmHp k hp=false) :
    Ok P c o fr (look hp) (.sl k len) (look ((k,some (.row ⟨e,s⟩ (z08 s len ps)))::hp)):=by
  intro ρ w a K Q h hK
  have hpos':0<s:=Nat.le_of_ble_eq_true hpos
  have hsmall':=Nat.le_of_ble_eq_true hsmall
  obtain ⟨vs,h2,hlenfill,hrun⟩:=za5 h ho hx hu hz hs hzs hpos hsmall hf hfirm
  unfold Oper.wp
  rw [hrun]
  obtain ⟨hpl,hpg⟩:=z7h hps
  have hel:∀ i el,(z08 s len ps)[i]? = some el->el.length=s/\∀ j x,el[j]? = some x->ps[i*s+j]? = some x:=fun i el hi=>zh2 s len ps i el hi oM0
  have hcl:=z5r s len ps
  have hlm:len<=maxLen:=by simp only [maxLen];have:len<=len*s:=Nat.le_mul_of_pos_right _ hpos';omega
  refine hK (z1n ρ k (some (w.heap.size,len))) _ _ (h.alloc hσ hc hfr hhp len _ _ fun _ keep=>?_) (.sl _ _ _ fun s' els' h'=>?_)
  ·refine .row ⟨e,s⟩ _ vs (fun i j=>vs.getD (i*s+j) undef) (z33 w _) (by have:=h2.1;simp only;omega) oM0 hlm (fun el hel'=>?_) (fun i el hi j x hj=>?_) fun i el hi j x hj=>?_
   ·obtain ⟨i,hi⟩:=List.getElem?_of_mem hel'
    exact (hel i el hi).1
   ·obtain ⟨h5,h6⟩:=hel i el hi
    obtain ⟨v,h7,_⟩:=h2.2 _ _ (hpg _ _ (h6 j x hj))
    simp [Array.getD_eq_getD_getElem?,h7]
   obtain ⟨h5,h6⟩:=hel i el hi
   obtain ⟨v,h7,h8⟩:=h2.2 _ _ (hpg _ _ (h6 j x hj))
   simp only [Array.getD_eq_getD_getElem?,h7,Option.getD_some]
   cases h8 with
   | pv _ _ h8=>exact keep _ _ h8
  rw [z38] at h';cases h'
  exact ⟨by omega,fun _=>.inl ⟨w.heap.size,len,z0h,rfl⟩⟩
def nilP:PV->PV
  | .val (.slice none 0 0)=>.seq []
  | x=>x
theorem nilP_sub (x:PV):PSub x (nilP x):=by
  unfold nilP
  split
  ·exact PSub.nil
  exact PSub.refl _
theorem y2b:∀ cs:List PV,PSubs cs (cs.map nilP)
  | []=>trivial
  | x::r=>⟨nilP_sub x,y2b r⟩
theorem z18 (cs:List PV):PSub (.agg cs) (.agg (cs.map nilP)):=PSub.agg (y2b cs)
end
section
variable {P:Program} {c:Cx} {R1:Nat->Prop} {o:Oper} {fr:Fr} {hp:Hp} {σ:Heap'} {Q:Exit->Fr->Heap'->Prop}
theorem All.bs {ρ:Loc} {w:World} {a:Act} (h:All c ρ (look hp) w fr a) {x:Operand} {k n:Nat} {cs:List IV} (hx:fr.ev x=some (.bs k n)) (hk:look hp k=some (.box cs)) :
    ∃ (b cc cap:Nat) (e:TypeId) (r:Array Value) (u:Nat->Value),a.eval x = .slice (some ⟨b,0,none⟩) n cap/\n<=cap/\cap<=maxLen /\ ρ k=some (b,cc)/\w.heap[b]? = some (.cells r e (0,0))/\cs.length<=r.size/\(∀ j x,cs[j]? = some x->r[j]? = some (u j))/\∀ j x,cs[j]? = some x->RepI c.F ρ (look hp) w x (u j):=by
  have hr:=h.ev hx
  generalize hv:a.eval x=v at hr
  cases hr with
  | bs _ _ _ hh =>
    obtain ⟨b,cc,hρ,cap,h8,h9,rfl⟩:=hh cs hk
    obtain ⟨o1,h1,h2⟩:=h.rel.obj k b cc hρ
    rw [hk] at h1;cases h1
    obtain ⟨e,r,u,h3,h4,h5,h6⟩:=h2.inv_box
    exact ⟨b,cc,cap,e,r,u,rfl,h8,h9,hρ,h3,h4,h5,h6⟩
theorem y4l {t e:TypeId} {x y:Operand} {k n i:Nat} {m:Int} {kk:IntKind} {cs:List IV} (ho:o.op = .indexAddr t x y) (hx:fr.ev x=some (.bs k n)) (hy:fr.ev y=some (.pv (.val (.int kk m)))) (hk:look hp k=some (.box cs))
    (hu:P.underlying t=some (.slice e)) (he:(P.info? e).map (·.size)=some 1) (hi:i<n) (hm:m=i):OkV P c R1 o fr (look hp) (.ptr k i):=by
  subst hm
  intro ρ w a h
  obtain ⟨b,cc,cap,e',r,u,hv,_,_,hρ,_⟩:=h.bs hx hk
  refine ⟨.pointer (some ⟨b,i,none⟩),fun w2 _=>?_,.ptr _ _ _ fun cs' h'=>⟨b,cc,hρ,rfl⟩⟩
  simp [execOp,ho,hv,z0y h hy,Instr.indexAt,Sem.run_bind,asIntOf,run_underlying hu,hi,z1r he,Addr.add_mid]
theorem zr2 {k:Nat} {t e:TypeId} {len s:Nat} {parts:Array (Nat × Operand)} {xs:List (Nat × IV)} {z:Value} {out:List IV} (ho:o.op = .buildSlice t len parts) (hx:z3y fr parts.toList=some xs)
    (hu:P.underlying t=some (.slice e)) (hz:((P.info? e).bind (·.zero))=some z) (hs:(P.info? e).map (·.size)=some s) (hzs:z.cells.size=s) (hpos:Nat.ble 1 s=true) (hsmall:Nat.ble (len*s) (2 ^ 24)=true)
    (hf:z5c (fun i=>some (i*s,s)) (zc6 z len) xs=some out) (hfirm:z42 (look hp) xs) (hn:nm.nms k out=false) (hσ:look hp k=none) (hc:c.σ k=none) (hfr:nmFr k fr=false) (hhp:nmHp k hp=false) :
    Ok P c o fr (look hp) (.bs k len) (look ((k,some (.box out))::hp)):=by
  intro ρ w a K Q h hK
  have hpos':0<s:=Nat.le_of_ble_eq_true hpos
  have hsmall':=Nat.le_of_ble_eq_true hsmall
  obtain ⟨vs,h2,hlenfill,hrun⟩:=za5 h ho hx hu hz hs hzs hpos hsmall hf hfirm
  unfold Oper.wp
  rw [hrun]
  have hlm:len<=maxLen:=by simp only [maxLen];have:len<=len*s:=Nat.le_mul_of_pos_right _ hpos';omega
  refine hK (z1n ρ k (some (w.heap.size,len))) _ _ (h.alloc hσ hc hfr hhp len _ _ fun keep _=>?_) (.bs _ _ _ fun cs' h'=>⟨w.heap.size,len,z0h,len,Nat.le_refl _,hlm,rfl⟩)
  refine .box _ e vs (fun j=>vs.getD j undef) (z33 w _) (Nat.le_of_eq h2.1.symm) (fun j x hj=>?_) fun j x hj=>?_
  ·obtain ⟨v,h7,_⟩:=h2.2 _ _ hj
   simp [Array.getD_eq_getD_getElem?,h7]
  obtain ⟨v,h7,h8⟩:=h2.2 _ _ hj
  simp only [Array.getD_eq_getD_getElem?,h7,Option.getD_some]
  exact keep _ _ h8 (z5k hn (List.mem_of_getElem? hj))
theorem y2f {t:TypeId} {x y:Operand} {k k2 n by_:Nat} {e:TypeId} {cs:List IV} (ho:o.op = .call { callee:=.builtin .append,args:=#[x,y],argTypes:=#[t,t] }) (hx:fr.ev x=some (.pv (.val (.slice none 0 0)))) (hy:fr.ev y=some (.bs k2 n)) (hk2:look hp k2=some (.box cs)) (hn:cs.length=n) (h0:0<n)
    (ht:P.underlying t=some (.slice e)) (hi:(P.info? e).map (fun i=>(i.size,i.bytes,(i.zero.map fun z=>z.cells.size)))=some (1,by_,some 1)) (hmax:n<=maxLen) (hb:n*by_<=140737488355328) (hnm:nm.nms k cs=false)
    (hσ:look hp k=none) (hc:c.σ k=none) (hfr:nmFr k fr=false) (hhp:nmHp k hp=false) :
    Ok P c o fr (look hp) (.bs k n) (look ((k,some (.box cs))::hp)):=by
  intro ρ w a K Q h hK
  cases hq:P.info? e with
  | none=>simp [hq] at hi
  | some i =>
    have hsz:i.size=1:=by simp [hq] at hi;exact hi.1
    have hby:i.bytes=by_:=by simp [hq] at hi;exact hi.2.1
    obtain ⟨z,hz,hzs⟩:∃ z,i.zero=some z/\z.cells.size=1:=by simp [hq] at hi;exact hi.2.2
    simp only [maxLen] at hmax
    obtain ⟨b,cc,cap,e',r,u,hv,_,_,hρ,hbk,hlen,hcell,hrep⟩:=h.drew.bs hy hk2
    have hge:=grownCap_ge w n 0 e
    have hcm:=grownCap_le_maxLen w n 0 e (by simp only [maxLen];omega)
    have hL:((List.range n).map u).length=n*i.size:=by simp [hsz]
    have hcl:∀ j y,((List.range n).map u)[j]? = some y->w.cell? ((⟨b,0,none⟩:Addr).add j)=some y:=fun j y hj=>by
      rw [Addr.add_mid,Nat.zero_add,z4n (w:=w) hbk]
      have hj':j<n:=by have:=(List.getElem?_eq_some_iff.1 hj).1;simpa using this
      have e1:u j=y:=by simpa [hj'] using hj
      have h5:cs[j]? = some (cs[j]'oM0):=List.getElem?_eq_getElem oM0
      rw [hcell j _ h5,e1]
    have hr:=run_append_nil (P:=P) w t o.type e i z ht hq hz ⟨b,0,none⟩ n cap _ hL hcl h0 oM0 (by rw [hby];omega)
    refine Lib.wp_append_run w x y t t ho _ _ (z0y h hx) hv _ _ hr ?_
    refine hK (z1n ρ k (some (w.heap.size,grownCap w n 0 e))) _ _ (h.drew.alloc hσ hc hfr hhp (grownCap w n 0 e) _ _ fun keep _=>?_) (.bs _ _ _ fun cs' h'=>⟨w.heap.size,_,z0h,_,hge,hcm,rfl⟩)
    refine .box _ e _ u (z33 _ _) (by simp;omega) (fun j x hj=>?_) fun j x hj=>keep _ _ (hrep j x hj) (z5k hnm (List.mem_of_getElem? hj))
    have hj':j<n:=by have:=(List.getElem?_eq_some_iff.1 hj).1;omega
    rw [Array.getElem?_append_left (by simpa using hj')]
    simp [hj']
theorem y0h {t:TypeId} {x y:Operand} {n by_:Nat} {s:RT} {z:Value} {σ:Heap'} (ho:o.op = .makeSlice t x y) (hx:fr.ev x=some (.pv (.val (.int .i64 n)))) (hy:fr.ev y=some (.pv (.val (.int .i64 n))))
    (hu:P.underlying t=some (.slice s.e)) (hz:((P.info? s.e).bind (·.zero))=some z) (hi:(P.info? s.e).map (fun i=>(i.size,i.bytes))=some (s.n,by_)) (hzs:z.cells.size=s.n) (hpos:0<s.n) (hn:n<2 ^ 63) (hb:by_*n<=281474976710656) :
    Ok P c o fr σ (.pv (.seq (List.replicate n (z.cells.toList.map .val)))) σ:=by
  intro ρ w a K Q h hK
  cases hq:P.info? s.e with
  | none=>simp [hq] at hi
  | some i =>
    have hsz:i.size=s.n:=by simp [hq] at hi;exact hi.1
    have hby:i.bytes=by_:=by simp [hq] at hi;exact hi.2
    have hiz:i.zero=some z:=by simpa [hq] using hz
    have hwrap:IntKind.i64.wrap (n:Int)=n:=IntWalk.i64_in _ oM0
    have hrun:(execOp a.eval o).run P w = .ok (.value (.slice (some ⟨w.heap.size,0,none⟩) n n)) (w.alloc (.cells ((Array.range (n*s.n)).map (z.cells[· % z.cells.size]!)) s.e)):=by
      have hnr:∀ r,(newRow s.e r).run P w = .ok ⟨w.heap.size,0,none⟩ (w.alloc (.cells r s.e)):=fun _=>rfl
      have hti:(typeInfo s.e).run P w = .ok i w:=by simp [typeInfo,hq]
      have hso:(sizeOf s.e).run P w = .ok s.n w:=z1r (by simp [hq,hsz]) w
      have hzv:(zeroValue s.e).run P w = .ok z w:=by simp [zeroValue,typeInfo,hq,hiz]
      have h2:(by_:Int)*n<=281474976710656:=by
        have:((by_*n:Nat):Int)<=281474976710656:=by omega
        rwa [Int.natCast_mul] at this
      simp only [execOp,ho,Instr.makeSlice,Sem.run_bind,run_underlying hu,Result.andThen_ok,z0y h hx,z0y h hy,asInt,asIntOf,Sem.run_pure,hti,hwrap,hby]
      rw [if_neg (by simpa using h2)]
      simp only [Sem.run_bind,zs7,Result.andThen_ok,hso,Int.toNat_natCast]
      by_cases h0:n*s.n=0
      ·rw [if_pos h0]
       simp only [Sem.run_bind,Sem.run_pure,Result.andThen_ok,hnr]
       have e1:∀ f g:Nat->Value,(Array.range (n*s.n)).map f=(Array.range (n*s.n)).map g:=fun f g=>by rw [h0];simp
       rw [e1 _ (z.cells[· % z.cells.size]!)]
      rw [if_neg h0]
      simp only [Sem.run_bind,Sem.run_pure,Result.andThen_ok,hzv,hnr]
    unfold Oper.wp
    rw [hrun]
    obtain ⟨h3,keep⟩:=h.push (.cells ((Array.range (n*s.n)).map (z.cells[· % z.cells.size]!)) s.e)
    refine hK ρ _ _ h3 (.pv _ _ ?_)
    have hll:(List.replicate n (z.cells.toList.map PV.val)).length=n:=by simp
    have hbig:by_*n<=281474976710656:=hb
    have:RepP (owned c.F ρ) (w.alloc (.cells ((Array.range (n*s.n)).map (z.cells[· % z.cells.size]!)) s.e)) (.seq (List.replicate n (z.cells.toList.map .val))) (.slice (some ⟨w.heap.size,0,none⟩) (List.replicate n (z.cells.toList.map PV.val)).length n):=by
      refine .seq _ _ n w.heap.size 0 (fun _ j=>z.cells[j]!) (fun _=>rfl) (fun _=>⟨h.fresh,by simp⟩) sI0 (by simp only [maxLen];omega) (fun i el hi j x hj=>?_) fun i el hi j x hj=>?_
      ·have hel:=List.eq_of_mem_replicate (List.mem_of_getElem? hi)
       have hin:i<n:=by have:=(List.getElem?_eq_some_iff.1 hi).1;simpa using this
       subst hel
       have hjs:j<s.n:=by have:=(List.getElem?_eq_some_iff.1 hj).1;simp [hzs] at this;exact this
       have hlt:i*s.n+j<n*s.n:=by
         have:(i+1)*s.n<=n*s.n:=Nat.mul_le_mul_right _ oM0
         rw [Nat.add_mul] at this;omega
       rw [z4n (z33 w _)]
       simp [hlt,hzs,Nat.mod_eq_of_lt hjs]
      have hel:=List.eq_of_mem_replicate (List.mem_of_getElem? hi)
      subst hel
      simp only [List.getElem?_map,Option.map_eq_some_iff,Array.getElem?_toList] at hj
      obtain ⟨v,hv,rfl⟩:=hj
      have:z.cells[j]! = v:=by
        have hlt:=(Array.getElem?_eq_some_iff.1 hv).1
        simp [hlt] at hv ⊢
        exact hv
      rw [this]
      exact .val v
    rwa [hll] at this
end
end Go.Proofs.YthbcibeddfacbaaGreat
