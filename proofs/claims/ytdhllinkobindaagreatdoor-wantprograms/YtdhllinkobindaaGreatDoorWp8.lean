/- PART 8 of 9 of a proof: see the last part. -/
import Derived.Test.YtdhllinkobindaaGreatDoorWp7
set_option maxRecDepth 20000
set_option maxHeartbeats 8000000
set_option linter.unusedSimpArgs false
set_option linter.unusedVariables false
set_option linter.unusedSectionVars false
namespace Go.Proofs.YtdhllinkobindaaGreatDoor
open Go
section
def kAt(L:List ByteArray)(i:Nat):ByteArray:=L.getD i s_
def KFm:Type:=Nat->ByteArray×Nat
def kNums:List ByteArray:=[⟨#[48]⟩,⟨#[49]⟩,⟨#[50]⟩,⟨#[55]⟩,⟨#[50,53,53]⟩,⟨#[54,52]⟩]
def kUns:List ByteArray:=[⟨#[45]⟩,⟨#[126]⟩,⟨#[105,56]⟩,⟨#[117,49,54]⟩,⟨#[105,51,50]⟩]
def kOps:List ByteArray:=[⟨#[43]⟩,⟨#[45]⟩,⟨#[42]⟩,⟨#[47]⟩,⟨#[37]⟩,⟨#[38]⟩,⟨#[124]⟩,⟨#[94]⟩,⟨#[60,60]⟩,⟨#[62,62]⟩,⟨#[62,62,62]⟩]
def kTrs:List ByteArray:=[⟨#[116,114,117,101]⟩,⟨#[102,97,108,115,101]⟩]
def kCmp:List ByteArray:=[⟨#[60]⟩,⟨#[60,61]⟩,⟨#[62]⟩,⟨#[62,61]⟩,⟨#[61,61]⟩,⟨#[33,61]⟩]
def y35(l:List UInt8)(v:ByteArray)(rn rt:KFm)(k a:Nat):ByteArray×Nat :=
 if k<2 then(kAt kNums (z2g l a 6),a+1)
 else if k<5 then(v,a)
 else if k=5 then(⟨#[97,91]⟩++v++⟨#[32,38,32,51,93]⟩,a)
 else if k=6 then(⟨#[97,91]⟩++(rn a).1++⟨#[93]⟩,(rn a).2)
 else if k=7 then(kAt kUns (z2g l a 5)++⟨#[40]⟩++(rn (a+1)).1++⟨#[41]⟩,(rn (a+1)).2)
 else if k<11 then(⟨#[40]⟩++(rn a).1++⟨#[32]⟩++kAt kOps (z2g l (rn a).2 11)++⟨#[32]⟩++(rn ((rn a).2+1)).1++⟨#[41]⟩,(rn ((rn a).2+1)).2)
 else if k=11 then(⟨#[114,101,97,100,40,41]⟩,a)
 else if k=12 then(⟨#[99,91]⟩++v++⟨#[32,37,32,51,93]⟩,a)
 else(⟨#[102,40]⟩++(rn a).1++⟨#[44,32]⟩++(rt (rn a).2).1++⟨#[41]⟩,(rt (rn a).2).2)
def y36(l:List UInt8)(b:ByteArray)(rn rt:KFm)(k a:Nat):ByteArray×Nat :=
 if k=0 then(kAt kTrs (z2g l a 2),a+1)
 else if k<3 then(b,a)
 else if k=3 then(⟨#[33]⟩++b,a)
 else if k<7 then(⟨#[40]⟩++(rn a).1++⟨#[32]⟩++kAt kCmp (z2g l (rn a).2 6)++⟨#[32]⟩++(rn ((rn a).2+1)).1++⟨#[41]⟩,(rn ((rn a).2+1)).2)
 else if k=7 then(⟨#[40]⟩++(rt a).1++⟨#[32,38,38,32]⟩++(rt (rt a).2).1++⟨#[41]⟩,(rt (rt a).2).2)
 else if k=8 then(⟨#[40]⟩++(rt a).1++⟨#[32,124,124,32]⟩++(rt (rt a).2).1++⟨#[41]⟩,(rt (rt a).2).2)
 else(⟨#[103,40]⟩++(rn a).1++⟨#[41]⟩,(rn a).2)
def kK(l:List UInt8)(d n m a:Nat):Nat:=if d<1 then z2g l a n%m else z2g l a n
def kNT(l:List UInt8)(v b:ByteArray):Nat->KFm×KFm
 |0=>(λa=>y35 l v (λa=>(s_,a)) (λa=>(s_,a)) (kK l 0 14 6 a) (a+1),λa=>y36 l b (λa=>(s_,a)) (λa=>(s_,a)) (kK l 0 10 3 a) (a+1))
 |d+1=>(λa=>y35 l v (kNT l v b d).1 (kNT l v b d).2 (kK l (d+1) 14 6 a) (a+1),λa=>y36 l b (kNT l v b d).1 (kNT l v b d).2 (kK l (d+1) 10 3 a) (a+1))
def KOk(F:KFm)(B:Nat):Prop:=∀a,(F a).1.size<=B/\(F a).2<=a+B
theorem z5i(l:List UInt8)(a:Nat){n:Nat}(hn:0<n):z2g l a n<n:=by
 unfold z2g;split
 ·exact hn
 ·exact G9 _ hn
theorem z6r{L:List ByteArray}{i:Nat}(h:i<L.length):L[i]?=some (kAt L i):=by
 unfold kAt;rw[Ax,A8 h];rfl
theorem zg8(L:List ByteArray)(i:Nat)(h:∀w∈L,w.size<=8):(kAt L i).size<=8:=by
 rcases Dj i L.length with h1|h1
 ·have:=z6r h1;exact h _ (Ag this)
 ·unfold kAt;rw[Ax,List.getElem?_eq_none h1];exact Ad _
theorem szl(l:List UInt8):(ByteArray.mk (List.toArray l)).size=l.length:=rfl
theorem yl0(l:List UInt8){v:ByteArray}(hv:v.size<=8){rn rt:KFm}{B:Nat}(h1:KOk rn B)(h2:KOk rt B)(k a:Nat):(y35 l v rn rt k a).1.size<=2*B+24/\(y35 l v rn rt k a).2<=a+(2*B+23):=by
 have a1:=zg8 kNums (z2g l a 6) dC0;have a2:=zg8 kUns (z2g l a 5) dC0;have a3:=zg8 kOps (z2g l (rn a).2 11) dC0;have b1:=h1 a;have b2:=h1 (a+1);have b3:=h1 ((rn a).2+1);have b4:=h2 (rn a).2;unfold y35
 repeat' (first|(split;rename_i h;clear h)|(simp only[A4,szl,A1,A6];omega))
theorem yl1(l:List UInt8){b:ByteArray}(hv:b.size<=8){rn rt:KFm}{B:Nat}(h1:KOk rn B)(h2:KOk rt B)(k a:Nat):(y36 l b rn rt k a).1.size<=2*B+24/\(y36 l b rn rt k a).2<=a+(2*B+23):=by
 have a1:=zg8 kTrs (z2g l a 2) dC0;have a3:=zg8 kCmp (z2g l (rn a).2 6) dC0;have b1:=h1 a;have b3:=h1 ((rn a).2+1);have b4:=h2 a;have b5:=h2 (rt a).2;unfold y36
 repeat' (first|(split;rename_i h;clear h)|(simp only[A4,szl,A1,A6];omega))
def kB:Nat->Nat
 |0=>24
 |d+1=>2*kB d+24
theorem z7i(l:List UInt8){v b:ByteArray}(hv:v.size<=8)(hb:b.size<=8):∀d,KOk (kNT l v b d).1 (kB d)/\KOk (kNT l v b d).2 (kB d)
 |0=>by
  have h0:KOk (λa=>(s_,a)) 0:=λa=>⟨Ae _,Ae _⟩
  exact⟨λa=>by have:=yl0 l hv h0 h0 (kK l 0 14 6 a) (a+1);simp only[kNT,kB];omega,λa=>by have:=yl1 l hb h0 h0 (kK l 0 10 3 a) (a+1);simp only[kNT,kB];omega⟩
 |d+1=>by
  obtain⟨h1,h2⟩:=z7i l hv hb d;exact⟨λa=>by have:=yl0 l hv h1 h2 (kK l (d+1) 14 6 a) (a+1);simp only[kNT,kB];omega,λa=>by have:=yl1 l hb h1 h2 (kK l (d+1) 10 3 a) (a+1);simp only[kNT,kB];omega⟩
section
attribute [local irreducible] z2g kAt
def MkN(l:List UInt8)(f:FuncId)(v b:ByteArray)(d:Int)(F:KFm)(B:Nat):Prop:=∀a,a+B<=1000000000->SC Tryz.prog f [.ptr 1 0,iStr v,iStr b,iInt d] (mkO l a) (λk=>k∈[]) (iStr (F a).1) (mkO l (F a).2)
theorem z4q(l:List UInt8)(hl:l.length<=9223372036854775807)(n:Nat)(hn:0<n)(a:Nat)(ha:a<=1000000000):SC Tryz.prog 41 [.ptr 1 0,.pv (.val (.int .i64 (n:Int)))] (mkO l a) (λk=>k∈[]) (iInt (z2g l a n:Nat)) (mkO l (a+1)):=sc_pick l a ha n hn hl
theorem z4b(d:Nat)(h:d<=1000)(hd:0<d):z3c .sub .i64 ((d:Nat):Int) 1=some (.int .i64 ((d-1:Nat):Int)):=z3b oM0 oM0
theorem y20(l:List UInt8)(hl:l.length<=9223372036854775807){v b:ByteArray}(hv:v.size<=8)(hb:b.size<=8)(d:Nat)(hd:d<=1000){rn rt:KFm}{B:Nat}(hB:B<=100000000)(h1:KOk rn B)(h2:KOk rt B)
 (sn:0<d->MkN l 21 v b ((d-1:Nat):Int) rn B) (st:0<d->MkN l 22 v b ((d-1:Nat):Int) rt B) :
 MkN l 21 v b (d:Int) (λa=>y35 l v rn rt (kK l d 14 6 a) (a+1)) (2*B+24):=by
 intro a ha;show SC _ _ _ _ _ (iStr (y35 l v rn rt (kK l d 14 6 a) (a+1)).1) (mkO l (y35 l v rn rt (kK l d 14 6 a) (a+1)).2);generalize hR:y35 l v rn rt (kK l d 14 6 a) (a+1)=R;refine SC.vc tb { jn:=[4] } [] Tryz.func21 rfl rfl ?_;have hk:0<d∨kK l d 14 6 a<6:=by
  rcases Nat.eq_zero_or_pos d with h|h
  ·subst h;exact .inr (G9 _ dC0)
  ·exact .inl h
 refine⟨[],z4q l hl 14 dC0 a oM0,sR,Gc,rfl,Unit,λ_=>[(9,iInt (kK l d 14 6 a:Nat))],λ_=>[],λ_=>True,[],?_,?_⟩
 ·refine z00 (λc=>?_) λc=>?_
  ·have c:=An c;exact⟨r64 (z:=((z2g l a 14%6:Nat):Int)) dC0 (by rw[Int.tmod_eq_emod_of_nonneg oM0];omega),(),Gb,⟨ivq (by unfold kK;rw[if_pos oM0]),Gb⟩,Gb,rfl,rfl,rfl,rfl⟩
  ·have c:=Al c;exact⟨(),Gb,⟨ivq (by unfold kK;rw[if_neg oM0]),Gb⟩,Gb,rfl,rfl,rfl,rfl⟩
 ·rintro _ _;generalize kK l d 14 6 a=K at hk hR⊢;unfold y35 at hR;have n0:=h1 (a+1);have n1:=h1 (a+1+1);have n2:=h1 ((rn (a+1)).2+1);have n3:=h2 (rn (a+1)).2;have g1:=zg8 kUns (z2g l (a+1) 5) dC0;have g2:=zg8 kOps (z2g l (rn (a+1)).2 11) dC0;refine z00 (λc=>?_) λc0=>z00 (λc=>?_) λc1=>z00 (λc=>?_) λc2=>z00 (λc=>?_) λc3=>z00 (λc=>?_) λc4=>z00 (λc=>?_) λc5=>z00 (λc=>?_) λc6=>z00 (λc=>?_) λc7=>?_
  all_goals try replace c0:¬K<2:=by have:=Al c0;omega
  all_goals try replace c1:¬K<5:=by have:=Al c1;omega
  all_goals try replace c2:¬K=5:=by have:=A9.1 c2;omega
  all_goals try replace c3:¬K=6:=by have:=A9.1 c3;omega
  all_goals try replace c4:¬K=7:=by have:=A9.1 c4;omega
  all_goals try replace c5:¬K<11:=by have:=Al c5;omega
  all_goals try replace c6:¬K=11:=by have:=A9.1 c6;omega
  all_goals try replace c7:¬K=12:=by have:=A9.1 c7;omega
  ·rw[if_pos (by have:=An c;omega)]at hR;subst hR;exact⟨[],z4q l hl 6 dC0 (a+1) oM0,sR,Gc,rfl,z02 (f:=eTx) (z6r (L:=kNums) (z5i l (a+1) (n:=6) dC0)),rfl,sI,rfl,Gb⟩
  ·rw[if_neg c0,if_pos (by have:=An c;omega)]at hR;subst hR;exact⟨sI,rfl,Gb⟩
  ·rw[if_neg c0,if_neg c1,if_pos (by have:=eq_of_beq c;omega)]at hR;subst hR
   repeat' (first|exact⟨sI,rfl,Gb⟩|refine⟨z09 (by simp only[A4,szl,A1,A6];omega),?_⟩)
  ·rw[if_neg c0,if_neg c1,if_neg c2,if_pos (by have:=eq_of_beq c;omega)]at hR;subst hR;have hd0:0<d:=by have:=eq_of_beq c;omega
   have q1:=sn hd0 (a+1) oM0;refine⟨z4b d hd hd0,[],q1,sR,Gc,rfl,?_⟩
   repeat' (first|exact⟨sI,rfl,Gb⟩|refine⟨z09 (by simp only[A4,szl,A1,A6];omega),?_⟩)
  ·rw[if_neg c0,if_neg c1,if_neg c2,if_neg c3,if_pos (by have:=eq_of_beq c;omega)]at hR;subst hR;have hd0:0<d:=by have:=eq_of_beq c;omega
   have q1:=sn hd0 (a+1+1) oM0;refine⟨[],z4q l hl 5 dC0 (a+1) oM0,sR,Gc,rfl,z02 (f:=eTx) (z6r (L:=kUns) (z5i l (a+1) (n:=5) dC0)),rfl,z09 (by simp only[A4,szl,A1,A6];omega),z4b d hd hd0,[],q1,sR,Gc,rfl,?_⟩
   repeat' (first|exact⟨sI,rfl,Gb⟩|refine⟨z09 (by simp only[A4,szl,A1,A6];omega),?_⟩)
  ·rw[if_neg c0,if_neg c1,if_neg c2,if_neg c3,if_neg c4,if_pos (by have:=An c;omega)]at hR;subst hR;have hd0:0<d:=by omega
   have q1:=sn hd0 (a+1) oM0;have q2:=sn hd0 ((rn (a+1)).2+1) oM0;refine⟨z4b d hd hd0,[],q1,sR,Gc,rfl,z09 (by simp only[A4,szl,A1,A6];omega),z09 (by simp only[A4,szl,A1,A6];omega),[],z4q l hl 11 dC0 (rn (a+1)).2 oM0,sR,Gc,rfl,z02 (f:=eTx) (z6r (L:=kOps) (z5i l (rn (a+1)).2 (n:=11) dC0)),rfl,z09 (by simp only[A4,szl,A1,A6];omega),z09 (by simp only[A4,szl,A1,A6];omega),z4b d hd hd0,[],q2,sR,Gc,rfl,?_⟩
   repeat' (first|exact⟨sI,rfl,Gb⟩|refine⟨z09 (by simp only[A4,szl,A1,A6];omega),?_⟩)
  ·rw[if_neg c0,if_neg c1,if_neg c2,if_neg c3,if_neg c4,if_neg c5,if_pos (by have:=eq_of_beq c;omega)]at hR;subst hR;exact⟨sI,rfl,Gb⟩
  ·rw[if_neg c0,if_neg c1,if_neg c2,if_neg c3,if_neg c4,if_neg c5,if_neg c6,if_pos (by have:=eq_of_beq c;omega)]at hR;subst hR
   repeat' (first|exact⟨sI,rfl,Gb⟩|refine⟨z09 (by simp only[A4,szl,A1,A6];omega),?_⟩)
  ·rw[if_neg c0,if_neg c1,if_neg c2,if_neg c3,if_neg c4,if_neg c5,if_neg c6,if_neg c7]at hR;subst hR;have hd0:0<d:=by omega
   have q1:=sn hd0 (a+1) oM0;have q2:=st hd0 (rn (a+1)).2 oM0;refine⟨z4b d hd hd0,[],q1,sR,Gc,rfl,z09 (by simp only[A4,szl,A1,A6];omega),z09 (by simp only[A4,szl,A1,A6];omega),z4b d hd hd0,[],q2,sR,Gc,rfl,?_⟩
   repeat' (first|exact⟨sI,rfl,Gb⟩|refine⟨z09 (by simp only[A4,szl,A1,A6];omega),?_⟩)
theorem zo0(l:List UInt8)(hl:l.length<=9223372036854775807){v b:ByteArray}(hb:b.size<=8)(d:Nat)(hd:d<=1000){rn rt:KFm}{B:Nat}(hB:B<=100000000)(h1:KOk rn B)(h2:KOk rt B)
 (sn:0<d->MkN l 21 v b ((d-1:Nat):Int) rn B) (st:0<d->MkN l 22 v b ((d-1:Nat):Int) rt B) :
 MkN l 22 v b (d:Int) (λa=>y36 l b rn rt (kK l d 10 3 a) (a+1)) (2*B+24):=by
 intro a ha;show SC _ _ _ _ _ (iStr (y36 l b rn rt (kK l d 10 3 a) (a+1)).1) (mkO l (y36 l b rn rt (kK l d 10 3 a) (a+1)).2);generalize hR:y36 l b rn rt (kK l d 10 3 a) (a+1)=R;refine SC.vc tb { jn:=[4] } [] Tryz.func22 rfl rfl ?_;have hk:0<d∨kK l d 10 3 a<3:=by
  rcases Nat.eq_zero_or_pos d with h|h
  ·subst h;exact .inr (G9 _ dC0)
  ·exact .inl h
 refine⟨[],z4q l hl 10 dC0 a oM0,sR,Gc,rfl,Unit,λ_=>[(9,iInt (kK l d 10 3 a:Nat))],λ_=>[],λ_=>True,[],?_,?_⟩
 ·refine z00 (λc=>?_) λc=>?_
  ·have c:=An c;exact⟨r64 (z:=((z2g l a 10%3:Nat):Int)) dC0 (by rw[Int.tmod_eq_emod_of_nonneg oM0];omega),(),Gb,⟨ivq (by unfold kK;rw[if_pos oM0]),Gb⟩,Gb,rfl,rfl,rfl,rfl⟩
  ·have c:=Al c;exact⟨(),Gb,⟨ivq (by unfold kK;rw[if_neg oM0]),Gb⟩,Gb,rfl,rfl,rfl,rfl⟩
 ·rintro _ _;generalize kK l d 10 3 a=K at hk hR⊢;unfold y36 at hR;have n0:=h1 (a+1);have n1:=h2 (a+1);have n2:=h1 ((rn (a+1)).2+1);have n3:=h2 (rt (a+1)).2;have g2:=zg8 kCmp (z2g l (rn (a+1)).2 6) dC0;refine z00 (λc=>?_) λc0=>z00 (λc=>?_) λc1=>z00 (λc=>?_) λc2=>z00 (λc=>?_) λc3=>z00 (λc=>?_) λc4=>z00 (λc=>?_) λc5=>?_
  all_goals try replace c0:¬K=0:=by have:=A9.1 c0;omega
  all_goals try replace c1:¬K<3:=by have:=Al c1;omega
  all_goals try replace c2:¬K=3:=by have:=A9.1 c2;omega
  all_goals try replace c3:¬K<7:=by have:=Al c3;omega
  all_goals try replace c4:¬K=7:=by have:=A9.1 c4;omega
  all_goals try replace c5:¬K=8:=by have:=A9.1 c5;omega
  ·rw[if_pos (by have:=eq_of_beq c;omega)]at hR;subst hR;exact⟨[],z4q l hl 2 dC0 (a+1) oM0,sR,Gc,rfl,z02 (f:=eTx) (z6r (L:=kTrs) (z5i l (a+1) (n:=2) dC0)),rfl,sI,rfl,Gb⟩
  ·rw[if_neg c0,if_pos (by have:=An c;omega)]at hR;subst hR;exact⟨sI,rfl,Gb⟩
  ·rw[if_neg c0,if_neg c1,if_pos (by have:=eq_of_beq c;omega)]at hR;subst hR
   repeat' (first|exact⟨sI,rfl,Gb⟩|refine⟨z09 (by simp only[A4,szl,A1,A6];omega),?_⟩)
  ·rw[if_neg c0,if_neg c1,if_neg c2,if_pos (by have:=An c;omega)]at hR;subst hR;have hd0:0<d:=by omega
   have q1:=sn hd0 (a+1) oM0;have q2:=sn hd0 ((rn (a+1)).2+1) oM0;refine⟨z4b d hd hd0,[],q1,sR,Gc,rfl,z09 (by simp only[A4,szl,A1,A6];omega),z09 (by simp only[A4,szl,A1,A6];omega),[],z4q l hl 6 dC0 (rn (a+1)).2 oM0,sR,Gc,rfl,z02 (f:=eTx) (z6r (L:=kCmp) (z5i l (rn (a+1)).2 (n:=6) dC0)),rfl,z09 (by simp only[A4,szl,A1,A6];omega),z09 (by simp only[A4,szl,A1,A6];omega),z4b d hd hd0,[],q2,sR,Gc,rfl,?_⟩
   repeat' (first|exact⟨sI,rfl,Gb⟩|refine⟨z09 (by simp only[A4,szl,A1,A6];omega),?_⟩)
  ·rw[if_neg c0,if_neg c1,if_neg c2,if_neg c3,if_pos (by have:=eq_of_beq c;omega)]at hR;subst hR;have hd0:0<d:=by omega
   have q1:=st hd0 (a+1) oM0;have q2:=st hd0 (rt (a+1)).2 oM0;refine⟨z4b d hd hd0,[],q1,sR,Gc,rfl,z09 (by simp only[A4,szl,A1,A6];omega),z09 (by simp only[A4,szl,A1,A6];omega),z4b d hd hd0,[],q2,sR,Gc,rfl,?_⟩
   repeat' (first|exact⟨sI,rfl,Gb⟩|refine⟨z09 (by simp only[A4,szl,A1,A6];omega),?_⟩)
  ·rw[if_neg c0,if_neg c1,if_neg c2,if_neg c3,if_neg c4,if_pos (by have:=eq_of_beq c;omega)]at hR;subst hR;have hd0:0<d:=by omega
   have q1:=st hd0 (a+1) oM0;have q2:=st hd0 (rt (a+1)).2 oM0;refine⟨z4b d hd hd0,[],q1,sR,Gc,rfl,z09 (by simp only[A4,szl,A1,A6];omega),z09 (by simp only[A4,szl,A1,A6];omega),z4b d hd hd0,[],q2,sR,Gc,rfl,?_⟩
   repeat' (first|exact⟨sI,rfl,Gb⟩|refine⟨z09 (by simp only[A4,szl,A1,A6];omega),?_⟩)
  ·rw[if_neg c0,if_neg c1,if_neg c2,if_neg c3,if_neg c4,if_neg c5]at hR;subst hR;have hd0:0<d:=by omega
   have q1:=sn hd0 (a+1) oM0;refine⟨z4b d hd hd0,[],q1,sR,Gc,rfl,?_⟩
   repeat' (first|exact⟨sI,rfl,Gb⟩|refine⟨z09 (by simp only[A4,szl,A1,A6];omega),?_⟩)
theorem y97(l:List UInt8)(hl:l.length<=9223372036854775807){v b:ByteArray}(hv:v.size<=8)(hb:b.size<=8):∀d,d<=3->kB d<=1000/\MkN l 21 v b (d:Int) (kNT l v b d).1 (kB d)/\MkN l 22 v b (d:Int) (kNT l v b d).2 (kB d)
 |0,_=>by
  have h0:KOk (λa=>(s_,a)) 0:=λa=>⟨Ae _,Ae _⟩
  exact⟨by decide,y20 l hl hv hb 0 oM0 oM0 h0 h0 (λh=>absurd h oM0) (λh=>absurd h oM0),zo0 l hl hb 0 oM0 oM0 h0 h0 (λh=>absurd h oM0) (λh=>absurd h oM0)⟩
 |d+1,hd=>by
  obtain⟨h0,h1,h2⟩:=y97 l hl hv hb d oM0;obtain⟨k1,k2⟩:=z7i l hv hb d
  exact⟨by match d,hd with
   |0,_=>decide
   |1,_=>decide
   |2,_=>decide,y20 l hl hv hb (d+1) oM0 oM0 k1 k2 (λ_=>h1) (λ_=>h2),zo0 l hl hb (d+1) oM0 oM0 k1 k2 (λ_=>h1) (λ_=>h2)⟩
end
end
section
def kZ:ByteArray:=⟨#[122]⟩
def kW:ByteArray:=⟨#[119]⟩
def kLv(v b:ByteArray):List ByteArray:=[⟨#[98,114,101,97,107,59,10]⟩,⟨#[99,111,110,116,105,110,117,101,59,10]⟩,⟨#[105,102,32,40]⟩++b++⟨#[41,32,123,10,98,114,101,97,107,59,10,125,10]⟩,⟨#[105,102,32,40]⟩++v++⟨#[32,62,32,51,41,32,123,10,99,111,110,116,105,110,117,101,59,10,125,10]⟩]
def kEn:List ByteArray:=[⟨#[52]⟩,⟨#[57]⟩,⟨#[51,48]⟩]
def kRe(b:ByteArray):List ByteArray:=[⟨#[120]⟩,⟨#[120,32,43,32,49]⟩,⟨#[48]⟩,⟨#[102,40,120,44,32]⟩++b++⟨#[41]⟩]
def kBF:Type:=ByteArray->ByteArray->Bool->KFm
def kStB(l:List UInt8)(v b:ByteArray)(bl:kBF)(D lp:Bool)(k a:Nat):ByteArray×Nat :=
 if k<3 then(v++⟨#[32,61,32]⟩++((kNT l v b 2).1 a).1++⟨#[59,10]⟩,((kNT l v b 2).1 a).2)
 else if k=3 then(b++⟨#[32,61,32]⟩++((kNT l v b 2).2 a).1++⟨#[59,10]⟩,((kNT l v b 2).2 a).2)
 else if k=4 then(⟨#[112,114,105,110,116,40]⟩++((kNT l v b 2).1 a).1++⟨#[41,59,10]⟩,((kNT l v b 2).1 a).2)
 else if k=5 then(⟨#[97,91]⟩++((kNT l v b 1).1 a).1++⟨#[32,38,32,51,93,32,61,32]⟩++((kNT l v b 2).1 ((kNT l v b 1).1 a).2).1++⟨#[59,10]⟩,((kNT l v b 2).1 ((kNT l v b 1).1 a).2).2)
 else if decide (k=6)&&lp then(kAt (kLv v b) (z2g l a 4),a+1)
 else if decide (k=7)&&D then
  (⟨#[105,102,32,40]⟩++b++⟨#[41,32,123,10,105,110,116,32,122,32,61,32]⟩++((kNT l v b 1).1 a).1++⟨#[59,10,98,111,111,108,32,119,32,61,32]⟩++((kNT l kZ b 1).2 ((kNT l v b 1).1 a).2).1++⟨#[59,10]⟩++(bl kZ kW lp ((kNT l kZ b 1).2 ((kNT l v b 1).1 a).2).2).1++v++⟨#[32,61,32,122,59,10,125,10]⟩,(bl kZ kW lp ((kNT l kZ b 1).2 ((kNT l v b 1).1 a).2).2).2)
 else if decide (k<10)&&D then
  if z2g l (bl v b lp ((kNT l v b 2).2 a).2).2 2=1 then(⟨#[105,102,32,40]⟩++((kNT l v b 2).2 a).1++⟨#[41,32,123,10]⟩++(bl v b lp ((kNT l v b 2).2 a).2).1++⟨#[125,32,101,108,115,101,32,123,10]⟩++(bl v b lp ((bl v b lp ((kNT l v b 2).2 a).2).2+1)).1++⟨#[125,10]⟩,(bl v b lp ((bl v b lp ((kNT l v b 2).2 a).2).2+1)).2)
  else(⟨#[105,102,32,40]⟩++((kNT l v b 2).2 a).1++⟨#[41,32,123,10]⟩++(bl v b lp ((kNT l v b 2).2 a).2).1++⟨#[125,10]⟩,(bl v b lp ((kNT l v b 2).2 a).2).2+1)
 else if decide (k<12)&&D then
  (⟨#[119,104,105,108,101,32,40]⟩++((kNT l v b 1).2 a).1++⟨#[41,32,123,10]⟩++(bl v b true ((kNT l v b 1).2 a).2).1++v++⟨#[32,61,32]⟩++v++⟨#[32,43,32,49,59,10,105,102,32,40]⟩++v++⟨#[32,62,32]⟩++kAt kEn (z2g l (bl v b true ((kNT l v b 1).2 a).2).2 3)++⟨#[41,32,123,10,98,114,101,97,107,59,10,125,10,125,10]⟩,(bl v b true ((kNT l v b 1).2 a).2).2+1)
 else if decide (k=12) && !(v.toList==kZ.toList)then(⟨#[105,102,32,40]⟩++b++⟨#[41,32,123,10,114,101,116,117,114,110,32]⟩++kAt (kRe b) (z2g l a 4)++⟨#[59,10,125,10]⟩,a+1)
 else(v++⟨#[32,61,32]⟩++v++⟨#[32,45,32,49,59,10]⟩,a)
def y84(st:KFm):Nat->ByteArray->Nat->ByteArray×Nat
 |0,s,a=>(s,a)
 |i+1,s,a=>y84 st i (s++(st a).1) (st a).2
def kBlB(l:List UInt8)(st:KFm):KFm:=λa=>y84 st (z2g l a 5) s_ (a+1)
def kStm(l:List UInt8):Nat->kBF
 |0,v,b,lp=>λa=>kStB l v b (λ_ _ _ a=>(s_,a)) false lp (z2g l a 13) (a+1)
 |d+1,v,b,lp=>λa=>kStB l v b (λv b lp=>kBlB l (kStm l d v b lp)) true lp (z2g l a 13) (a+1)
def kBlk(l:List UInt8)(d:Nat)(v b:ByteArray)(lp:Bool):KFm:=kBlB l (kStm l d v b lp)
def kBf(bl:kBF)(B:Nat):Prop:=∀v b lp,v.size<=8->b.size<=8->KOk (bl v b lp) B
section
attribute [local irreducible] z2g kAt kNT
def BdM(B C:Nat)(r:ByteArray×Nat):Prop:=r.1.size<=B/\r.2<=C
theorem BdM.ite{B C:Nat}{c:Prop}[Decidable c]{x y:ByteArray×Nat}(h1:BdM B C x)(h2:BdM B C y):BdM B C (if c then x else y):=by split<;>assumption
theorem j14(l:List UInt8){v b:ByteArray}(hv:v.size<=8)(hb:b.size<=8){bl:kBF}{B:Nat}(hB:kBf bl B)(D lp:Bool)(k a:Nat):(kStB l v b bl D lp k a).1.size<=2*B+600/\(kStB l v b bl D lp k a).2<=a+(2*B+599):=by
 have hz:kZ.size<=8:=by decide
 have hw:kW.size<=8:=by decide
 have e1:kB 1=72:=rfl;have e2:kB 2=168:=rfl;have a1:(kAt (kLv v b) (z2g l a 4)).size<=100:=by
  rcases Dj (z2g l a 4) (kLv v b).length with h1|h1
  ·have:=Ag (z6r h1);have key:∀x∈kLv v b,x.size<=100:=λx hx=>by
    unfold kLv at hx;simp only[Ao,Bz,Fh]at hx;rcases hx with h|h|h|h<;>rw[h]<;>(first|decide|(simp only[A4,szl,A1,A6];omega))
   exact key _ this
  ·unfold kAt;rw[Ax,List.getElem?_eq_none h1];exact Ad _
 have a2:(kAt (kRe b) (z2g l a 4)).size<=100:=by
  rcases Dj (z2g l a 4) (kRe b).length with h1|h1
  ·have:=Ag (z6r h1);have key:∀x∈kRe b,x.size<=100:=λx hx=>by
    unfold kRe at hx;simp only[Ao,Bz,Fh]at hx;rcases hx with h|h|h|h<;>rw[h]<;>(first|decide|(simp only[A4,szl,A1,A6];omega))
   exact key _ this
  ·unfold kAt;rw[Ax,List.getElem?_eq_none h1];exact Ad _
 have a3:=λi=>zg8 kEn i dC0;have n1:=λa=>(z7i l hv hb 1).1 a;have n2:=λa=>(z7i l hv hb 2).1 a;have t1:=λa=>(z7i l hv hb 1).2 a;have t2:=λa=>(z7i l hv hb 2).2 a;have z1:=λa=>(z7i l hz hb 1).2 a;have b1:=λlp a=>hB v b lp hv hb a;have b2:=λlp a=>hB kZ kW lp hz hw a;rw[e1]at n1 t1 z1;rw[e2]at n2 t2;unfold kStB;have n1a:=n1 a;have n2a:=n2 a;have t1a:=t1 a;have t2a:=t2 a;have x1:=n2 ((kNT l v b 1).1 a).2;have x2:=z1 ((kNT l v b 1).1 a).2;have x3:=b2 lp ((kNT l kZ b 1).2 ((kNT l v b 1).1 a).2).2;have x4:=b1 lp ((kNT l v b 2).2 a).2;have x5:=b1 lp ((bl v b lp ((kNT l v b 2).2 a).2).2+1);have x6:=b1 true ((kNT l v b 1).2 a).2;have x7:=a3 (z2g l (bl v b true ((kNT l v b 1).2 a).2).2 3);clear n1 n2 t1 t2 z1 b1 b2 a3;show BdM (2*B+600) (a+(2*B+599)) _
 repeat' (first|refine BdM.ite ?_ ?_|(show _/\_;simp only[A4,szl,A1,A6];omega))
theorem yk9{st:KFm}{B:Nat}(h:KOk st B):∀i s a,(y84 st i s a).1.size<=s.size+i*B/\(y84 st i s a).2<=a+i*B
 |0,s,a=>by simp[y84]
 |i+1,s,a=>by
  have h1:=yk9 h i (s++(st a).1) (st a).2;have h2:=h a;rw[A4]at h1;rw[Nat.succ_mul];simp only[y84];omega
def kS:Nat->Nat
 |0=>600
 |d+1=>8*kS d+602
theorem yc4(l:List UInt8){st:KFm}{B:Nat}(h:KOk st B):KOk (kBlB l st) (4*B+1):=λa=>by
 have h1:=yk9 h (z2g l a 5) s_ (a+1);have h2:z2g l a 5<=4:=Bp (z5i l a dC0);have h3:=C1 B h2;have h4:s_.size=0:=rfl;unfold kBlB;omega
theorem y0s(l:List UInt8):∀d,kBf (kStm l d) (kS d)
 |0=>λv b lp hv hb a=>by
  have:=j14 l hv hb (bl:=λ_ _ _ a=>(s_,a)) (B:=0) (λ_ _ _ _ _ a=>⟨Ae _,Ae _⟩) false lp (z2g l a 13) (a+1)
  simp only[kStm,kS];omega
 |d+1=>λv b lp hv hb a=>by
  have h1:kBf (λv b lp=>kBlB l (kStm l d v b lp)) (4*kS d+1):=λv b lp hv hb=>yc4 l (y0s l d v b lp hv hb);have:=j14 l hv hb h1 true lp (z2g l a 13) (a+1);simp only[kStm,kS];omega
def MkS(l:List UInt8)(f:FuncId)(v b:ByteArray)(d:Int)(lp:Bool)(F:KFm)(B:Nat):Prop:=∀a,a+B<=1000000000->SC Tryz.prog f [.ptr 1 0,iStr v,iStr b,iInt d,iBool lp] (mkO l a) (λk=>k∈[]) (iStr (F a).1) (mkO l (F a).2)
theorem y4o(l:List UInt8)(hl:l.length<=9223372036854775807){v b:ByteArray}(d:Int)(lp:Bool){F:KFm}{B:Nat}(hB:B<=100000000)(h0:KOk F B)(h:MkS l 42 v b d lp F B) :
 MkS l 20 v b d lp (kBlB l F) (4*B+1):=by
 intro a ha;refine SC.vc tb {} [] Tryz.func20 rfl rfl ?_;have hp:z2g l a 5<=4:=Bp (z5i l a dC0);refine⟨[],z4q l hl 5 dC0 a oM0,sR,Gc,rfl,?_⟩;unfold kBlB;generalize hR:y84 F (z2g l a 5) s_ (a+1)=R;refine⟨Nat×ByteArray×Nat,λx=>[(12,iInt ((x.1:Nat):Int)),(11,iStr x.2.1)],λx=>mkO l x.2.2,λx=>x.1,λx=>R=y84 F x.1 x.2.1 x.2.2/\x.1<=4/\x.2.1.size+x.1*B<=4*B/\x.2.2+x.1*B<=a+1+4*B,[],(z2g l a 5,s_,a+1),
  ⟨hR.symm,hp,by have:=C1 B hp;have h4:s_.size=0:=rfl;dsimp only;omega,by have:=C1 B hp;dsimp only;omega⟩,Gd,Gc,?_⟩
 rintro⟨i,s,p⟩ ⟨i1,i2,i3,i4⟩;dsimp only at i1 i2 i3 i4;refine z00 (λc=>?_) λc=>?_
 ·have c:=An c;obtain⟨j,rfl⟩:∃j,i=j+1:=⟨i-1,by dsimp only at c;omega⟩;rw[Nat.succ_mul]at i3 i4;have h1:=h0 p;exact⟨[],h p oM0,sR,Gc,rfl,z09 (by dsimp only;omega),z3b (z:=((j:Nat):Int)) (by dsimp only;omega) oM0,(j,s++(F p).1,(F p).2),Aa _,
   ⟨i1,by dsimp only;omega,by rw[A4];dsimp only;omega,by dsimp only;omega⟩,Gd,Gc,rfl,rfl,rfl,rfl⟩
 ·have c:=Al c;obtain rfl:i=0:=by dsimp only at c;omega
  subst i1;exact⟨sI,rfl,Gb⟩
theorem y98(l:List UInt8)(hl:l.length<=9223372036854775807){v b:ByteArray}(hv:v.size<=8)(hb:b.size<=8)(d:Nat)(hd:d<=1000)(D:Bool)(hD:decide (((d:Nat):Int) > 0)=D)(lp:Bool){bl:kBF}{B:Nat}(hB:B<=100000000)(h0:kBf bl B)
 (sb:0<d->∀v b lp,v.size<=8->b.size<=8->MkS l 20 v b ((d-1:Nat):Int) lp (bl v b lp) B) :
 MkS l 42 v b (d:Int) lp (λa=>kStB l v b bl D lp (z2g l a 13) (a+1)) (2*B+600):=by
 intro a ha;show SC _ _ _ _ _ (iStr (kStB l v b bl D lp (z2g l a 13) (a+1)).1) (mkO l (kStB l v b bl D lp (z2g l a 13) (a+1)).2);generalize hR:kStB l v b bl D lp (z2g l a 13) (a+1)=R;refine SC.vc tb { jn:=[1000001] } [] Tryz.func42 rfl rfl ?_;refine⟨[],z4q l hl 13 dC0 a oM0,sR,Gc,rfl,?_⟩;generalize z2g l a 13=K at hR⊢;unfold kStB at hR;have e6:((K:Int)==6)=decide (K=6):=by rw[Cl];simp;omega
 have e7:((K:Int)==7)=decide (K=7):=by rw[Cl];simp;omega
 have e12:((K:Int)==12)=decide (K=12):=by rw[Cl];simp;omega
 have l10:decide ((K:Int)<10)=decide (K<10):=by rw[Cl];simp;omega
 have l12:decide ((K:Int)<12)=decide (K<12):=by rw[Cl];simp;omega
 have hz:kZ.size<=8:=by decide
 have hw:kW.size<=8:=by decide
 have z8:kZ.size=1:=rfl;have eB1:kB 1=72:=rfl;have eB2:kB 2=168:=rfl;obtain⟨_,N1,T1⟩:=y97 l hl hv hb 1 dC0;obtain⟨_,N2,T2⟩:=y97 l hl hv hb 2 dC0;obtain⟨_,_,Z1⟩:=y97 l hl hz hb 1 dC0;have n1:=(z7i l hv hb 1).1 (a+1);have n2:=(z7i l hv hb 2).1 (a+1);have t1:=(z7i l hv hb 1).2 (a+1);have t2:=(z7i l hv hb 2).2 (a+1);rw[eB1]at N1 T1 Z1 n1 t1;rw[eB2]at N2 T2 n2 t2;have dec:D=true->0<d:=λh=>by rw[h]at hD;have:=An hD;omega
 refine⟨Unit,λ_=>[(17,iBool (decide ((K:Int)<3)))],λ_=>[],λ_=>True,[],⟨(),Gb,Gc,Gb,rfl,rfl,rfl,rfl⟩,λ_ _=>z00 (λc=>?_) λc=>?_⟩
 ·rw[if_pos (by have:=An c;omega)]at hR;subst hR;refine⟨z09 (by simp only[A4,szl,A1,A6];omega),[],N2 (a+1) oM0,sR,Gc,rfl,?_⟩
  repeat' (first|exact⟨sI,rfl,Gb⟩|refine⟨z09 (by simp only[A4,szl,A1,A6];omega),?_⟩)
 have c0:¬(K<3):=by have:=Al c;omega
 clear c;refine⟨Unit,λ_=>[(28,iBool ((K:Int)==3))],λ_=>[],λ_=>True,[],⟨(),Gb,Gc,Gb,rfl,rfl,rfl,rfl⟩,λ_ _=>z00 (λc=>?_) λc=>?_⟩
 ·rw[if_neg c0,if_pos (by have:=eq_of_beq c;omega)]at hR;subst hR;refine⟨z09 (by simp only[A4,szl,A1,A6];omega),[],T2 (a+1) oM0,sR,Gc,rfl,?_⟩
  repeat' (first|exact⟨sI,rfl,Gb⟩|refine⟨z09 (by simp only[A4,szl,A1,A6];omega),?_⟩)
 have c1:¬(K=3):=by have:=A9.1 c;omega
 clear c;refine⟨Unit,λ_=>[(39,iBool ((K:Int)==4))],λ_=>[],λ_=>True,[],⟨(),Gb,Gc,Gb,rfl,rfl,rfl,rfl⟩,λ_ _=>z00 (λc=>?_) λc=>?_⟩
 ·rw[if_neg c0,if_neg c1,if_pos (by have:=eq_of_beq c;omega)]at hR;subst hR;refine⟨[],N2 (a+1) oM0,sR,Gc,rfl,?_⟩
  repeat' (first|exact⟨sI,rfl,Gb⟩|refine⟨z09 (by simp only[A4,szl,A1,A6];omega),?_⟩)
 have c2:¬(K=4):=by have:=A9.1 c;omega
 clear c;refine⟨Unit,λ_=>[(48,iBool ((K:Int)==5))],λ_=>[],λ_=>True,[],⟨(),Gb,Gc,Gb,rfl,rfl,rfl,rfl⟩,λ_ _=>z00 (λc=>?_) λc=>?_⟩
 ·rw[if_neg c0,if_neg c1,if_neg c2,if_pos (by have:=eq_of_beq c;omega)]at hR;subst hR;have m2:=(z7i l hv hb 2).1 ((kNT l v b 1).1 (a+1)).2;rw[eB2]at m2;refine⟨[],N1 (a+1) oM0,sR,Gc,rfl,z09 (by simp only[A4,szl,A1,A6];omega),z09 (by simp only[A4,szl,A1,A6];omega),[],N2 ((kNT l v b 1).1 (a+1)).2 oM0,sR,Gc,rfl,?_⟩
  repeat' (first|exact⟨sI,rfl,Gb⟩|refine⟨z09 (by simp only[A4,szl,A1,A6];omega),?_⟩)
 have c3:¬(K=5):=by have:=A9.1 c;omega
 clear c;refine⟨Unit,λ_=>[(64,iBool (decide (K=6)&&lp))],λ_=>[],λ_=>True,[],z00 (λc=>⟨(),Gb,⟨by rw[<- e6,c];rfl,Gb⟩,Gb,rfl,rfl,rfl,rfl⟩) (λc=>⟨(),Gb,⟨by rw[<- e6,c];rfl,Gb⟩,Gb,rfl,rfl,rfl,rfl⟩),λ_ _=>z00 (λc=>?_) λc=>?_⟩
 ·rw[if_neg c0,if_neg c1,if_neg c2,if_neg c3,if_pos c]at hR;subst hR;exact⟨z09 (by simp only[A4,szl,A1,A6];omega),z09 (by simp only[A4,szl,A1,A6];omega),z09 (by simp only[A4,szl,A1,A6];omega),z09 (by simp only[A4,szl,A1,A6];omega),[],z4q l hl 4 dC0 (a+1) oM0,sR,Gc,rfl,z02 (f:=eTx) (z6r (L:=kLv v b) (z5i l (a+1) (n:=4) dC0)),rfl,sI,rfl,Gb⟩
 have c4:¬((decide (K=6)&&lp)=true):=by rw[c];decide
 clear c;refine⟨Unit,λ_=>[(81,iBool (decide (K=7)&&D))],λ_=>[],λ_=>True,[],z00 (λc=>⟨(),Gb,⟨by rw[<- e7,c,hD];rfl,Gb⟩,Gb,rfl,rfl,rfl,rfl⟩) (λc=>⟨(),Gb,⟨by rw[<- e7,c];rfl,Gb⟩,Gb,rfl,rfl,rfl,rfl⟩),λ_ _=>z00 (λc=>?_) λc=>?_⟩
 ·rw[if_neg c0,if_neg c1,if_neg c2,if_neg c3,if_neg c4,if_pos c]at hR;subst hR;have hd0:=dec (by cases D with|true=>rfl|false=>rw[Cv]at c;cases c);have m1:=(z7i l hz hb 1).2 ((kNT l v b 1).1 (a+1)).2;rw[eB1]at m1;have m2:=h0 kZ kW lp hz hw ((kNT l kZ b 1).2 ((kNT l v b 1).1 (a+1)).2).2;refine⟨z09 (by simp only[A4,szl,A1,A6];omega),z09 (by simp only[A4,szl,A1,A6];omega),[],N1 (a+1) oM0,sR,Gc,rfl,z09 (by simp only[A4,szl,A1,A6];omega),z09 (by simp only[A4,szl,A1,A6];omega),[],Z1 ((kNT l v b 1).1 (a+1)).2 oM0,sR,Gc,rfl,z09 (by simp only[A4,szl,A1,A6];omega),z09 (by simp only[A4,szl,A1,A6];omega),z4b d hd hd0,[],sb hd0 kZ kW lp hz hw ((kNT l kZ b 1).2 ((kNT l v b 1).1 (a+1)).2).2 oM0,sR,Gc,rfl,?_⟩
  repeat' (first|exact⟨sI,rfl,Gb⟩|refine⟨z09 (by simp only[A4,szl,A1,A6];omega),?_⟩)
 have c5:¬((decide (K=7)&&D)=true):=by rw[c];decide
 clear c;refine⟨Unit,λ_=>[(111,iBool (decide (K<10)&&D))],λ_=>[],λ_=>True,[],z00 (λc=>⟨(),Gb,⟨by rw[<- l10,c,hD];rfl,Gb⟩,Gb,rfl,rfl,rfl,rfl⟩) (λc=>⟨(),Gb,⟨by rw[<- l10,c];rfl,Gb⟩,Gb,rfl,rfl,rfl,rfl⟩),λ_ _=>z00 (λc=>?_) λc=>?_⟩
 ·rw[if_neg c0,if_neg c1,if_neg c2,if_neg c3,if_neg c4,if_neg c5,if_pos c]at hR;subst hR;have hd0:=dec (by cases D with|true=>rfl|false=>rw[Cv]at c;cases c);have m1:=h0 v b lp hv hb ((kNT l v b 2).2 (a+1)).2;have m2:=h0 v b lp hv hb ((bl v b lp ((kNT l v b 2).2 (a+1)).2).2+1);refine⟨[],T2 (a+1) oM0,sR,Gc,rfl,z09 (by simp only[A4,szl,A1,A6];omega),z09 (by simp only[A4,szl,A1,A6];omega),z4b d hd hd0,[],sb hd0 v b lp hv hb ((kNT l v b 2).2 (a+1)).2 oM0,sR,Gc,rfl,z09 (by simp only[A4,szl,A1,A6];omega),?_⟩;refine⟨Unit,λ_=>[(135,iBool ((z2g l (bl v b lp ((kNT l v b 2).2 (a+1)).2).2 2:Int)==1))],λ_=>mkO l ((bl v b lp ((kNT l v b 2).2 (a+1)).2).2+1),λ_=>True,[1],⟨[],z4q l hl 2 dC0 _ oM0,sR,Gc,rfl,(),Gb,Gc,Gc,rfl,rfl,rfl,rfl⟩,λ_ _=>z00 (λk=>?_) λk=>?_⟩
  ·rw[if_pos (by have:=eq_of_beq k;omega)];refine⟨z09 (by simp only[A4,szl,A1,A6];omega),z4b d hd hd0,[],sb hd0 v b lp hv hb _ oM0,sR,Gc,rfl,?_⟩
   repeat' (first|exact⟨sI,rfl,Gb⟩|refine⟨z09 (by simp only[A4,szl,A1,A6];omega),?_⟩)
  ·rw[if_neg (by have:=A9.1 k;omega)]
   repeat' (first|exact⟨sI,rfl,Gb⟩|refine⟨z09 (by simp only[A4,szl,A1,A6];omega),?_⟩)
 have c6:¬((decide (K<10)&&D)=true):=by rw[c];decide
 clear c;refine⟨Unit,λ_=>[(148,iBool (decide (K<12)&&D))],λ_=>[],λ_=>True,[],z00 (λc=>⟨(),Gb,⟨by rw[<- l12,c,hD];rfl,Gb⟩,Gb,rfl,rfl,rfl,rfl⟩) (λc=>⟨(),Gb,⟨by rw[<- l12,c];rfl,Gb⟩,Gb,rfl,rfl,rfl,rfl⟩),λ_ _=>z00 (λc=>?_) λc=>?_⟩
 ·rw[if_neg c0,if_neg c1,if_neg c2,if_neg c3,if_neg c4,if_neg c5,if_neg c6,if_pos c]at hR;subst hR;have hd0:=dec (by cases D with|true=>rfl|false=>rw[Cv]at c;cases c);have m1:=h0 v b true hv hb ((kNT l v b 1).2 (a+1)).2;have m2:=zg8 kEn (z2g l (bl v b true ((kNT l v b 1).2 (a+1)).2).2 3) dC0;refine⟨[],T1 (a+1) oM0,sR,Gc,rfl,z09 (by simp only[A4,szl,A1,A6];omega),z09 (by simp only[A4,szl,A1,A6];omega),z4b d hd hd0,[],sb hd0 v b true hv hb ((kNT l v b 1).2 (a+1)).2 oM0,sR,Gc,rfl,z09 (by simp only[A4,szl,A1,A6];omega),z09 (by simp only[A4,szl,A1,A6];omega),z09 (by simp only[A4,szl,A1,A6];omega),z09 (by simp only[A4,szl,A1,A6];omega),z09 (by simp only[A4,szl,A1,A6];omega),z09 (by simp only[A4,szl,A1,A6];omega),z09 (by simp only[A4,szl,A1,A6];omega),[],z4q l hl 3 dC0 (bl v b true ((kNT l v b 1).2 (a+1)).2).2 oM0,sR,Gc,rfl,z02 (f:=eTx) (z6r (L:=kEn) (z5i l (bl v b true ((kNT l v b 1).2 (a+1)).2).2 (n:=3) dC0)),rfl,?_⟩
  repeat' (first|exact⟨sI,rfl,Gb⟩|refine⟨z09 (by simp only[A4,szl,A1,A6];omega),?_⟩)
 have c7:¬((decide (K<12)&&D)=true):=by rw[c];decide
 clear c;refine⟨Unit,λ_=>[(186,iBool (decide (K=12) && !(v.toList==kZ.toList)))],λ_=>[],λ_=>True,[],z00 (λc=>⟨(),Gb,⟨by rw[<- e12,c];rfl,Gb⟩,Gb,rfl,rfl,rfl,rfl⟩) (λc=>⟨(),Gb,⟨by rw[<- e12,c];rfl,Gb⟩,Gb,rfl,rfl,rfl,rfl⟩),λ_ _=>z00 (λc=>?_) λc=>?_⟩
 ·rw[if_neg c0,if_neg c1,if_neg c2,if_neg c3,if_neg c4,if_neg c5,if_neg c6,if_neg c7,if_pos c]at hR;subst hR;have m2:(kAt (kRe b) (z2g l (a+1) 4)).size<=100:=by
   have:=Ag (z6r (L:=kRe b) (z5i l (a+1) (n:=4) dC0));have key:∀x∈kRe b,x.size<=100:=λx hx=>by
    unfold kRe at hx;simp only[Ao,Bz,Fh]at hx;rcases hx with h|h|h|h<;>rw[h]<;>(first|decide|(simp only[A4,szl,A1,A6];omega))
   exact key _ this
  refine⟨z09 (by simp only[A4,szl,A1,A6];omega),z09 (by simp only[A4,szl,A1,A6];omega),z09 (by simp only[A4,szl,A1,A6];omega),z09 (by simp only[A4,szl,A1,A6];omega),[],z4q l hl 4 dC0 (a+1) oM0,sR,Gc,rfl,z02 (f:=eTx) (z6r (L:=kRe b) (z5i l (a+1) (n:=4) dC0)),rfl,?_⟩
  repeat' (first|exact⟨sI,rfl,Gb⟩|refine⟨z09 (by simp only[A4,szl,A1,A6];omega),?_⟩)
 have c8:¬((decide (K=12) && !(v.toList==kZ.toList))=true):=by rw[c];decide
 clear c;rw[if_neg c0,if_neg c1,if_neg c2,if_neg c3,if_neg c4,if_neg c5,if_neg c6,if_neg c7,if_neg c8]at hR;subst hR
 repeat' (first|exact⟨sI,rfl,Gb⟩|refine⟨z09 (by simp only[A4,szl,A1,A6];omega),?_⟩)
end
end
section
theorem j13{d:Nat}(h:d<=3):kS d<=400000:=by
 match d,h with
 |0,_=>decide
 |1,_=>decide
 |2,_=>decide
 |3,_=>decide
theorem y6p(l:List UInt8)(hl:l.length<=9223372036854775807):∀d:Nat,d<=3->∀v b lp,v.size<=8->b.size<=8->MkS l 42 v b (d:Int) lp (kStm l d v b lp) (kS d)/\MkS l 20 v b (d:Int) lp (kBlk l d v b lp) (4*kS d+1)
 |0,_,v,b,lp,hv,hb=>by
  have h0:kBf (λ_ _ _ a=>(s_,a)) 0:=λ_ _ _ _ _ a=>⟨Ae _,Ae _⟩;have h1:=y98 l hl hv hb 0 dC0 false dC0 lp dC0 h0 (λh=>absurd h dC0)
  exact⟨h1,y4o l hl (((0:Nat):Int)) lp dC0 (y0s l 0 v b lp hv hb) h1⟩
 |d+1,hd,v,b,lp,hv,hb=>by
  have ih:=y6p l hl d oM0;have hk:=j13 (d:=d) oM0;have hk2:=j13 hd;have h0:kBf (λv b lp=>kBlk l d v b lp) (4*kS d+1):=λv b lp hv hb=>yc4 l (y0s l d v b lp hv hb);have h1:=y98 l hl hv hb (d+1) oM0 true sI0 lp oM0 h0 (λ_ v b lp hv hb=>(ih v b lp hv hb).2);rw[show 2*(4*kS d+1)+600=kS (d+1) by simp only[kS];omega]at h1;exact⟨h1,y4o l hl (((d+1:Nat):Int)) lp oM0 (y0s l (d+1) v b lp hv hb) h1⟩
def kX:ByteArray:=⟨#[120]⟩
def kB_:ByteArray:=⟨#[98]⟩
def y5l:ByteArray:=⟨#[105,110,116,32,97,91,52,93,59,10,105,110,116,32,99,91,51,93,59,10]⟩
def y5m(l:List UInt8)(s:ByteArray)(a:Nat):ByteArray×Nat :=
 (s++⟨#[105,110,116,32,102,40,105,110,116,32,120,44,32,98,111,111,108,32,98,41,32,123,10]⟩++(kBlk l 2 kX kB_ false a).1++⟨#[114,101,116,117,114,110,32]⟩++((kNT l kX kB_ 2).1 (kBlk l 2 kX kB_ false a).2).1++⟨#[59,10,125,10]⟩,((kNT l kX kB_ 2).1 (kBlk l 2 kX kB_ false a).2).2)
def j0v(l:List UInt8)(s:ByteArray)(a:Nat):ByteArray×Nat :=
 (s++⟨#[98,111,111,108,32,103,40,105,110,116,32,120,41,32,123,10,98,111,111,108,32,98,32,61,32,120,32,62,32,50,59,10]⟩++(kBlk l 1 kX kB_ false a).1++⟨#[114,101,116,117,114,110,32]⟩++((kNT l kX kB_ 2).2 (kBlk l 1 kX kB_ false a).2).1++⟨#[59,10,125,10]⟩,((kNT l kX kB_ 2).2 (kBlk l 1 kX kB_ false a).2).2)
def good3(l:List UInt8)(s:ByteArray)(a:Nat):ByteArray×Nat :=
 (s++⟨#[105,110,116,32,109,97,105,110,40,41,32,123,10,105,110,116,32,120,32,61,32,51,59,10,98,111,111,108,32,98,32,61,32,102,97,108,115,101,59,10]⟩++(kBlk l 3 kX kB_ false a).1++⟨#[114,101,116,117,114,110,32]⟩++((kNT l kX kB_ 2).1 (kBlk l 3 kX kB_ false a).2).1++⟨#[59,10,125,10]⟩,((kNT l kX kB_ 2).1 (kBlk l 3 kX kB_ false a).2).2)
def y0n(l:List UInt8):ByteArray:=(good3 l (j0v l (y5m l y5l 0).1 (y5m l y5l 0).2).1 (j0v l (y5m l y5l 0).1 (y5m l y5l 0).2).2).1
theorem ys6(s:ByteArray)(h:(z2b s).2.1≠0):(z2b s).1=pg0:=by
 unfold z2b at h⊢;split
 ·rename_i h0;rw[if_pos h0]at h;split
  ·rfl
  ·rename_i h1;rw[if_neg h1]at h;split
   ·rfl
   ·rename_i h2;rw[if_neg h2]at h;split
    ·rename_i h3;rw[if_pos h3]at h;exact absurd rfl h
    ·rfl
 ·rfl
theorem yc5(l:List UInt8)(d:Nat){v b:ByteArray}(hv:v.size<=8)(hb:b.size<=8)(lp:Bool)(a:Nat):(kBlk l d v b lp a).1.size<=4*kS d+1/\(kBlk l d v b lp a).2<=a+(4*kS d+1):=yc4 l (y0s l d v b lp hv hb) a
section
attribute [local irreducible] kNT kBlk z2b
theorem sc_Good(l:List UInt8)(hl:l.length<=9223372036854775807):SC Tryz.prog 8 [.pv (bts l)] [] (λk=>k∈[]) (.pv (z2b (y0n l)).1.enc) []:=by
 refine SC.vc tb { ids:=[(10,1)] } [] Tryz.func8 rfl rfl ?_;have hx:kX.size<=8:=by decide
 have hb:kB_.size<=8:=by decide
 have e2:kB 2=168:=rfl;have s1:=j13 (d:=1) dC0;have s2:=j13 (d:=2) dC0;have s3:=j13 (d:=3) dC0;have b1:=(y6p l hl 1 dC0 kX kB_ false hx hb).2;have b2:=(y6p l hl 2 dC0 kX kB_ false hx hb).2;have b3:=(y6p l hl 3 dC0 kX kB_ false hx hb).2;obtain⟨_,N2,T2⟩:=y97 l hl hx hb 2 dC0;have n2:=(z7i l hx hb 2).1;have t2:=(z7i l hx hb 2).2;rw[e2]at N2 T2 n2 t2;have hP:=ys6 (y0n l);have hQ:=sc_Parse (y0n l);unfold y0n good3 j0v y5m y5l at hP hQ⊢;dsimp only at hP hQ⊢;have p0:=yc5 l 2 hx hb false 0;have p1:=n2 (kBlk l 2 kX kB_ false 0).2;refine⟨z09 (by simp only[A4,szl,A1,A6];omega),[],b2 0 oM0,sR,Gc,rfl,z09 (by simp only[A4,szl,A1,A6];omega),z09 (by simp only[A4,szl,A1,A6];omega),[],N2 _ oM0,sR,Gc,rfl,z09 (by simp only[A4,szl,A1,A6];omega),z09 (by simp only[A4,szl,A1,A6];omega),?_⟩;generalize hr1:(kNT l kX kB_ 2).1 (kBlk l 2 kX kB_ false 0).2=r1 at p1 hP hQ⊢;generalize kBlk l 2 kX kB_ false 0=r0 at p0 p1 hP hQ⊢;clear hr1;have p2:=yc5 l 1 hx hb false r1.2;have p3:=t2 (kBlk l 1 kX kB_ false r1.2).2;refine⟨z09 (by simp only[A4,szl,A1,A6];omega),[],b1 r1.2 oM0,sR,Gc,rfl,z09 (by simp only[A4,szl,A1,A6];omega),z09 (by simp only[A4,szl,A1,A6];omega),[],T2 _ oM0,sR,Gc,rfl,z09 (by simp only[A4,szl,A1,A6];omega),z09 (by simp only[A4,szl,A1,A6];omega),?_⟩;generalize hr3:(kNT l kX kB_ 2).2 (kBlk l 1 kX kB_ false r1.2).2=r3 at p3 hP hQ⊢;generalize kBlk l 1 kX kB_ false r1.2=r2 at p2 p3 hP hQ⊢;clear hr3;have p4:=yc5 l 3 hx hb false r3.2;have p5:=n2 (kBlk l 3 kX kB_ false r3.2).2;refine⟨z09 (by simp only[A4,szl,A1,A6];omega),[],b3 r3.2 oM0,sR,Gc,rfl,z09 (by simp only[A4,szl,A1,A6];omega),z09 (by simp only[A4,szl,A1,A6];omega),[],N2 _ oM0,sR,Gc,rfl,z09 (by simp only[A4,szl,A1,A6];omega),z09 (by simp only[A4,szl,A1,A6];omega),?_⟩
 generalize(kNT l kX kB_ 2).1 (kBlk l 3 kX kB_ false r3.2).2=r5 at p5 hP hQ⊢;generalize kBlk l 3 kX kB_ false r3.2=r4 at p4 p5 hP hQ⊢;replace hQ:=hQ (by simp only[A4,szl,A1,A6];omega);refine⟨[],hQ,sR,Gb,rfl,z00 (λc=>?_) λc=>?_⟩
 ·have:=hP (by simpa using c);rw[this];exact⟨sP (z0c _),Gb⟩
 ·exact⟨sI,Gb⟩
end
end
def j0w:ByteArray:=y5l++⟨#[105,110,116,32,102,40,105,110,116,32,120,44,32,98,111,111,108,32,98,41,32,123,10]⟩
def j0x:Option (Nat×Nat×List Tk):=px j0w 20 1 0 []
theorem j0y:∃l a o,j0x=some (l,a,o)/\14<o.length/\pIs o sSo ⟨14,false,false⟩=false:=by
 have h:(j0x.map λq=>decide (14<q.2.2.length) && !pIs q.2.2 sSo ⟨14,false,false⟩)=some true:=by decide +kernel
 cases hp:j0x with
 |none=>rw[hp]at h;cases h
 |some q =>
  rw[hp]at h;simp only[D5,Co,A0,Bj,Bc]at h;exact⟨_,_,_,rfl,h.1,h.2⟩
theorem good_pre(l:List UInt8):∃R,y0n l=j0w++R:=by
 unfold y0n;obtain⟨R1,h1⟩:∃R,(y5m l y5l 0).1=j0w++R:=⟨_,by unfold y5m j0w;simp only[ByteArray.append_assoc];rfl⟩;obtain⟨R2,h2⟩:∃R,(j0v l (y5m l y5l 0).1 (y5m l y5l 0).2).1=j0w++R:=⟨_,by rw[h1];unfold j0v;simp only[ByteArray.append_assoc];rfl⟩;exact⟨_,by rw[h2];unfold good3;simp only[ByteArray.append_assoc];rfl⟩
theorem good_arr(l:List UInt8):(z2b (y0n l)).1.arrays.length<=2:=by
 refine ys5 _ 2 ?_;obtain⟨R,e⟩:=good_pre l;rw[e];obtain⟨l2,a2,o2,h1,h2,h3⟩:=j0y;exact px_is h1 (by decide +kernel) h2 h3
theorem y1y(l:List UInt8)(ins:List Int)(n:Int)(hn:0<=n/\n<=255):SC Tryz.prog 3 [.pv (bts l),.pv (ints ins),.pv (.val (.int .u8 n))] [] (λk=>k∈[]) (iBool true) []:=by
 refine SC.vc tb { gh:=[(0,[.len 0])] } [] Tryz.func3 rfl rfl ?_;intro hl;simp only[Ac]at hl;have hl:l.length<=9223372036854775807:=hl;have hT:=riU_w (y0n l);have hA:=B9 (riU_ar (y0n l)) (good_arr l);have hF:=sc_Good l hl;have hR:=sc_Rise (y0n l);generalize riU (y0n l)=q at hT hA hR;obtain⟨u,e⟩:=q;dsimp only at hT hA hR;have hC:=zf0 u hT.1;have hH:=yf4 u hT.1 y31;have hg:=λhz=>@z66 wB u hz;have hx:=@y3j u;have hrel:=@want_rel u;have hri:=@yz7 u;have hB:=λ(hz:(z17 u).1=0)=>yf5 (hrel hz) hA hT.1 (y2z u hT.1) hz (by rw[hx hz]) hT.2 (ins.take 10) (2*n) ⟨by omega,by omega⟩;have hRt:=yp4 (z3s wB u) (y2z u hT.1);refine⟨[],sc_awake,sR,Gb,rfl,[],hF,sR,Gb,rfl,[],hR,sR,Gb,rfl,[],hC,sR,Gb,rfl,z00 (λh1=>?_) λh1=>z00 (λh2=>?_) λh2=>?_⟩
 ·exact⟨sI,Gb⟩
 ·exact⟨sI,Gb⟩
 ·have hz:(z17 u).1=0:=by simpa using h2
  rw[hg hz]at hH;rw[hri hz]at hRt;exact⟨[],hH,sR,Gb,rfl,[],hRt,sR,Gb,rfl,[],sc_ins ins,sR,Gb,rfl,i64_two hn,[],hB hz,sR,Gb,rfl,sI,Gb⟩
end Go.Proofs.YtdhllinkobindaaGreatDoor
