/- PART 6 of 8 of a proof: see the last part. -/
import Derived.Test.YtcnjamphfjnflaaGreatDoorHx5
set_option maxRecDepth 20000
set_option maxHeartbeats 8000000
set_option linter.unusedSimpArgs false
set_option linter.unusedVariables false
set_option linter.unusedSectionVars false
namespace Go.Proofs.YtcnjamphfjnflaaGreatDoor
open Go
theorem yy4 {α:Type} (p:α -> Bool):∀ (l:List α) (j:Int),0<=j->0<=idxP p l j->∃ (i:Nat) (x:α),idxP p l j=j+i/\l[i]? = some x/\p x=true
 | [],_,_,h=>absurd h (by simp [idxP])
 | x::r,j,hj,h=>by
  rw [idxP] at h ⊢
  by_cases hx:p x=true
  ·exact ⟨0,x,by rw [if_pos hx];simp,rfl,hx⟩
  ·rw [if_neg hx] at h ⊢
   obtain ⟨i,y,h1,h2,h3⟩:=yy4 p r (j+1) oM0 h
   exact ⟨i+1,y,by rw [h1];simp;omega,by simpa using h2,h3⟩
theorem zv9 {p:Pg} {name:ByteArray} (h:0<=z3g p name):∃ i:Nat,z3g p name=i/\p.funcs[i]? = some (fuAt p (z3g p name)):=by
 obtain ⟨i,x,h1,h2,_⟩:=yy4 _ p.funcs 0 dC0 h
 refine ⟨i,by unfold z3g;omega,?_⟩
 unfold fuAt z3g
 rw [h1]
 simp [h2]
theorem ys6 (p:Pg) (s:Sc) (k o n:Int) (nm:ByteArray) (args:List Ex) (hf:p.funcs.length<=1073741824) (ha:p.arrays.length<=1073741824) :
 SC Tryz.prog 187 [.pv p.enc,.pv (scV s),.pv (.agg [vInt k,vInt o,vInt n,vStr nm,exs args])] [] (λk=>k∈[]) (iInt (z7z p s k nm args.length)) []:=by
 refine SC.vc tb { pb:=[103,105] } [] Tryz.func187 rfl rfl ?_
 have hF:=y1f nm s
 have hP:=zd5 p nm hf
 have hA:=y3q p nm ha
 have hg:=@zv9 p nm
 unfold z7z
 generalize z9p nm s=q at hF
 refine z00 (λc=>?_) λc=>z00 (λc2=>?_) λc2=>z00 (λc3=>?_) λc3=>?_
 ·rw [if_pos (eq_of_beq c)]
  cases q with
  | nil=>exact ⟨[],hF,sR,Gc,rfl,[],z5n false 50,sR,Gc,rfl,sI,Gc⟩
  | cons a r=>exact ⟨[],hF,sR,Gc,rfl,[],z5n true 50,sR,Gc,rfl,sI,Gc⟩
 ·rw [if_neg (Aa.1 c),if_pos (eq_of_beq c2)]
  exact ⟨[],hA,sR,Gc,rfl,[],z5n _ 50,sR,Gc,rfl,sI,Gc⟩
 ·rw [if_neg (Aa.1 c),if_neg (Aa.1 c2),if_pos (eq_of_beq c3)]
  refine ⟨[],hP,sR,Gc,rfl,z00 (λc4=>?_) λc4=>?_⟩
  ·rw [if_pos (Ao c4)]
   exact ⟨sI,Gc⟩
  ·have c4:=Am c4
   rw [if_neg c4]
   obtain ⟨i,h1,h2⟩:=hg oM0
   exact ⟨z9g h2,h1,[],z5n _ 51,sR,Gc,rfl,sE (A7 iInt (A7 (λb=>zv3 b 51) (by rw [D7];simp;omega))),Gc⟩
 ·rw [if_neg (Aa.1 c),if_neg (Aa.1 c2),if_neg (Aa.1 c3)]
  exact ⟨sI,Gc⟩
theorem z3j {l:List Int} {i:Nat} (h:i<l.length):l[i]? = some (l.getD i 0):=by
 rw [Ay,A9 h];rfl
theorem j25 (p:Pg) (s:Sc) (k o n:Int) (nm:ByteArray) (args:List Ex) (l:List Int) (hl:l.length<=1073741824) (hf:p.funcs.length<=1073741824) (h3:k=3->z9p nm s≠[]) (h7:k=7->0<=z3g p nm) (h1:k=4∨k=6->1<=l.length) (h5:k=5->2<=l.length) :
 SC Tryz.prog 189 [.pv p.enc,.pv (scV s),.pv (.agg [vInt k,vInt o,vInt n,vStr nm,exs args]),.pv (ints l)] [] (λk=>k∈[]) (.tup [iInt (yu6 p s k o nm l).1,iBool (yu6 p s k o nm l).2]) []:=by
 refine SC.vc tb { pb:=[104,106,112] } [] Tryz.func189 rfl rfl ?_
 have hF:=y1f nm s
 unfold yu6
 refine z00 (λc=>?_) λc=>z00 (λc2=>?_) λc2=>z00 (λc3=>?_) λc3=>z00 (λc4=>?_) λc4=>z00 (λc5=>?_) λc5=>z00 (λc6=>?_) λc6=>?_
 all_goals try replace c:=Aa.1 c
 all_goals try replace c2:=Aa.1 c2
 all_goals try replace c3:=Aa.1 c3
 all_goals try replace c4:=Aa.1 c4
 all_goals try replace c5:=Aa.1 c5
 all_goals try replace c6:=Aa.1 c6
 ·rw [if_pos (eq_of_beq c)]
  exact ⟨sI,Gc⟩
 ·rw [if_neg c,if_pos (eq_of_beq c2)]
  have:=h3 (eq_of_beq c2)
  generalize z9p nm s=q at hF this
  cases q with
  | nil=>exact absurd rfl this
  | cons a r=>exact ⟨[],hF,sR,Gc,rfl,sI,Gc⟩
 ·rw [if_neg c,if_neg c2,if_pos (eq_of_beq c3)]
  exact ⟨z02 (f:=eInt) (z3j (i:=0) (h1 (.inr (eq_of_beq c3)))),rfl,sI,Gc⟩
 ·rw [if_neg c,if_neg c2,if_neg c3,if_pos (eq_of_beq c4)]
  exact ⟨z02 (f:=eInt) (z3j (i:=0) (h1 (.inl (eq_of_beq c4)))),rfl,[],y3r _ _,sR,Gc,rfl,sI,Gc⟩
 ·rw [if_neg c,if_neg c2,if_neg c3,if_neg c4,if_pos (eq_of_beq c5)]
  have h:=h5 (eq_of_beq c5)
  have hT:=y3r o (l.getD 0 0)
  generalize zu7 o (l.getD 0 0)=t at hT
  obtain ⟨t1,t2⟩:=t
  refine ⟨z02 (f:=eInt) (z3j (i:=0) oM0),rfl,[],hT,sR,Gc,rfl,?_⟩
  cases t2 with
  | true=>exact ⟨z02 (f:=eInt) (z3j (i:=0) oM0),rfl,z02 (f:=eInt) (z3j (i:=1) oM0),rfl,sI,Gc⟩
  | false=>exact ⟨sI,Gc⟩
 ·rw [if_neg c,if_neg c2,if_neg c3,if_neg c4,if_neg c5,if_pos (eq_of_beq c6)]
  obtain ⟨i,g1,g2⟩:=zv9 (h7 (eq_of_beq c6))
  exact ⟨[],zd5 p nm hf,sR,Gc,rfl,z9g g2,g1,[],sc_tyEq l _ hl,SubA.same (SubA.same sFn),Gc,rfl,sI,Gc⟩
 ·rw [if_neg c,if_neg c2,if_neg c3,if_neg c4,if_neg c5,if_neg c6]
  exact ⟨sI,Gc⟩
theorem yf4 {p:Pg} {s:Sc} {nm:ByteArray} {len:Nat} (h:z7z p s 3 nm len=0):z9p nm s≠[]:=λe=>by
 unfold z7z at h
 rw [if_pos rfl,e] at h
 exact absurd h dC0
theorem y8s {p:Pg} {s:Sc} {nm:ByteArray} {len:Nat} (h:z7z p s 7 nm len=0):0<=z3g p nm/\(fuAt p (z3g p nm)).params.length=len:=by
 unfold z7z at h
 rw [if_neg dC0,if_neg dC0,if_pos rfl] at h
 split at h
 ·exact absurd h dC0
 ·rename_i g
  refine ⟨by omega,?_⟩
  unfold zv3 at h
  split at h
  ·rename_i g2;exact eq_of_beq g2
  ·exact absurd h dC0
theorem y8p (p:Pg) (s:Sc):∀ l,(z6o p s l).2=0->(z6o p s l).1.length=l.length
 | [],_=>rfl
 | e::r,h=>by
  rw [z6o] at h ⊢
  split at h
  ·rename_i g
   rw [if_pos g]
   split at h
   ·rename_i g2
    rw [if_pos g2]
    simp [y8p p s r g2]
   ·rename_i g2;exact absurd h g2
  ·rename_i g;exact absurd h g
theorem y3y {p:Pg} {s:Sc}:∀ {l:List Ex} {i:Nat} {e:Ex},(∀ x∈l.take i,(z50 p s x).2=0)->l.drop i=e::l.drop (i+1)->(z50 p s e).2≠0->z6o p s l=([],(z50 p s e).2)
 | [],i,e,_,h,_=>by simp at h
 | x::r,0,e,_,h,he=>by
  simp only [List.drop_zero,List.cons.injEq] at h
  rw [z6o,h.1,if_neg he]
 | x::r,i+1,e,hq,h,he=>by
  have:=y3y (l:=r) (i:=i) (λy hy=>hq y (by simp [hy])) (by simpa using h) he
  rw [z6o,if_pos (hq x sI0),this,if_neg he]
theorem y8o {p:Pg} {s:Sc}:∀ {l:List Ex},(∀ x∈l,(z50 p s x).2=0)->z6o p s l=(l.map λx=>(z50 p s x).1,0)
 | [],_=>rfl
 | x::r,hq=>by
  have:=y8o (l:=r) (λy hy=>hq y (by simp [hy]))
  rw [z6o,if_pos (hq x sI0),this];rfl
def fYE (p:Pg) (s:Sc) (e:Ex):Prop:=SC Tryz.prog 152 [.pv p.enc,.pv (scV s),.pv (exv e)] [] (λk=>k∈[]) (.tup [iInt (z50 p s e).1,iInt (z50 p s e).2]) []
theorem j24 (p:Pg) (s:Sc) (k o n:Int) (nm:ByteArray) (args:List Ex) (hl:args.length<=1073741824) (ih:∀ x∈args,fYE p s x) :
 SC Tryz.prog 188 [.pv p.enc,.pv (scV s),.pv (.agg [vInt k,vInt o,vInt n,vStr nm,exs args])] [] (λk=>k∈[]) (.tup [.pv (ints (z6o p s args).1),iInt (z6o p s args).2]) []:=by
 refine SC.vc tb { pb:=[103,105,109],gh:=[(1,[.grow 6 1001 3 1]),(9,[.fz 6 1001])] } [] Tryz.func188 rfl rfl ?_
 refine ⟨Nat,λi=>[(15,iInt ((i:Nat):Int)),(6,.sl 1001 (((args.take i).map λx=>(z50 p s x).1).map eInt).length)],λi=>[(1001,.row ⟨3,1⟩ (((args.take i).map λx=>(z50 p s x).1).map eInt))],λi=>args.length - i,λi=>i<=args.length/\∀ x∈args.take i,(z50 p s x).2=0,[],0,⟨A8 _,λx hx=>by simp at hx⟩,Ge,Gd,?_⟩
 rintro i ⟨i1,i2⟩
 refine z00 (λhc=>?_) λhc=>?_
 ·have hlt:i<args.length:=z0x (f:=Ex.enc) rfl hc
  obtain ⟨x,x1,x2,x3,x4⟩:=z0m hlt
  refine ⟨z19 x1,rfl,[],ih x x4,sR,Gc,rfl,z00 (λc=>?_) λc=>?_⟩
  ·have c:(z50 p s x).2≠0:=by simpa using c
   rw [y3y i2 x3 c]
   exact ⟨sT2 sN,Gc⟩
  ·have c:(z50 p s x).2=0:=by simpa using c
   exact ⟨rfl,z3x rfl,by simp;omega,z01 rfl oM0,i+1,z04 hlt,⟨hlt,λy hy=>by rw [x2] at hy;rcases Au.1 hy with g | g;exact i2 y g;rw [Ai.1 g];exact c⟩,⟨rfl,slq (by simp;omega),Gc⟩,⟨rwq (by rw [x2];simp [eInt]),Gc⟩,rfl,rfl,rfl,rfl⟩
 ·have hge:args.length<=i:=z0y (f:=Ex.enc) rfl hc
  rw [Al hge] at i2 ⊢
  rw [y8o i2]
  exact ⟨rfl,sI,Gc⟩
def szP (p:Pg):Prop:=p.funcs.length<=1073741824/\p.arrays.length<=1073741824
theorem y81 (p:Pg) (hp:szP p) (s:Sc):∀ (N:Nat) (e:Ex),SizeOf.sizeOf e<N->xz e<=1073741824->∀ most,rx e most=true->fYE p s e
 | 0,_,h,_,_,_=>absurd h (Ae _)
 | N+1,.mk k o n nm args,hN,hx,most,hr=>by
  have hl:=za0 args
  simp only [xz] at hx
  rw [rx,A0] at hr
  have hA:=j24 p s k o n nm args oM0 (λx hm=>y81 p hp s N x (by have:=Bl hm;simp at hN;omega) (by have:=zf3 hm;omega) (most - 1) (y56 hr.1 hm).2)
  have hlen:=y8p p s args
  refine SC.vc tb { pb:=[103,105] } [] Tryz.func152 rfl rfl ?_
  unfold z50
  refine ⟨[],ys6 p s k o n nm args hp.1 hp.2,sR,Gc,rfl,z00 (λc=>?_) λc=>?_⟩
  ·have c:¬ z7z p s k nm args.length=0:=by simpa using c
   rw [if_neg c]
   exact ⟨sI,Gc⟩
  ·have c:z7z p s k nm args.length=0:=by simpa using c
   rw [if_pos c]
   generalize z6o p s args=A at hA hlen
   obtain ⟨a1,a2⟩:=A
   dsimp only at hlen ⊢
   refine ⟨[],hA,sR,Gc,rfl,z00 (λc2=>?_) λc2=>?_⟩
   ·have c2:¬ a2=0:=by simpa using c2
    rw [if_neg c2]
    exact ⟨sI,Gc⟩
   ·have c2:a2=0:=by simpa using c2
    rw [if_pos c2]
    have h:=hlen c2
    have hcs:=y36 hr.2
    have hM:=j25 p s k o n nm args a1 oM0 hp.1 (λe=>by subst e;exact yf4 c) (λe=>by subst e;exact (y8s c).1) (λe=>by omega) (λe=>by omega)
    generalize yu6 p s k o nm a1=M at hM
    obtain ⟨m1,m2⟩:=M
    refine ⟨[],hM,sR,Gc,rfl,z00 (λc3=>?_) λc3=>?_⟩
    ·have c3:m2=false:=by simpa using c3
     subst c3
     exact ⟨sI,Gc⟩
    ·have c3:m2=true:=by simpa using c3
     subst c3
     exact ⟨sI,Gc⟩
def fnO (p:Pg) (res:Int) (n:Nat):List (Nat × HO):=[(1,.box [.pv (arrs p.arrays),.pv (fus p.funcs),iInt res,iInt (n:Nat)])]
def fYW (p:Pg) (s:Sc) (e:Ex):Prop:=∀ (res:Int) (n:Nat) (t:Int),SC Tryz.prog 151 [.ptr 1 0,.pv (scV s),.pv (exv e),.pv (.val (.int .i64 t))] (fnO p res n) (λk=>k∈[]) (iInt (zc1 p s e t)) (fnO p res n)
theorem j27 (p:Pg) (s:Sc) (e:Ex) (h:fYE p s e):fYW p s e:=by
 intro res n t
 refine SC.vc tb { pb:=[106] } [] Tryz.func151 rfl rfl ?_
 unfold zc1
 unfold fYE at h
 generalize z50 p s e=E at h
 obtain ⟨e1,e2⟩:=E
 refine ⟨[],h,sR,Gc,rfl,z00 (λc=>?_) λc=>?_⟩
 ·have c:¬ e2=0:=by simpa using c
  rw [if_neg c]
  exact ⟨sI,rfl,Gc⟩
 ·have c:e2=0:=by simpa using c
  rw [if_pos c]
  exact ⟨[],z5n _ 51,sR,Gc,rfl,sI,rfl,Gc⟩
theorem ys3 (p:Pg) (hp:szP p) (s:Sc) (k ty:Int) (nm:ByteArray) (args:List Ex) (thn els:List St) (depth:Int) (hk:(k=1/\∃ e,args=[e])∨(k=2/\∃ e,args=[e])∨(k=3/\∃ e e2,args=[e,e2])) (hw:∀ e∈args,fYW p s e) (res:Int) (n:Nat) :
 SC Tryz.prog 154 [.ptr 1 0,.pv (.agg [vInt k,vInt ty,vStr nm,exs args,sts thn,sts els]),.pv (scV s),.pv (.val (.int .i64 depth))] (fnO p res n) (λk=>k∈[]) (iInt (y8q p s k ty nm args depth)) (fnO p res n):=by
 refine SC.vc tb { pb:=[105] } [] Tryz.func154 rfl rfl ?_
 have hF:=y1f nm s
 unfold y8q
 generalize z9p nm s=q at hF
 rcases hk with ⟨rfl,e,rfl⟩ | ⟨rfl,e,rfl⟩ | ⟨rfl,e,e2,rfl⟩
 ·rw [if_pos rfl]
  have W:=hw e sI0 res n ty
  have hg:([e].getD 0 ex0)=e:=rfl
  rw [hg]
  refine ⟨[],hF,sR,Gc,rfl,z19 (i:=0) rfl,rfl,[],W,sR,Gd,rfl,z00 (λc=>?_) λc=>?_⟩
  ·have c:¬ zc1 p s e ty=0:=by simpa using c
   rw [if_neg c]
   exact ⟨sI,rfl,Gc⟩
  ·have c:zc1 p s e ty=0:=by simpa using c
   rw [if_pos c]
   cases q with
   | nil=>exact ⟨[],z5n true 50,sR,Gc,rfl,sI,rfl,Gc⟩
   | cons a r=>exact ⟨[],z5n _ 50,sR,Gc,rfl,sI,rfl,Gc⟩
 ·rw [if_neg dC0,if_pos rfl]
  cases q with
  | nil=>exact ⟨[],hF,sR,Gc,rfl,sI,rfl,Gc⟩
  | cons a r =>
   obtain ⟨a1,a2,a3⟩:=a
   have W:=hw e sI0 res n a2
   exact ⟨[],hF,sR,Gc,rfl,z19 (i:=0) rfl,rfl,[],W,sR,Gd,rfl,sI,rfl,Gc⟩
 ·rw [if_neg dC0,if_neg dC0]
  have W:=hw e sI0 res n 1
  have W2:=hw e2 sI0 res n 1
  have hg:([e,e2].getD 0 ex0)=e:=rfl
  have hg2:([e,e2].getD 1 ex0)=e2:=rfl
  rw [hg,hg2]
  refine ⟨[],hF,sR,Gc,rfl,[],y3q p nm hp.2,sR,Gc,rfl,z00 (λc=>?_) λc=>?_⟩
  ·rw [if_pos (Ao c)]
   exact ⟨sI,rfl,Gc⟩
  ·rw [if_neg (Am c)]
   refine ⟨z19 (i:=0) rfl,rfl,[],W,sR,Gd,rfl,z00 (λc2=>?_) λc2=>?_⟩
   ·have c2:¬ zc1 p s e 1=0:=by simpa using c2
    rw [if_neg c2]
    exact ⟨sI,rfl,Gc⟩
   ·have c2:zc1 p s e 1=0:=by simpa using c2
    rw [if_pos c2]
    exact ⟨z19 (i:=1) rfl,rfl,[],W2,sR,Gd,rfl,sI,rfl,Gc⟩
theorem j26 (p:Pg) (hp:szP p) (s:Sc) (x:St) (depth:Int) (loop:Bool) (most:Int) (hr:rst x most=true) (hw:∀ e∈x.args,fYE p s e) (res:Int) (n:Nat) :
 SC Tryz.prog 103 [.ptr 1 0,.pv (stv x),.pv (scV s),.pv (.val (.int .i64 depth)),iBool loop] (fnO p res n) (λk=>k∈[]) (iInt (zv4 p res s x.kind x.ty x.name x.args depth loop)) (fnO p res n):=by
 refine SC.vc tb { pb:=[106] } [] Tryz.func103 rfl rfl ?_
 rw [y3c] at hr
 simp only [A0,Bg] at hr
 obtain ⟨h1,hc⟩:=zk9 hr.1.1.1.1 hr.1.1.2
 have hW:∀ e∈x.args,fYW p s e:=λe he=>j27 p s e (hw e he)
 clear hr
 obtain ⟨k,ty,nm,args,thn,els⟩:=x
 simp only [St.kind,St.ty,St.name,St.args,St.thn,St.els] at *
 have hB:=λhk=>ys3 p hp s k ty nm args thn els depth hk hW res n
 unfold zv4
 rcases hc with ⟨rfl,t,nn,⟨e,rfl⟩,rfl,rfl⟩ | ⟨rfl,rfl,nn,⟨e,rfl⟩,rfl,rfl⟩ | ⟨rfl,rfl,nn,⟨e,e2,rfl⟩,rfl,rfl⟩ | ⟨rfl,rfl,nn,⟨e,rfl⟩⟩ | ⟨rfl,rfl,nn,⟨e,rfl⟩,rfl⟩ | ⟨rfl,rfl,nn,rfl,rfl,rfl⟩ | ⟨rfl,rfl,nn,rfl,rfl,rfl⟩ | ⟨rfl,rfl,nn,⟨e,rfl⟩,rfl,rfl⟩ | ⟨rfl,rfl,nn,⟨e,rfl⟩,rfl,rfl⟩ | ⟨rfl,rfl,nn,⟨e,rfl,e7⟩,rfl,rfl⟩
 ·exact ⟨[],hB (.inl ⟨rfl,e,rfl⟩),sR,Gd,rfl,sI,rfl,Gc⟩
 ·exact ⟨[],hB (.inr (.inl ⟨rfl,e,rfl⟩)),sR,Gd,rfl,sI,rfl,Gc⟩
 ·exact ⟨[],hB (.inr (.inr ⟨rfl,e,e2,rfl⟩)),sR,Gd,rfl,sI,rfl,Gc⟩
 ·exact ⟨z19 (i:=0) rfl,rfl,[],hW e sI0 res n 2,sR,Gd,rfl,sI,rfl,Gc⟩
 ·exact ⟨z19 (i:=0) rfl,rfl,[],hW e sI0 res n 2,sR,Gd,rfl,sI,rfl,Gc⟩
 ·exact ⟨[],z5n loop 53,sR,Gc,rfl,sI,rfl,Gc⟩
 ·exact ⟨[],z5n loop 53,sR,Gc,rfl,sI,rfl,Gc⟩
 ·exact ⟨z19 (i:=0) rfl,rfl,[],hW e sI0 res n res,sR,Gd,rfl,sI,rfl,Gc⟩
 ·exact ⟨z19 (i:=0) rfl,rfl,[],hW e sI0 res n 1,sR,Gd,rfl,sI,rfl,Gc⟩
 ·have hE:=hw e sI0
  exact ⟨z19 (i:=0) rfl,rfl,[],hE,sR,Gc,rfl,sI,rfl,Gc⟩
theorem j3t (p:Pg) (res:Int) (x:St) (s:Sc) (depth:Int) (loop:Bool) (n:Nat):yOne p res x s depth loop n=if zv4 p res s x.kind x.ty x.name x.args depth loop=0 then
 if (z2a p res x.thn (z6c s x.kind x.ty x.name depth) (depth+1) (loop||x.kind==5) (n+1)).1=0 then
  z2a p res x.els (z6c s x.kind x.ty x.name depth) (depth+1) loop (z2a p res x.thn (z6c s x.kind x.ty x.name depth) (depth+1) (loop||x.kind==5) (n+1)).2
 else z2a p res x.thn (z6c s x.kind x.ty x.name depth) (depth+1) (loop||x.kind==5) (n+1)
 else (zv4 p res s x.kind x.ty x.name x.args depth loop,n):=by
 cases x;rw [yOne];rfl
theorem zm9 (p:Pg) (res:Int):∀ (N:Nat) (l:List St),SizeOf.sizeOf l<N->∀ (s:Sc) (depth:Int) (loop:Bool) (n:Nat),(z2a p res l s depth loop n).2<=n+szL l
 | 0,_,h,_,_,_,_=>absurd h (Ae _)
 | N+1,[],_,s,depth,loop,n=>by rw [z2a];simp [szL]
 | N+1,x::r,hN,s,depth,loop,n=>by
  have hx:=zr0 x
  simp at hN
  have h1:(yOne p res x s depth loop n).2<=n+sz x:=by
   rw [j3t,y29]
   have a1:=zm9 p res N x.thn oM0 (z6c s x.kind x.ty x.name depth) (depth+1) (loop||x.kind==5) (n+1)
   have a2:=λm=>zm9 p res N x.els oM0 (z6c s x.kind x.ty x.name depth) (depth+1) loop m
   split
   ·split
    ·have:=a2 (z2a p res x.thn (z6c s x.kind x.ty x.name depth) (depth+1) (loop||x.kind==5) (n+1)).2;omega
    ·omega
   ·dsimp only;omega
  have h2:=zm9 p res N r oM0 (z6c s x.kind x.ty x.name depth) depth loop (yOne p res x s depth loop n).2
  rw [z2a,szL]
  split
  ·omega
  ·omega
theorem zq7 (p:Pg) (hp:szP p) (res:Int):∀ (N:Nat) (l:List St),SizeOf.sizeOf l<N->szL l<=1073741824->∀ most,rsL l most=true->∀ (s:Sc) (depth:Int) (loop:Bool) (n:Nat),0<=depth->depth+most<=1073741824->0<=most->n+szL l<=1073741824 ->
 SC Tryz.prog 59 [.ptr 1 0,.pv (sts l),.pv (scV s),.pv (.val (.int .i64 depth)),iBool loop] (fnO p res n) (λk=>k∈[]) (iInt (z2a p res l s depth loop n).1) (fnO p res (z2a p res l s depth loop n).2)
 | 0,_,h,_,_,_,_,_,_,_,_,_,_,_=>absurd h (Ae _)
 | N+1,l,hN,hx,most,hr,s,depth,loop,n,hd,hd2,hm0,hn=>by
  generalize hR:z2a p res l s depth loop n=R
  refine SC.vc tb { pb:=[112],jn:=[10] } [] Tryz.func59 rfl rfl ?_
  have hll:=z87 l
  refine ⟨Nat × Sc × Nat,λa=>[(18,iInt ((a.1:Nat):Int)),(2,.pv (scV a.2.1))],λa=>fnO p res a.2.2,λa=>l.length - a.1,λa=>a.1<=l.length/\R=z2a p res (l.drop a.1) a.2.1 depth loop a.2.2/\a.2.2+szL (l.drop a.1)<=1073741824,[],(0,s,n),⟨A8 _,hR.symm,hn⟩,Ge,Gd,?_⟩
  rintro ⟨i,q,m⟩ ⟨i1,i2,i3⟩
  dsimp only at i1 i2 i3
  refine z00 (λhc=>?_) λhc=>?_
  ·have hlt:i<l.length:=z0x (f:=St.enc) rfl hc
   obtain ⟨x,x1,x2,x3,x4⟩:=z0m hlt
   rw [x3,z2a,j3t] at i2
   rw [x3,szL] at i3
   have hxr:=y11 hr x4
   have hxr2:=hxr
   rw [y3c] at hxr2
   simp only [A0,Bg] at hxr2
   have hmost:=(zk9 hxr2.1.1.1.1 hxr2.1.1.2).1
   have hsz:=zu6 x4
   have hsz2:=y29 x
   have hso:=zr0 x
   have hmem:=Bl x4
   have hE:∀ e∈x.args,fYE p q e:=λe he=>y81 p hp q _ e (A5 _) (by have:=zf3 he;omega) 100 (Bc.1 hxr2.1.1.1.2 e he)
   have hS:=j26 p hp q x depth loop most hxr hE res m
   refine ⟨zi1 x1,rfl,?_⟩
   generalize zv4 p res q x.kind x.ty x.name x.args depth loop=e0 at hS i2
   refine ⟨[],hS,sR,Gd,rfl,z00 (λc=>?_) λc=>?_⟩
   ·have c:¬ e0=0:=by simpa using c
    rw [if_neg c,if_neg c] at i2
    subst i2
    exact ⟨sI,rfl,Gc⟩
   ·have c:e0=0:=by simpa using c
    rw [if_pos c] at i2
    refine ⟨z01 (z:=((m+1:Nat):Int)) oM0 oM0,Unit,λ_=>[(2,.pv (scV (z6c q x.kind x.ty x.name depth)))],λ_=>[],λ_=>True,[],?_,?_⟩
    ·refine z00 (λk1=>?_) λk1=>?_
     ·exact ⟨[],y82 q x.name x.ty depth,sR,Gc,rfl,(),Gc,⟨by unfold z6c;rw [if_pos (eq_of_beq k1)];rfl,Gc⟩,Gc,rfl,rfl,rfl,rfl⟩
     ·exact ⟨(),Gc,⟨by unfold z6c;rw [if_neg (Aa.1 k1)];rfl,Gc⟩,Gc,rfl,rfl,rfl,rfl⟩
    ·rintro _ _
     generalize z6c q x.kind x.ty x.name depth=q2 at i2
     have b1:=zq7 p hp res N x.thn oM0 oM0 (most - 1) hxr2.1.2 q2 (depth+1) (loop||x.kind==5) (m+1) oM0 oM0 oM0 oM0
     have n1:=zm9 p res _ x.thn (A5 _) q2 (depth+1) (loop||x.kind==5) (m+1)
     generalize z2a p res x.thn q2 (depth+1) (loop||x.kind==5) (m+1)=B1 at b1 n1 i2
     obtain ⟨e1,m1⟩:=B1
     dsimp only at b1 n1 i2
     have b2:=zq7 p hp res N x.els oM0 oM0 (most - 1) hxr2.2 q2 (depth+1) loop m1 oM0 oM0 oM0 oM0
     have n2:=zm9 p res _ x.els (A5 _) q2 (depth+1) loop m1
     generalize z2a p res x.els q2 (depth+1) loop m1=B2 at b2 n2 i2
     obtain ⟨e2,m2⟩:=B2
     dsimp only at b2 n2 i2
     have hdp:z3d .add .i64 depth 1=some (.int .i64 (depth+1)):=z01 rfl oM0
     clear hS hE hR
     refine ⟨hdp,z00 (λk5=>?_) λk5=>?_⟩
     all_goals
      subst k5
      refine ⟨[],b1,sR,Gd,rfl,z00 (λc1=>?_) λc1=>?_⟩
      ·have c1:¬ e1=0:=by simpa using c1
       rw [if_neg c1,if_neg c1] at i2
       subst i2
       exact ⟨sI,rfl,Gc⟩
      ·have c1:e1=0:=by simpa using c1
       rw [if_pos c1] at i2
       refine ⟨hdp,[],b2,sR,Gd,rfl,z00 (λc2=>?_) λc2=>?_⟩
       ·have c2:¬ e2=0:=by simpa using c2
        rw [if_neg c2] at i2
        subst i2
        exact ⟨sI,rfl,Gc⟩
       ·have c2:e2=0:=by simpa using c2
        rw [if_pos c2] at i2
        exact ⟨z01 rfl oM0,(i+1,q2,m2),z04 hlt,⟨hlt,i2,by dsimp only;omega⟩,Ge,Gd,rfl,rfl,rfl,rfl⟩
  ·have hge:l.length<=i:=z0y (f:=St.enc) rfl hc
   rw [A6 hge,z2a] at i2
   subst i2
   exact ⟨sI,rfl,Gc⟩
theorem yz6:∀ l:List St,lvs l=l.any lvS
 | []=>by rw [lvs];rfl
 | x::r=>by rw [lvs,yz6 r];rfl
theorem yw6:∀ l:List St,ens l=l.any enS
 | []=>by rw [ens];rfl
 | x::r=>by rw [ens,yw6 r];rfl
theorem lvS_eq (x:St):lvS x=(x.kind==6||(x.kind==4&&(lvs x.thn||lvs x.els))):=by cases x;rw [lvS];rfl
theorem enS_eq (x:St):enS x=if x.kind=8 then true else if x.kind=4 then ens x.thn&&ens x.els else if x.kind=5 then ((x.args.getD 0 ex0).kind==2&&((x.args.getD 0 ex0).n==1 && !lvs x.thn)) else false:=by cases x;rw [enS];rfl
theorem zh6:∀ (N:Nat) (l:List St),SizeOf.sizeOf l<N->l.length<=1073741824->szL l<=1073741824->SC Tryz.prog 106 [.pv (sts l)] [] (λk=>k∈[]) (iBool (lvs l)) []
 | 0,_,h,_,_=>absurd h (Ae _)
 | N+1,l,hN,hl,hz=>by
  have hc:=y5d 155 [] rfl lvS l oM0 (λx hm=>by
   have hsz:SizeOf.sizeOf x.thn<N/\SizeOf.sizeOf x.els<N:=by have:=Bl hm;have:=zr0 x;omega
   have h1:=zu6 hm
   have h2:=y29 x
   have h3:=z87 x.thn
   have h4:=z87 x.els
   have a1:=zh6 N x.thn hsz.1 oM0 oM0
   have a2:=zh6 N x.els hsz.2 oM0 oM0
   rw [lvS_eq]
   refine SC.vc tb { pb:=[101] } [] Tryz.func155 rfl rfl ?_
   refine z00 (λc=>?_) λc=>z00 (λc2=>?_) λc2=>?_
   ·have c:(x.kind==6)=true:=c
    exact ⟨sE (by rw [c];rfl),Gc⟩
   ·have c:(x.kind==6)=false:=c
    have c2:(x.kind==4)=true:=c2
    rw [c,c2]
    generalize lvs x.thn=q1 at a1
    refine ⟨[],a1,sR,Gc,rfl,?_⟩
    cases q1 with
    | true=>exact ⟨sI,Gc⟩
    | false=>exact ⟨[],a2,sR,Gc,rfl,sI,Gc⟩
   ·have c:(x.kind==6)=false:=c
    have c2:(x.kind==4)=false:=c2
    exact ⟨sE (by rw [c,c2];rfl),Gc⟩)
  rw [<- yz6] at hc
  refine SC.vc tb {} [] Tryz.func106 rfl rfl ?_
  exact ⟨[],hc,SubA.same sFn,Gc,rfl,sI,Gc⟩
theorem y1e:∀ (N:Nat) (l:List St),SizeOf.sizeOf l<N->szL l<=1073741824->∀ most,rsL l most=true->SC Tryz.prog 61 [.pv (sts l)] [] (λk=>k∈[]) (iBool (ens l)) []
 | 0,_,h,_,_,_=>absurd h (Ae _)
 | N+1,l,hN,hz,most,hr=>by
  have hl:=z87 l
  have hc:=y5d 105 [] rfl enS l oM0 (λx hm=>by
   have hsz:SizeOf.sizeOf x.thn<N/\SizeOf.sizeOf x.els<N:=by have:=Bl hm;have:=zr0 x;omega
   have h1:=zu6 hm
   have h2:=y29 x
   have h3:=z87 x.thn
   have hxr:=y11 hr hm
   rw [y3c] at hxr
   simp only [A0,Bg] at hxr
   have a1:=y1e N x.thn hsz.1 oM0 (most - 1) hxr.1.2
   have a2:=y1e N x.els hsz.2 oM0 (most - 1) hxr.2
   have a3:=zh6 _ x.thn (A5 _) oM0 oM0
   have hcs:=(zk9 hxr.1.1.1.1 hxr.1.1.2).2
   rw [enS_eq]
   refine SC.vc tb { pb:=[101] } [] Tryz.func105 rfl rfl ?_
   refine z00 (λc=>?_) λc=>z00 (λc2=>?_) λc2=>z00 (λc3=>?_) λc3=>?_
   ·have c:x.kind=8:=eq_of_beq c
    rw [if_pos c]
    exact ⟨sI,Gc⟩
   ·have c:¬ x.kind=8:=Aa.1 c
    have c2:x.kind=4:=eq_of_beq c2
    rw [if_neg c,if_pos c2]
    generalize ens x.thn=q1 at a1
    refine ⟨[],a1,sR,Gc,rfl,?_⟩
    cases q1 with
    | false=>exact ⟨sI,Gc⟩
    | true=>exact ⟨[],a2,sR,Gc,rfl,sI,Gc⟩
   ·have c:¬ x.kind=8:=Aa.1 c
    have c2:¬ x.kind=4:=Aa.1 c2
    have c3:x.kind=5:=eq_of_beq c3
    obtain ⟨e,he⟩:∃ e,x.args=[e]:=by
     rw [c3] at hcs
     rcases hcs with h | h | h | h | h | h | h | h | h | h
     ·exact absurd h.1 dC0
     ·exact absurd h.1 dC0
     ·exact absurd h.1 dC0
     ·exact absurd h.1 dC0
     ·exact h.2.2.2.1
     ·exact absurd h.1 dC0
     ·exact absurd h.1 dC0
     ·exact absurd h.1 dC0
     ·exact absurd h.1 dC0
     ·exact absurd h.1 dC0
    have hg:(x.args.getD 0 ex0)=e:=by rw [he];rfl
    have hx:x.args[0]? = some e:=by rw [he];rfl
    rw [if_neg c,if_neg c2,if_pos c3,hg]
    refine ⟨z19 hx,rfl,z00 (λk1=>?_) λk1=>?_⟩
    ·refine ⟨z19 hx,rfl,z00 (λk2=>?_) λk2=>?_⟩
     ·have k1:(e.kind==2)=true:=k1
      have k2:(e.n==1)=true:=k2
      rw [k1,k2]
      exact ⟨[],a3,sR,Gc,rfl,sI,Gc⟩
     ·have k1:(e.kind==2)=true:=k1
      have k2:(e.n==1)=false:=k2
      rw [k1,k2]
      exact ⟨sI,Gc⟩
    ·have k1:(e.kind==2)=false:=k1
     rw [k1]
     exact ⟨sI,Gc⟩
   ·have c:¬ x.kind=8:=Aa.1 c
    have c2:¬ x.kind=4:=Aa.1 c2
    have c3:¬ x.kind=5:=Aa.1 c3
    rw [if_neg c,if_neg c2,if_neg c3]
    exact ⟨sI,Gc⟩)
  rw [<- yw6] at hc
  refine SC.vc tb {} [] Tryz.func61 rfl rfl ?_
  exact ⟨[],hc,SubA.same sFn,Gc,rfl,sI,Gc⟩
def ya5:ByteArray:=⟨#[109,97,105,110]⟩
def z81 (es:List (Value × PV)) (l:List ByteArray):List (Value × PV):=l.foldl (λe s=>bump s e) es
theorem zi4:∀ (l:List ByteArray) {es:List (Value × PV)},Cnt es->Cnt (z81 es l)
 | [],_,h=>h
 | s::r,_,h=>zi4 r (h.bump s)
theorem zn2 (es:List (Value × PV)) (l:List ByteArray) (s:ByteArray):z81 es (l++[s])=bump s (z81 es l):=by unfold z81;rw [Dk];rfl
theorem zr5 {α:Type} (f:α -> ByteArray) {l:List α} {i:Nat} {x:α} (h:l.take (i+1)=l.take i++[x]):(l.map f).take (i+1)=(l.map f).take i++[f x]:=by
 rw [<- El,h,Cj,El];rfl
def y3z (p:Pg):Bool :=
 ((z81 (z81 [] (p.arrays.map Ar.name)) (p.funcs.map Fu.name)).length:Int)==p.arrays.length+p.funcs.length&&(decide (z3g p ya5 ≥ 0)&&((fuAt p (z3g p ya5)).ty==1&&(fuAt p (z3g p ya5)).params.length==0))
theorem ys7 (p:Pg) (hp:szP p):SC Tryz.prog 57 [.pv p.enc] [] (λk=>k∈[]) (iBool (y3z p)) []:=by
 refine SC.vc tb { pb:=[101] } [] Tryz.func57 rfl rfl ?_
 obtain ⟨hf,ha⟩:=hp
 refine ⟨Nat,λi=>[(13,iInt ((i:Nat):Int))],λi=>[(109,.map (z81 [] ((p.arrays.map Ar.name).take i)))],λi=>p.arrays.length - i,λi=>i<=p.arrays.length,[],0,A8 _,Gd,Gd,?_⟩
 intro i hi
 have hc0:=zi4 ((p.arrays.map Ar.name).take i) (es:=[]) Cnt.nil
 refine z00 (λhc=>?_) λhc=>?_
 ·have hlt:i<p.arrays.length:=z0x (f:=Ar.enc) rfl hc
  obtain ⟨x,x1,x2,x3,x4⟩:=z0m hlt
  have hs:=zr5 Ar.name x2
  have hs2:z81 [] ((p.arrays.map Ar.name).take (i+1))=bump x.name (z81 [] ((p.arrays.map Ar.name).take i)):=by rw [hs,zn2]
  obtain ⟨n,hn⟩:=hc0.find (.string x.name)
  refine ⟨y2c x1,rfl,VAsk.mk (p:=vInt n) (b:=(z1f (.string x.name) (z81 [] ((p.arrays.map Ar.name).take i))).isSome) rfl hc0.1 (E4 hn rfl) ⟨rfl,rfl,hc0.1,z01 rfl oM0,i+1,z04 hlt,hlt,Gd,⟨mpq (by rw [hs2];exact (zf4 hn).symm),Gc⟩,rfl,rfl,rfl,rfl⟩⟩
 ·have hge:p.arrays.length<=i:=z0y (f:=Ar.enc) rfl hc
  rw [Al (by simpa using hge)] at hc0 ⊢
  have hP:=zd5 p ya5 hf
  have hfu:=@zv9 p ya5
  unfold y3z
  generalize z81 [] (p.arrays.map Ar.name)=e1 at hc0 ⊢
  refine ⟨Nat,λi=>[(26,iInt ((i:Nat):Int))],λi=>[(109,.map (z81 e1 ((p.funcs.map Fu.name).take i)))],λi=>p.funcs.length - i,λi=>i<=p.funcs.length,[],0,A8 _,Gd,Gd,?_⟩
  intro i hi
  have hc1:=zi4 ((p.funcs.map Fu.name).take i) hc0
  refine z00 (λhc=>?_) λhc=>?_
  ·have hlt:i<p.funcs.length:=z0x (f:=Fu.enc) rfl hc
   obtain ⟨x,x1,x2,x3,x4⟩:=z0m hlt
   have hs:=zr5 Fu.name x2
   have hs2:z81 e1 ((p.funcs.map Fu.name).take (i+1))=bump x.name (z81 e1 ((p.funcs.map Fu.name).take i)):=by rw [hs,zn2]
   obtain ⟨n,hn⟩:=hc1.find (.string x.name)
   refine ⟨z9g x1,rfl,VAsk.mk (p:=vInt n) (b:=(z1f (.string x.name) (z81 e1 ((p.funcs.map Fu.name).take i))).isSome) rfl hc1.1 (E4 hn rfl) ⟨rfl,rfl,hc1.1,z01 rfl oM0,i+1,z04 hlt,hlt,Gd,⟨mpq (by rw [hs2];exact (zf4 hn).symm),Gc⟩,rfl,rfl,rfl,rfl⟩⟩
  ·have hge:p.funcs.length<=i:=z0y (f:=Fu.enc) rfl hc
   rw [Al (by simpa using hge)]
   generalize z81 e1 (p.funcs.map Fu.name)=e2
   have hadd:z3d .add .i64 ((p.arrays.map Ar.enc).length:Int) ((p.funcs.map Fu.enc).length:Int)=some (.int .i64 ((p.arrays.length:Int)+p.funcs.length)):=z01 sI0 oM0
   refine ⟨[],hP,sR,Gc,rfl,hadd,z00 (λc1=>?_) λc1=>?_⟩
   ·rw [c1,B3]
    refine z00 (λc2=>?_) λc2=>?_
    ·obtain ⟨j,g1,g2⟩:=hfu (Ao c2)
     rw [c2,B3]
     refine ⟨z9g g2,g1,z00 (λc3=>?_) λc3=>?_⟩
     ·have c3:((fuAt p (z3g p ya5)).ty==1)=true:=c3
      rw [c3,B3]
      exact ⟨z9g g2,g1,sE (A7 iBool (by rw [D7];simp)),Gc⟩
     ·have c3:((fuAt p (z3g p ya5)).ty==1)=false:=c3
      rw [c3]
      exact ⟨sI,Gc⟩
    ·rw [c2]
     exact ⟨sI,Gc⟩
   ·rw [c1]
    exact ⟨sI,Gc⟩
def j3v (l:List Pm):Bool:=decide (((z81 [] (l.map Pm.name)).length:Int)<l.length)
theorem ys8 (l:List Pm) (hl:l.length<=1073741824):SC Tryz.prog 58 [.pv (pms l)] [] (λk=>k∈[]) (iBool (j3v l)) []:=by
 refine SC.vc tb {} [] Tryz.func58 rfl rfl ?_
 refine ⟨Nat,λi=>[(9,iInt ((i:Nat):Int))],λi=>[(106,.map (z81 [] ((l.map Pm.name).take i)))],λi=>l.length - i,λi=>i<=l.length,[],0,A8 _,Gd,Gd,?_⟩
 intro i hi
 have hc0:=zi4 ((l.map Pm.name).take i) (es:=[]) Cnt.nil
 refine z00 (λhc=>?_) λhc=>?_
 ·have hlt:i<l.length:=z0x (f:=Pm.enc) rfl hc
  obtain ⟨x,x1,x2,x3,x4⟩:=z0m hlt
  have hs:=zr5 Pm.name x2
  have hs2:z81 [] ((l.map Pm.name).take (i+1))=bump x.name (z81 [] ((l.map Pm.name).take i)):=by rw [hs,zn2]
  obtain ⟨n,hn⟩:=hc0.find (.string x.name)
  refine ⟨zt2 x1,rfl,VAsk.mk (p:=vInt n) (b:=(z1f (.string x.name) (z81 [] ((l.map Pm.name).take i))).isSome) rfl hc0.1 (E4 hn rfl) ⟨rfl,rfl,hc0.1,z01 rfl oM0,i+1,z04 hlt,hlt,Gd,⟨mpq (by rw [hs2];exact (zf4 hn).symm),Gc⟩,rfl,rfl,rfl,rfl⟩⟩
 ·have hge:l.length<=i:=z0y (f:=Pm.enc) rfl hc
  rw [Al (by simpa using hge)]
  exact ⟨sE (A7 iBool (by unfold j3v;rw [A4])),Gc⟩
def yFun (p:Pg) (f:Fu):Int × Nat :=
 (if (z2a p f.ty f.body (ySc f.params) 1 false 0).1=0/\ens f.body=false then 52 else (z2a p f.ty f.body (ySc f.params) 1 false 0).1,(z2a p f.ty f.body (ySc f.params) 1 false 0).2)
def y8r (p:Pg):List Fu->Nat->Int × Int × Int
 | [],_=>(0,0,0)
 | f::r,i=>if j3v f.params then (50,i,0) else if (yFun p f).1=0 then y8r p r (i+1) else ((yFun p f).1,i,(yFun p f).2)
def z8s (p:Pg):Int × Int × Int:=if y3z p then y8r p p.funcs 0 else (50,0,0)
attribute [local irreducible] y3z z2a
theorem ys4 (p:Pg) (hb:pz p.funcs<=1000000) (ha:p.arrays.length<=1000000) (hr:rPg p=true):SC Tryz.prog 34 [.pv p.enc] [] (λk=>k∈[]) (.tup [iInt (z8s p).1,.pv (.agg [vInt (z8s p).2.1,vInt (z8s p).2.2])]) []:=by
 refine SC.vc tb { pb:=[101,105],ids:=[(36,1)] } [] Tryz.func34 rfl rfl ?_
 have hlp:=zj5 p.funcs
 have hP:szP p:=⟨by omega,by omega⟩
 have hN:=ys7 p hP
 have hR:=ys2 p oM0 oM0 hr
 unfold rPg at hr
 simp only [A0] at hr
 unfold z8s
 refine ⟨[],hR,sR,Gc,rfl,[],hN,sR,Gc,rfl,z00 (λc=>?_) λc=>?_⟩
 ·rw [show y3z p=false by simpa using c]
  exact ⟨sI,Gc⟩
 ·rw [show y3z p=true by simpa using c,if_pos rfl]
  generalize hR:y8r p p.funcs 0=R
  refine ⟨Nat,λi=>[(21,iInt ((i:Nat):Int))],λ_=>[],λi=>p.funcs.length - i,λi=>i<=p.funcs.length/\R=y8r p (p.funcs.drop i) i,[],0,⟨A8 _,hR.symm⟩,Gd,Gc,?_⟩
  rintro i ⟨i1,i2⟩
  refine z00 (λhc=>?_) λhc=>?_
  ·have hlt:i<p.funcs.length:=z0x (f:=Fu.enc) rfl hc
   obtain ⟨x,x1,x2,x3,x4⟩:=z0m hlt
   have hpz:=zt3 x4
   have hrx:=Bc.1 hr.2 x x4
   unfold rFu at hrx
   simp only [A0] at hrx
   rw [x3,y8r] at i2
   refine ⟨z9g x1,rfl,[],ys8 x.params oM0,sR,Gc,rfl,z00 (λc1=>?_) λc1=>?_⟩
   ·rw [if_pos c1] at i2
    subst i2
    exact ⟨sI,Gc⟩
   ·rw [if_neg (by rw [c1];decide)] at i2
    have hB:=zq7 p hP x.ty _ x.body (A5 _) oM0 100 hrx.1.2 (ySc x.params) 1 false 0 dC0 dC0 dC0 oM0
    have hE:=y1e _ x.body (A5 _) oM0 100 hrx.1.2
    unfold yFun at i2
    generalize z2a p x.ty x.body (ySc x.params) 1 false 0=B at hB i2
    obtain ⟨b1,b2⟩:=B
    dsimp only at hB i2
    refine ⟨[],yc8 x.params oM0,sR,Gc,rfl,[],hB,sR,Gd,rfl,z00 (λc2=>?_) λc2=>?_⟩
    ·have c2:b1=0:=by simpa using c2
     subst c2
     refine ⟨[],hE,sR,Gc,rfl,z00 (λc3=>?_) λc3=>?_⟩
     ·rw [show (if (0:Int)=0/\ens x.body=false then (52:Int) else 0)=52 from if_pos ⟨rfl,by simpa using c3⟩,if_neg dC0] at i2
      subst i2
      exact ⟨sI,Gc⟩
     ·have c3:ens x.body=true:=by simpa using c3
      rw [show (if (0:Int)=0/\ens x.body=false then (52:Int) else 0)=0 from if_neg (λh=>by rw [c3] at h;cases h.2),if_pos rfl] at i2
      exact ⟨z01 rfl oM0,i+1,z04 hlt,⟨hlt,i2⟩,Gd,Gc,rfl,rfl,rfl,rfl⟩
    ·have c2:¬ b1=0:=by simpa using c2
     rw [show (if b1=0/\ens x.body=false then (52:Int) else b1)=b1 from if_neg (λh=>c2 h.1),if_neg c2] at i2
     subst i2
     exact z00 (λ_=>⟨sI,Gc⟩) λh=>absurd h (by simp [c2])
  ·have hge:p.funcs.length<=i:=z0y (f:=Fu.enc) rfl hc
   rw [A6 hge,y8r] at i2
   subst i2
   exact ⟨sI,Gc⟩
theorem SC.nilArg {P:Program} {f:FuncId} {xs:List IV} {pre post:List (Nat × HO)} {R:Nat->Prop} {r:IV} (h:∀ a cap,cap<=maxLen->SC P f (.pv (.val (.slice a 0 cap))::xs) pre R r post):SC P f (.pv (.seq [])::xs) pre R r post:=by
 intro F ρ w vs hk hr hargs
 obtain ⟨v,hv,h1⟩:=hargs.2 0 _ rfl
 cases h1 with
 | pv _ _ h1 =>
  cases h1 with
  | seq _ a cap b off u ha hb hl hm hc hr1 =>
   refine h a cap hm F ρ w vs hk hr ⟨hargs.1,λt x hx=>?_⟩
   cases t with
   | zero=>cases hx;exact ⟨_,hv,z38 _⟩
   | succ t=>exact hargs.2 (t+1) x hx
theorem ya8:SC Tryz.prog 35 [.pv (.seq [])] [] (λk=>k∈[]) (.pv (.seq [])) []:=by
 refine SC.nilArg λa cap hc=>?_
 cases a with
 | none =>
  refine SC.vc tb { } [] Tryz.func35 rfl rfl ?_
  exact ⟨sN,Gc⟩
 | some a =>
  refine SC.give (k:=7) (n:=0) (s:=⟨80,2⟩) (els:=[]) ?_ rfl rfl
  refine SC.vc tb { ids:=[(5,7)],ob:=[7],gh:=[(3,[.un 0])] } [] Tryz.func35 rfl rfl ?_
  exact ⟨hc,rfl,(λel h=>absurd h (Bx)),by decide,sI,rfl,Gc⟩
theorem yq9 (l:List Ar) (hne:l≠[]) (hl:l.length<=1073741824):SC Tryz.prog 35 [.pv (arrs l)] [] (λk=>k∈[]) (.sl 7 (l.map Ar.enc).length) [(7,.row ⟨80,2⟩ (l.map Ar.enc))]:=by
 obtain ⟨x,r,rfl⟩:=Bs hne
 refine SC.vc tb { ids:=[(5,7)],ob:=[7] } [] Tryz.func35 rfl rfl ?_
 exact ⟨rfl,zd8 λy _=>⟨rfl,Bc.1 (show y.enc.all PV.one=true from rfl)⟩,by simp at hl ⊢;omega,sE (by rw [Bu];rfl),rfl,Gc⟩
theorem yb0:SC Tryz.prog 63 [.pv (.seq [])] [] (λk=>k∈[]) (.pv (.seq [])) []:=by
 refine SC.nilArg λa cap hc=>?_
 cases a with
 | none =>
  refine SC.vc tb { } [] Tryz.func63 rfl rfl ?_
  exact ⟨sN,Gc⟩
 | some a =>
  refine SC.give (k:=7) (n:=0) (s:=⟨98,2⟩) (els:=[]) ?_ rfl rfl
  refine SC.vc tb { ids:=[(5,7)],ob:=[7],gh:=[(3,[.un 0])] } [] Tryz.func63 rfl rfl ?_
  exact ⟨hc,rfl,(λel h=>absurd h (Bx)),by decide,sI,rfl,Gc⟩
theorem yr1 (l:List Pm) (hne:l≠[]) (hl:l.length<=1073741824):SC Tryz.prog 63 [.pv (pms l)] [] (λk=>k∈[]) (.sl 7 (l.map Pm.enc).length) [(7,.row ⟨98,2⟩ (l.map Pm.enc))]:=by
 obtain ⟨x,r,rfl⟩:=Bs hne
 refine SC.vc tb { ids:=[(5,7)],ob:=[7] } [] Tryz.func63 rfl rfl ?_
 exact ⟨rfl,zd8 λy _=>⟨rfl,Bc.1 (show y.enc.all PV.one=true from rfl)⟩,by simp at hl ⊢;omega,sE (by rw [Bu];rfl),rfl,Gc⟩
theorem yb1:SC Tryz.prog 110 [.pv (.seq [])] [] (λk=>k∈[]) (.pv (.seq [])) []:=by
 refine SC.nilArg λa cap hc=>?_
 cases a with
 | none =>
  refine SC.vc tb { } [] Tryz.func110 rfl rfl ?_
  exact ⟨sN,Gc⟩
 | some a =>
  refine SC.give (k:=7) (n:=0) (s:=⟨145,6⟩) (els:=[]) ?_ rfl rfl
  refine SC.vc tb { ids:=[(5,7)],ob:=[7],gh:=[(3,[.un 0])] } [] Tryz.func110 rfl rfl ?_
  exact ⟨hc,rfl,(λel h=>absurd h (Bx)),by decide,sI,rfl,Gc⟩
theorem yr2 (l:List St) (hne:l≠[]) (hl:l.length<=1073741824):SC Tryz.prog 110 [.pv (sts l)] [] (λk=>k∈[]) (.sl 7 (l.map St.enc).length) [(7,.row ⟨145,6⟩ (l.map St.enc))]:=by
 obtain ⟨x,r,rfl⟩:=Bs hne
 refine SC.vc tb { ids:=[(5,7)],ob:=[7] } [] Tryz.func110 rfl rfl ?_
 exact ⟨rfl,zd8 λy _=>⟨by rw [St.enc_eq];rfl,Bc.1 (show y.enc.all PV.one=true by rw [St.enc_eq];rfl)⟩,by simp at hl ⊢;omega,sE (by rw [Bu];rfl),rfl,Gc⟩
theorem ya9:SC Tryz.prog 158 [.pv (.seq [])] [] (λk=>k∈[]) (.pv (.seq [])) []:=by
 refine SC.nilArg λa cap hc=>?_
 cases a with
 | none =>
  refine SC.vc tb { } [] Tryz.func158 rfl rfl ?_
  exact ⟨sN,Gc⟩
 | some a =>
  refine SC.give (k:=7) (n:=0) (s:=⟨180,5⟩) (els:=[]) ?_ rfl rfl
  refine SC.vc tb { ids:=[(5,7)],ob:=[7],gh:=[(3,[.un 0])] } [] Tryz.func158 rfl rfl ?_
  exact ⟨hc,rfl,(λel h=>absurd h (Bx)),by decide,sI,rfl,Gc⟩
theorem yr0 (l:List Ex) (hne:l≠[]) (hl:l.length<=1073741824):SC Tryz.prog 158 [.pv (exs l)] [] (λk=>k∈[]) (.sl 7 (l.map Ex.enc).length) [(7,.row ⟨180,5⟩ (l.map Ex.enc))]:=by
 obtain ⟨x,r,rfl⟩:=Bs hne
 refine SC.vc tb { ids:=[(5,7)],ob:=[7] } [] Tryz.func158 rfl rfl ?_
 exact ⟨rfl,zd8 λy _=>⟨by rw [Ex.enc_eq];rfl,Bc.1 (show y.enc.all PV.one=true by rw [Ex.enc_eq];rfl)⟩,by simp at hl ⊢;omega,sE (by rw [Bu];rfl),rfl,Gc⟩
set_option maxRecDepth 100000 in
set_option maxHeartbeats 4000000 in
theorem y64 (b:Nat) (r:Array MapEntry) (ck:Nat) (w:World) (hb:w.heap[b]? = some (.map r ck)) :
 Calls Tryz.prog 109 #[.map (some b)] w λe w'=>e = .returned (.map (some w.heap.size))/\w'=w.alloc (.map r ck):=by
 have hq:=λw=>run_eql_map_nil_sl (P:=Tryz.prog) w 137 _ _ (some b) Tryz.underlying137
 go_enter Tryz.func109,Tryz.ntmps109
 go_wp2
 rw [run_callFunc_extern Tryz.func157 kR0 kR0 kR0 (e:=Extern.MapsClone.clone) kR0,run_maps_clone_sl w 137 hb]
 simp only [Result.andThen]
 rw [Cy]
 go_wp2
 rw [run_typeAssert_map_sl _ 137 20 _ _ _ Tryz.underlying137]
 simp only [Result.andThen]
 rw [Cy]
 go_wp2
 go_ret
 exact ⟨rfl,rfl⟩
set_option maxRecDepth 100000 in
set_option maxHeartbeats 4000000 in
theorem y65 (b:Nat) (r:Array MapEntry) (ck:Nat) (w:World) (hb:w.heap[b]? = some (.map r ck)) :
 Calls Tryz.prog 196 #[.map (some b)] w λe w'=>e = .returned (.map (some w.heap.size))/\w'=w.alloc (.map r ck):=by
 have hq:=λw=>run_eql_map_nil_sl (P:=Tryz.prog) w 94 _ _ (some b) Tryz.underlying94
 go_enter Tryz.func196,Tryz.ntmps196
 go_wp2
 rw [run_callFunc_extern Tryz.func157 kR0 kR0 kR0 (e:=Extern.MapsClone.clone) kR0,run_maps_clone_sl w 94 hb]
 simp only [Result.andThen]
 rw [Cy]
 go_wp2
 rw [run_typeAssert_map_sl _ 94 20 _ _ _ Tryz.underlying94]
 simp only [Result.andThen]
 rw [Cy]
 go_wp2
 go_ret
 exact ⟨rfl,rfl⟩
theorem SC.clone {P:Program} {f:FuncId} {es:List (Value × PV)} (hcl:∀ (b:Nat) (r:Array MapEntry) (ck:Nat) (w:World),w.heap[b]? = some (.map r ck)->Calls P f #[.map (some b)] w λe w'=>e = .returned (.map (some w.heap.size))/\w'=w.alloc (.map r ck)) :
 SC P f [.mp 1] [(1,.map es)] (λk=>k∈[1]) (.mp 8) [(8,.map es),(1,.map es)]:=by
 intro F ρ w vs hkept hrel hargs
 have ha:All ⟨F,λk=>k∈[1],ρ,look (up [(1,.map es)]),w,vs.length⟩ ρ (look (up [(1,.map es)])) w [(0,.mp 1)] { tmps:=vs.toArray,defers:=[] }:=by
  refine ⟨hrel,λt x hx=>?_,.refl _ _ _ _ _,rfl,by simp,hkept⟩
  match t,hx with
  | 0,hx=>cases hx;obtain ⟨v,h1,h2⟩:=hargs.2 0 _ rfl;exact ⟨v,by simpa using h1,h2⟩
  | t+1,hx=>cases hx
 obtain ⟨b,cc,r,ck,u,hv,hρ,h3,h4,h5,h6⟩:=ha.mapAt (x:=.tmp 0) rfl rfl
 have hst:=ha.stamped hρ rfl h3
 have hvs:vs.toArray = #[.map (some b)]:=by
  match vs,hargs.1,hv with
  | [v],_,hv=>simp [Act.eval] at hv;rw [hv]
 rw [hvs]
 refine (hcl b r ck w h3).mono ?_
 rintro e w' ⟨rfl,rfl⟩
 have hn:=ha.alloc (k:=8) (o:=.map es) rfl rfl rfl rfl 1 (.map r ck) λ_ keepP=>.map es r ck u (z2u w _) h4 h5 λi k p hi=>keepP _ _ (h6 i k p hi)
 exact ⟨_,_,rfl,.mp _ _ λes' _=>⟨w.heap.size,1,z0b,rfl⟩,hn.rel,hn.tr⟩
theorem y7n (es:List (Value × PV)):SC Tryz.prog 109 [.mp 1] [(1,.map es)] (λk=>k∈[1]) (.mp 8) [(8,.map es),(1,.map es)]:=SC.clone y64
theorem j1c (es:List (Value × PV)):SC Tryz.prog 196 [.mp 1] [(1,.map es)] (λk=>k∈[1]) (.mp 8) [(8,.map es),(1,.map es)]:=SC.clone y65
def y6o:Go.Shelf.Ren:=⟨λ| 246=>192 | 283=>217 | 284=>218 | 285=>219 | 286=>220 | 129=>240 | 317=>239 | 318=>241 | 319=>242 | 320=>243 | 337=>251 | 338=>252 | n=>n,λ| 2=>2 | 3=>3 | 9=>9 | 4=>4 | 171=>268 | 0=>0 | 53=>232 | 37=>22 | 5=>5 | 173=>271 | 212=>281 | 51=>282 | 20=>20 | 213=>283 | 46=>284 | 232=>302 | 233=>303 | n=>n,λ| 17=>0 | 18=>1 | 19=>2 | n=>n⟩
theorem yg7:Go.Proofs.LaysM.n246 Tryz.prog y6o where
 mixed:=by kernel_rfl
 f129:=Tryz.func240.trans (A7 some kR0)
 f246:=Tryz.func192.trans (A7 some kR0)
 f283:=Tryz.func217.trans (A7 some kR0)
 f284:=Tryz.func218.trans (A7 some kR0)
 f285:=Tryz.func219.trans (A7 some kR0)
 f286:=Tryz.func220.trans (A7 some kR0)
 f317:=Tryz.func239.trans (A7 some kR0)
 f318:=Tryz.func241.trans (A7 some kR0)
 f319:=Tryz.func242.trans (A7 some kR0)
 f320:=Tryz.func243.trans (A7 some kR0)
 f337:=Tryz.func251.trans (A7 some kR0)
 f338:=Tryz.func252.trans (A7 some kR0)
 t0:=Tryz.underlying0
 a0:=Tryz.isAgg0
 z0:=Tryz.sizeOf0
 v0:=Tryz.zeroValue0
 t2:=Tryz.underlying2
 a2:=Tryz.isAgg2
 z2:=Tryz.sizeOf2
 v2:=Tryz.zeroValue2
 t3:=Tryz.underlying3
 a3:=Tryz.isAgg3
 z3:=Tryz.sizeOf3
 v3:=Tryz.zeroValue3
 t4:=Tryz.underlying4
 a4:=Tryz.isAgg4
 z4:=Tryz.sizeOf4
 v4:=Tryz.zeroValue4
 t5:=Tryz.underlying5
 a5:=Tryz.isAgg5
 z5:=Tryz.sizeOf5
 v5:=Tryz.zeroValue5
 t9:=Tryz.underlying9
 a9:=Tryz.isAgg9
 z9:=Tryz.sizeOf9
 v9:=Tryz.zeroValue9
 t20:=Tryz.underlying20
 a20:=Tryz.isAgg20
 z20:=Tryz.sizeOf20
 v20:=Tryz.zeroValue20
 t37:=Tryz.underlying22
 a37:=Tryz.isAgg22
 z37:=Tryz.sizeOf22
 v37:=Tryz.zeroValue22
 t46:=Tryz.underlying284
 a46:=Tryz.isAgg284
 z46:=Tryz.sizeOf284
 v46:=Tryz.zeroValue284
 t51:=Tryz.underlying282
 a51:=Tryz.isAgg282
 z51:=Tryz.sizeOf282
 v51:=Tryz.zeroValue282
 t53:=Tryz.underlying232
 a53:=Tryz.isAgg232
 z53:=Tryz.sizeOf232
 v53:=Tryz.zeroValue232
 t171:=Tryz.underlying268
 a171:=Tryz.isAgg268
 z171:=Tryz.sizeOf268
 v171:=Tryz.zeroValue268
 t173:=Tryz.underlying271
 a173:=Tryz.isAgg271
 z173:=Tryz.sizeOf271
 v173:=Tryz.zeroValue271
 t212:=Tryz.underlying281
 a212:=Tryz.isAgg281
 z212:=Tryz.sizeOf281
 v212:=Tryz.zeroValue281
 t213:=Tryz.underlying283
 a213:=Tryz.isAgg283
 z213:=Tryz.sizeOf283
 t232:=Tryz.underlying302
 a232:=Tryz.isAgg302
 z232:=Tryz.sizeOf302
 v232:=Tryz.zeroValue302
 t233:=Tryz.underlying303
 a233:=Tryz.isAgg303
 z233:=Tryz.sizeOf303
 v233:=Tryz.zeroValue303
 g17:=by kernel_rfl
 g18:=by kernel_rfl
 g19:=by kernel_rfl
 i0:=by kernel_rfl
 i2:=by kernel_rfl
 i3:=by kernel_rfl
 i4:=by kernel_rfl
 i5:=by kernel_rfl
 i9:=by kernel_rfl
 i20:=by kernel_rfl
 i37:=by kernel_rfl
 i46:=by kernel_rfl
 i51:=by kernel_rfl
 i53:=by kernel_rfl
 i171:=by kernel_rfl
 i173:=by kernel_rfl
 i212:=by kernel_rfl
 i232:=by kernel_rfl
 i233:=by kernel_rfl
 m17:=by kernel_rfl
 m18:=by kernel_rfl
 m19:=by kernel_rfl
theorem loc_none {F:Nat->Prop} {ρ:Loc} {w:World} (h:RelH F ρ (look (up [])) w) (k:Nat):ρ k=none:=by
 cases hk:ρ k with
 | none=>rfl
 | some l =>
  obtain ⟨o,ho,_⟩:=h.obj k l.1 l.2 hk
  cases ho
theorem grown {F:Nat->Prop} {ρ:Loc} {w:World} (h:RelH F ρ (look (up [])) w) (R:Nat->Prop) (k:Nat) (os:Array Obj) :
 RelH F ρ (look (up [])) (Go.Sort.grow (w.drewN k) os)/\Trans F R ρ (look (up [])) w ρ (look (up [])) (Go.Sort.grow (w.drewN k) os):=by
 have hn:=loc_none h
 have hs:w.heap.size<=(Go.Sort.grow (w.drewN k) os).heap.size:=by simp [Go.Sort.grow,World.drewN]
 have hb:∀ b,b<w.heap.size->(Go.Sort.grow (w.drewN k) os).heap[b]? = w.heap[b]?:=λb hb=>Go.Sort.heap_grow_old (w.drewN k) os hb
 refine ⟨⟨λi _ _ _ _ hi=>?_,λi _ _ hi=>?_,λb hF=>Ba (h.old b hF) hs,λi _ _ hi=>?_,λi o ho=>?_⟩,
  ⟨rfl,rfl,rfl,hs,λb hlt _=>hb b hlt,λi _ _ hi _=>hi,λi cs _ hi=>?_,λi cs _ hi=>?_,λi _ _ _ _ hi=>?_,λi _ _ _ _ hi=>?_,λi _ hi=>?_,λi _ hi=>?_,λi _ _ hi=>?_⟩⟩
 all_goals first
 | (rw [hn i] at hi;cases hi)
 | cases ho
 | cases hi
theorem y7l (n:Int) (h0:-9223372036854775808<=n) (h1:n<=9223372036854775807) :
 SC Tryz.prog 192 [.pv (.val (.int .i64 n)),.pv (.val (.int .i64 10))] [] (λk=>k∈[]) (.pv (.val (.string ⟨(Lib.itoa n).toArray⟩))) []:=by
 intro F ρ w vs hk hrel hargs
 obtain ⟨v0,e0,r0⟩:=hargs.2 0 _ rfl
 obtain ⟨v1,e1,r1⟩:=hargs.2 1 _ rfl
 have hv:vs=[.int .i64 n,.int .i64 10]:=by
  have hl:=hargs.1
  have d0:=r0.val
  have d1:=r1.val
  subst d0 d1
  match vs,hl,e0,e1 with
  | [a,b],_,e0,e1=>cases e0;cases e1;rfl
 subst hv
 refine (Any.internal_strconv_FormatInt_10 yg7 n h0 h1 w ?_).mono ?_
 ·obtain ⟨⟨T,f,h1⟩,_⟩:=hk _ (Dd)
  unfold Lib.TabIs World.var?
  rw [yg7.m17]
  show (match w.heap[0]? with
   | some (.cells cs _ _)=>some cs
   | _=>none)=_
  rw [h1]
 rintro e w' ⟨rfl,k,os,rfl⟩
 obtain ⟨g1,g2⟩:=grown hrel (λk=>k∈[]) k os
 exact ⟨ρ,_,rfl,.pv _ _ (.val _),g1,g2⟩
def tNum (n:Int):ByteArray:=⟨(Lib.itoa n).toArray⟩
def tVal (n:Int):ByteArray:=⟨#[118]⟩++tNum n
def SMap (es:List (Value × PV)):Prop:=(∀ e∈es,z1r .string e.1=true)/\∀ e∈es,∃ s,e.2=vStr s
def z8a (es:List (Value × PV)) (name:ByteArray):ByteArray:=match z1f (.string name) es with
 | some (.val (.string s))=>s
 | _=>⟨#[]⟩
def z95 (es:List (Value × PV)) (a b:ByteArray):List (Value × PV):=mput (.string a) (vStr b) es
theorem SMap.nil:SMap []:=⟨λ_ h=>by simp at h,λ_ h=>by simp at h⟩
theorem SMap.put {es:List (Value × PV)} (h:SMap es) (a b:ByteArray):SMap (z95 es a b):=by
 unfold z95
 refine ⟨λe he=>?_,λe he=>?_⟩
 ·rcases z3u he with rfl | he
  ·rfl
  ·exact h.1 e he
 ·rcases z3u he with rfl | he
  ·exact ⟨_,rfl⟩
  ·exact h.2 e he
theorem SMap.get {es:List (Value × PV)} (h:SMap es) (name:ByteArray):(z1f (.string name) es).getD (.val (.string ⟨#[]⟩))=vStr (z8a es name):=by
 unfold z8a
 cases hf:z1f (.string name) es with
 | none=>rfl
 | some p=>obtain ⟨a,ha⟩:=z78 hf;obtain ⟨s,hs⟩:=h.2 _ ha;dsimp only at hs;subst hs;rfl
mutual
def rnX (es:List (Value × PV)):Ex->Ex
 | .mk k o n nm args=>.mk k o n (if k=3 then z8a es nm else nm) (rnXL es args)
def rnXL (es:List (Value × PV)):List Ex->List Ex
 | []=>[]
 | x::r=>rnX es x::rnXL es r
end
theorem y10 (es:List (Value × PV)):∀ l,rnXL es l=l.map (rnX es)
 | []=>rfl
 | x::r=>by simp [rnXL,y10 es r]
theorem rnX_eq (es:List (Value × PV)) (x:Ex):rnX es x = .mk x.kind x.op x.n (if x.kind=3 then z8a es x.name else x.name) (x.args.map (rnX es)):=by
 cases x;rw [rnX,y10];rfl
def z1l (es:List (Value × PV)) (k:Int) (nm:ByteArray) (n:Nat):ByteArray × List (Value × PV) × Nat :=
 if k=1 then (z8a (z95 es nm (tVal n)) nm,z95 es nm (tVal n),n+1) else if k=2 then (z8a es nm,es,n) else (nm,es,n)
mutual
def rnB:List St->List (Value × PV)->Nat->List St × Nat
 | [],_,n=>([],n)
 | x::r,es,n=>((rnS x es n).1::(rnB r (z1l es x.kind x.name n).2.1 (rnS x es n).2).1,(rnB r (z1l es x.kind x.name n).2.1 (rnS x es n).2).2)
def rnS:St->List (Value × PV)->Nat->St × Nat
 | .mk k ty nm args thn els,es,n=>(.mk k ty (z1l es k nm n).1 (args.map (rnX es)) (rnB thn (z1l es k nm n).2.1 (z1l es k nm n).2.2).1 (rnB els (z1l es k nm n).2.1 (rnB thn (z1l es k nm n).2.1 (z1l es k nm n).2.2).2).1,
  (rnB els (z1l es k nm n).2.1 (rnB thn (z1l es k nm n).2.1 (z1l es k nm n).2.2).2).2)
end
def rnPm (l:List Pm) (es:List (Value × PV)) (n:Nat):List Pm × List (Value × PV) × Nat:=match l with
 | []=>([],es,n)
 | x::r=>(⟨z8a (z95 es x.name (tVal n)) x.name,x.ty⟩::(rnPm r (z95 es x.name (tVal n)) (n+1)).1,(rnPm r (z95 es x.name (tVal n)) (n+1)).2)
def rnF (f:Fu):Fu:=⟨f.name,f.ty,(rnPm f.params [] 0).1,(rnB f.body (rnPm f.params [] 0).2.1 (rnPm f.params [] 0).2.2).1⟩
def rnP (p:Pg):Pg:=⟨p.arrays,p.funcs.map rnF⟩
def N64 (n:Int):Prop:=-9223372036854775808<=n/\n<=9223372036854775807
theorem tNum_le {n:Int} (h:N64 n):(tNum n).size<=21:=Lib.itoa_length_le n h.1 h.2
theorem sc_ItoaI (n:Int) (h:N64 n):SC Tryz.prog 156 [.pv (.val (.int .i64 n))] [] (λk=>k∈[]) (.pv (.val (.string (tNum n)))) []:=by
 refine SC.vc tb {} [] Tryz.func156 rfl rfl ?_
 exact ⟨[],y7l n h.1 h.2,sR,Gc,rfl,sI,Gc⟩
theorem sc_Itoa (n:Int) (h:N64 n):SC Tryz.prog 108 [.pv (.val (.int .i64 n))] [] (λk=>k∈[]) (.pv (.val (.string (tNum n)))) []:=by
 refine SC.vc tb {} [] Tryz.func108 rfl rfl ?_
 exact ⟨[],sc_ItoaI n h,sR,Gc,rfl,sI,Gc⟩
def pg0:Pg:=⟨[],[]⟩
def z2m (s:ByteArray):Pg × Int × Int :=
 if (z1q s).2.1=0 then
  if (z8x (z1q s).1).2.deep then (pg0,2,(tkAt (z1q s).1 (z8x (z1q s).1).2).line)
  else if (z8x (z1q s).1).2.bad then (pg0,20,(tkAt (z1q s).1 (z8x (z1q s).1).2).line)
  else if rPg (z8x (z1q s).1).1 then ((z8x (z1q s).1).1,0,0) else (pg0,2,0)
 else (pg0,(z1q s).2)
theorem y6i (s:ByteArray):pz (z2m s).1.funcs+(z2m s).1.arrays.length<=300003:=by
 unfold z2m
 split
 ·rename_i h0
  obtain ⟨hT,hl⟩:=y1r h0
  split
  ·exact A8 _
  ·rename_i h1
   split
   ·exact A8 _
   ·rename_i h2
    split
    ·have ho:(z8x (z1q s).1).2.over=false:=by unfold Ps.over;rw [Ep.2 h1,Ep.2 h2];rfl
     have hp:0<(z1q s).1.length:=by obtain ⟨i,e,h,_⟩:=hT;rw [h];simp
     have h3:=y4x hT (big (z1q s).1) ⟨[],[]⟩ ⟨0,false,false⟩ ho
     have h4:=(z8v hT (big (z1q s).1) ⟨[],[]⟩ ⟨0,false,false⟩).lt hp
     unfold z8x
     simp only [pz,Ax] at h3
     dsimp only at h3 h4 ⊢
     omega
    ·exact A8 _
 ·exact A8 _
theorem zs3 (s:ByteArray):rPg (z2m s).1=true:=by
 unfold z2m
 split
 ·split
  ·rfl
  ·split
   ·rfl
   ·split
    ·rename_i h;exact h
    ·rfl
 ·rfl
attribute [local irreducible] z8x z1q
theorem sc_Parse (s:ByteArray) (hs:s.size<=1073741824):SC Tryz.prog 23 [.pv (.val (.string s))] [] (λk=>k∈[]) (.tup [.pv (z2m s).1.enc,iInt (z2m s).2.1,iInt (z2m s).2.2]) []:=by
 refine SC.vc tb { ids:=[(23,1)] } [] Tryz.func23 rfl rfl ?_
 have h0:=j19 s hs
 have hok:=@y1r s
 have hsz:=j2x s
 unfold z2m
 generalize z1q s=t at h0 hok hsz
 obtain ⟨T,e,line⟩:=t
 dsimp only at h0 hok hsz ⊢
 refine ⟨[],h0,sR,Gc,rfl,z00 (λc1=>?_) λc1=>?_⟩
 ·have c1:¬ e=0:=by simpa using c1
  rw [if_neg c1]
  exact ⟨sT3 (sP (z0e _)),Gc⟩
 ·have c1:e=0:=by simpa using c1
  obtain ⟨hT,hl⟩:=hok c1
  rw [if_pos c1]
  have hp:0<T.length:=by obtain ⟨i,e,h,_⟩:=hT;rw [h];simp
  have hS:TkSz T:=λx hx=>Bm (hsz x hx) hs
  have h1:=sc_prog T hT hS oM0 hp
  have h2:=(z8v hT (big T) ⟨[],[]⟩ ⟨0,false,false⟩).lt hp
  have h3:=y4x hT (big T) ⟨[],[]⟩ ⟨0,false,false⟩
  rw [show z3t T (big T) ⟨[],[]⟩ ⟨0,false,false⟩=z8x T from by unfold z8x;rfl] at h2 h3
  generalize z8x T=r at h1 h2 h3
  obtain ⟨p,a,b,d⟩:=r
  dsimp only at h1 h2 h3 ⊢
  simp only [pz,Ax] at h3
  refine ⟨[],h1,sR,Gd,rfl,?_⟩
  cases d with
  | true=>exact ⟨yd5 (s:=⟨a,b,true⟩) h2,rfl,sT3 (sP (z0e _)),Gc⟩
  | false =>
   cases b with
   | true=>exact ⟨yd5 (s:=⟨a,true,false⟩) h2,rfl,sT3 (sP (z0e _)),Gc⟩
   | false =>
    have h4:=h3 rfl
    refine ⟨[],sc_Right p oM0 oM0,sR,Gc,rfl,z00 (λc2=>?_) λc2=>?_⟩
    ·rw [show rPg p=false by simpa using c2]
     exact ⟨sT3 (sP (z0e _)),Gc⟩
    ·rw [show rPg p=true by simpa using c2]
     exact ⟨sI,Gc⟩
def lines0:List ByteArray:=[⟨#[119,104,105,108,101,32,40,120,32,60,32,53,41,32,123,32,120,32,61,32,120,32,43,32,49,59,32,105,102,32,40,120,32,61,61,32,51,41,32,123,32,99,111,110,116,105,110,117,101,59,32,125,32,121,32,61,32,121,32,43,32,120,59,32,125]⟩,⟨#[119,104,105,108,101,32,40,116,114,117,101,41,32,123,32,120,32,61,32,120,32,43,32,50,59,32,105,102,32,40,120,32,62,32,57,41,32,123,32,98,114,101,97,107,59,32,125,32,112,114,105,110,116,40,120,41,59,32,125]⟩,⟨#[120,32,61,32,48,59]⟩,⟨#[121,32,61,32,120,32,42,32,121,32,43,32,49,59]⟩,⟨#[112,114,105,110,116,40,121,41,59]⟩,⟨#[119,104,105,108,101,32,40,98,41,32,123,32,98,32,61,32,121,32,62,32,50,48,59,32,121,32,61,32,121,32,43,32,55,59,32,125]⟩,⟨#[105,102,32,40,120,32,62,32,121,41,32,123,32,120,32,61,32,121,59,32,125,32,101,108,115,101,32,123,32,121,32,61,32,120,59,32,125]⟩,⟨#[119,104,105,108,101,32,40,120,32,62,32,48,41,32,123,32,120,32,61,32,120,32,45,32,49,59,32,119,104,105,108,101,32,40,121,32,62,32,120,41,32,123,32,121,32,61,32,121,32,45,32,50,59,32,105,102,32,40,121,32,61,61,32,52,41,32,123,32,98,114,101,97,107,59,32,125,32,125,32,125]⟩,⟨#[98,32,61,32,120,32,60,32,121,59]⟩,⟨#[119,104,105,108,101,32,40,121,32,62,32,53,48,41,32,123,32,114,101,116,117,114,110,32,120,59,32,125]⟩,⟨#[120,32,61,32,120,32,38,32,55,59]⟩,⟨#[119,104,105,108,101,32,40,102,97,108,115,101,41,32,123,32,112,114,105,110,116,40,49,41,59,32,125]⟩,⟨#[105,102,32,40,116,114,117,101,41,32,123,32,105,110,116,32,116,32,61,32,120,59,32,120,32,61,32,121,59,32,121,32,61,32,116,59,32,125]⟩,⟨#[119,104,105,108,101,32,40,121,32,62,32,49,32,38,38,32,120,32,62,32,121,41,32,123,32,120,32,61,32,120,32,45,32,49,59,32,121,32,61,32,121,32,62,62,62,32,49,59,32,125]⟩,⟨#[119,104,105,108,101,32,40,116,114,117,101,41,32,123,32,105,102,32,40,99,41,32,123,32,99,32,61,32,102,97,108,115,101,59,32,99,111,110,116,105,110,117,101,59,32,125,32,98,114,101,97,107,59,32,125]⟩,⟨#[119,104,105,108,101,32,40,120,32,60,32,51,41,32,123,32,105,110,116,32,122,32,61,32,120,32,42,32,50,59,32,120,32,61,32,122,32,43,32,49,59,32,105,102,32,40,122,32,62,32,121,41,32,123,32,121,32,61,32,122,59,32,98,114,101,97,107,59,32,125,32,125]⟩]
def lines1:List ByteArray:=[⟨#[98,32,61,32,120,32,60,32,121,32,38,38,32,121,32,47,32,120,32,62,32,49,59]⟩,⟨#[99,32,61,32,98,32,124,124,32,114,101,97,100,40,41,32,61,61,32,49,59]⟩,⟨#[105,102,32,40,98,32,38,38,32,33,99,32,124,124,32,120,32,61,61,32,50,41,32,123,32,112,114,105,110,116,40,49,41,59,32,125]⟩,⟨#[119,104,105,108,101,32,40,99,32,38,38,32,120,32,60,32,54,41,32,123,32,120,32,61,32,120,32,43,32,49,59,32,99,32,61,32,120,32,33,61,32,52,32,124,124,32,98,59,32,125]⟩,⟨#[98,32,61,32,33,98,59]⟩,⟨#[99,32,61,32,98,32,61,61,32,99,59]⟩,⟨#[105,102,32,40,120,32,47,32,40,120,32,45,32,49,41,32,62,32,48,32,124,124,32,98,41,32,123,32,120,32,61,32,49,59,32,125]⟩,⟨#[120,32,61,32,120,32,43,32,49,59]⟩,⟨#[121,32,61,32,121,32,45,32,120,59]⟩,⟨#[112,114,105,110,116,40,120,41,59]⟩,⟨#[98,32,61,32,116,114,117,101,32,38,38,32,40,99,32,124,124,32,102,97,108,115,101,41,59]⟩,⟨#[105,102,32,40,103,40,120,41,32,38,38,32,103,40,121,41,41,32,123,32,121,32,61,32,48,59,32,125]⟩,⟨#[99,32,61,32,103,40,120,41,32,124,124,32,103,40,121,41,32,38,38,32,98,59]⟩,⟨#[105,102,32,40,33,40,98,32,124,124,32,99,41,41,32,123,32,98,32,61,32,120,32,62,32,50,59,32,125,32,101,108,115,101,32,123,32,99,32,61,32,121,32,62,32,50,32,38,38,32,98,59,32,125]⟩]
def lines2:List ByteArray:=[⟨#[97,91,120,32,38,32,51,93,32,61,32,121,59]⟩,⟨#[121,32,61,32,97,91,120,93,59]⟩,⟨#[120,32,61,32,120,32,43,32,97,91,48,93,59]⟩,⟨#[112,114,105,110,116,40,97,91,49,93,32,43,32,97,91,121,32,38,32,51,93,41,59]⟩,⟨#[97,91,120,93,32,61,32,97,91,121,93,32,43,32,49,59]⟩,⟨#[120,32,61,32,49,59]⟩,⟨#[121,32,61,32,50,59]⟩,⟨#[97,91,48,93,32,61,32,114,101,97,100,40,41,59]⟩,⟨#[119,104,105,108,101,32,40,120,32,60,32,52,41,32,123,32,97,91,120,93,32,61,32,120,32,42,32,121,59,32,120,32,61,32,120,32,43,32,49,59,32,125]⟩,⟨#[105,102,32,40,97,91,120,32,38,32,51,93,32,62,32,50,41,32,123,32,97,91,48,93,32,61,32,48,59,32,125,32,101,108,115,101,32,123,32,121,32,61,32,97,91,51,93,59,32,125]⟩,⟨#[120,32,61,32,121,32,47,32,97,91,50,93,59]⟩,⟨#[121,32,61,32,121,32,37,32,51,59]⟩,⟨#[97,91,97,91,48,93,32,38,32,51,93,32,61,32,97,91,97,91,49,93,32,38,32,51,93,59]⟩,⟨#[112,114,105,110,116,40,97,91,48,93,32,45,32,120,41,59]⟩]
def lines3:List ByteArray:=[⟨#[120,32,61,32,102,40,120,44,32,98,41,59]⟩,⟨#[121,32,61,32,102,40,121,44,32,33,98,41,32,43,32,102,40,120,44,32,116,114,117,101,41,59]⟩,⟨#[98,32,61,32,103,40,120,41,59]⟩,⟨#[112,114,105,110,116,40,102,40,49,44,32,102,97,108,115,101,41,41,59]⟩,⟨#[105,102,32,40,103,40,121,41,41,32,123,32,120,32,61,32,104,40,51,41,59,32,125]⟩,⟨#[121,32,61,32,104,40,120,32,38,32,55,41,59]⟩,⟨#[102,40,120,44,32,98,41,59]⟩,⟨#[120,32,61,32,120,32,38,32,49,53,59]⟩,⟨#[99,32,61,32,103,40,104,40,52,41,41,32,38,38,32,98,59]⟩,⟨#[97,91,49,93,32,61,32,102,40,97,91,49,93,44,32,99,41,59]⟩,⟨#[119,104,105,108,101,32,40,103,40,120,41,32,38,38,32,120,32,60,32,57,41,32,123,32,120,32,61,32,120,32,43,32,102,40,50,44,32,99,41,59,32,125]⟩,⟨#[114,101,116,117,114,110,32,104,40,120,32,38,32,51,41,59]⟩,⟨#[121,32,61,32,114,101,97,100,40,41,59]⟩,⟨#[112,114,105,110,116,40,105,56,40,120,41,32,43,32,117,49,54,40,121,41,32,45,32,126,120,41,59]⟩]
def z2k (k:Int):List ByteArray:=if k=0 then lines0 else if k=1 then lines1 else if k=2 then lines2 else lines3
def eTx (s:ByteArray):List PV:=[.val (.string s)]
theorem sc_lined (k:Int) (h0:0<=k) (h1:k<=3):SC Tryz.prog 30 [.pv (.val (.int .i64 k))] [] (λk=>k∈[]) (.pv (.seq ((z2k k).map eTx))) []:=by
 refine SC.vc tb {} [] Tryz.func30 rfl rfl ?_
 rcases (show k=0∨k=1∨k=2∨k=3 by omega) with rfl | rfl | rfl | rfl<;>exact ⟨sI,Gc⟩
section
structure Gn where
 pos:Nat
 types:List Int
 left:Nat
structure Plc where
 If:Bool
 Loop:Bool
 Yield:List Int
 Next:List Int
 Left:List Int
section
variable (l:List UInt8)
end
end
def eB (x:UInt8):List PV:=[.val (.int .u8 (x.toNat:Int))]
def bts (l:List UInt8):PV:=.seq (l.map eB)
theorem r64 {m n z:Int} (hn:n≠0) (h:m.tmod n=z):z3d .rem .i64 m n=some (.int .i64 z):=by
 subst h;simp only [z3d];rw [if_neg hn]
theorem y5s {a b:ByteArray} (h:a.size+b.size<=9223372036854775807):y1n .add a b=some (.string (a++b)):=by
 show (if ((a.size+b.size:Nat):Int) > IntKind.i64.max then none else some (Value.string (a++b)))=_
 rw [if_neg]
 have:IntKind.i64.max=9223372036854775807:=rfl
 rw [this]
 omega
def fam0:ByteArray:=⟨#[105,110,116,32,97,91,52,93,59,32,105,110,116,32,102,40,105,110,116,32,110,44,32,98,111,111,108,32,98,41,32,123,32,97,91,110,32,38,32,51,93,32,61,32,110,59,32,105,102,32,40,98,41,32,123,32,114,101,116,117,114,110,32,110,32,42,32,50,59,32,125,32,114,101,116,117,114,110,32,97,91,49,93,59,32,125,32,98,111,111,108,32,103,40,105,110,116,32,110,41,32,123,32,112,114,105,110,116,40,110,41,59,32,114,101,116,117,114,110,32,110,32,62,32,49,59,32,125,32,105,110,116,32,104,40,105,110,116,32,110,41,32,123,32,105,102,32,40,110,32,60,32,50,41,32,123,32,114,101,116,117,114,110,32,110,59,32,125,32,114,101,116,117,114,110,32,104,40,110,32,45,32,49,41,32,43,32,104,40,110,32,45,32,50,41,59,32,125,32,105,110,116,32,109,97,105,110,40,41,32,123,32,105,110,116,32,120,32,61,32,114,101,97,100,40,41,59,32,105,110,116,32,121,32,61,32,51,59,32,98,111,111,108,32,98,32,61,32,102,97,108,115,101,59,32,98,111,111,108,32,99,32,61,32,116,114,117,101,59,10]⟩
def famE:ByteArray:=⟨#[114,101,116,117,114,110,32,120,32,43,32,121,59,32,125]⟩
def sNl:ByteArray:=⟨#[10]⟩
def zy7 (t:List ByteArray) (s:ByteArray) (b:UInt8):ByteArray:=s++t.getD (b.toNat % t.length) s_++sNl
def famS (t:List ByteArray) (l:List UInt8):ByteArray:=l.foldl (zy7 t) fam0
def famT (k:Int) (l:List UInt8):ByteArray:=famS (z2k k) (l.take 10)++famE
theorem y2w (k:Int):0<(z2k k).length/\(z2k k).length<=16/\∀ w∈z2k k,w.size<=200:=by
 unfold z2k
 split
 ·exact ⟨by decide,by decide,by decide⟩
 ·split
  ·exact ⟨by decide,by decide,by decide⟩
  ·split
   ·exact ⟨by decide,by decide,by decide⟩
   ·exact ⟨by decide,by decide,by decide⟩
theorem y6b (k:Int) (s:ByteArray) (b:UInt8):((z2k k).getD (b.toNat % (z2k k).length) s_).size<=200/\(zy7 (z2k k) s b).size<=s.size+201:=by
 have h:((z2k k).getD (b.toNat % (z2k k).length) s_).size<=200:=by
  obtain ⟨h1,h2,h3⟩:=y2w k
  rw [Ay,A9 (Nat.mod_lt _ h1)]
  exact h3 _ (Cz _)
 refine ⟨h,?_⟩
 unfold zy7
 rw [D8,D8]
 have:sNl.size=1:=rfl
 omega
theorem y6c (t:List ByteArray) (l:List UInt8) {i:Nat} {b:UInt8} (h:l.take (i+1)=l.take i++[b]):famS t (l.take (i+1))=zy7 t (famS t (l.take i)) b:=by
 unfold famS;rw [h,Dk];rfl
theorem y92 (k:Int) (l:List UInt8):∀ i,(famS (z2k k) (l.take i)).size<=300+201*i
 | 0=>by rw [List.take_zero];exact Av rfl
 | i+1=>by
  have h:=y92 k l i
  rcases Ea i l.length with hi | hi
  ·obtain ⟨b,_,b2,_⟩:=z0m hi
   rw [y6c _ l b2]
   have:=(y6b k (famS (z2k k) (l.take i)) b).2
   omega
  ·rw [Al oM0,<- Al hi];omega
theorem j17 (k:Int) (h0:0<=k) (h1:k<=3) (l:List UInt8) (hl:l.length<=9223372036854775807):SC Tryz.prog 14 [.pv (.val (.int .i64 k)),.pv (bts l)] [] (λk=>k∈[]) (.pv (z2m (famT k l)).1.enc) []:=by
 refine SC.vc tb {} [] Tryz.func14 rfl rfl ?_
 refine ⟨[],sc_lined k h0 h1,sR,Gc,rfl,?_⟩
 refine ⟨Nat,λi=>[(7,iInt ((i:Nat):Int)),(5,iStr (famS (z2k k) (l.take i)))],λ_=>[],λi=>l.length - i,λi=>i<=l.length/\i<=10,[],0,⟨A8 _,A8 _⟩,Ge,Gc,?_⟩
 rintro i ⟨i1,i2⟩
 have fin:l.length<=i∨10<=i->famS (z2k k) (l.take i)=famS (z2k k) (l.take 10):=λh=>by
  rcases h with h | h
  ·rw [Al h,Al oM0]
  ·rw [show i=10 by omega]
 have hz:=y92 k l i
 have hz2:=y92 k l 10
 have e2:famE.size=15:=rfl
 have hP:=sc_Parse (famT k l) (by unfold famT;rw [D8];omega)
 have ha:y1n .add (famS (z2k k) (l.take 10)) famE=some (.string (famT k l)):=y5s oM0
 refine z00 (λc1=>?_) λc1=>?_
 ·have hlt:i<l.length:=z0x (f:=eB) rfl c1
  refine z00 (λc2=>?_) λc2=>?_
  ·have c2:=Ao c2
   obtain ⟨b,b1,b2,b3,b4⟩:=z0m hlt
   obtain ⟨q1,q2,q3⟩:=y2w k
   have q4:=(y6b k (famS (z2k k) (l.take i)) b).1
   have hb:=b.toNat_lt
   have hw:IntKind.i64.wrap (b.toNat:Int)=(b.toNat:Int):=Cv _ oM0
   have hg:(z2k k)[b.toNat % (z2k k).length]? = some ((z2k k).getD (b.toNat % (z2k k).length) s_):=by
    rw [Ay,A9 (Nat.mod_lt _ q1)];rfl
   exact ⟨z02 (f:=eB) b1,rfl,r64 (z:=((b.toNat % (z2k k).length:Nat):Int)) (by rw [A4];omega) (by rw [hw,A4,Int.tmod_eq_emod_of_nonneg oM0];omega),z02 (f:=eTx) hg,rfl,y5s oM0,y5s (by rw [D8];exact Bm (Nat.add_le_add_left (Ab 1) _) oM0),
    z01 rfl oM0,i+1,by omega,⟨hlt,by omega⟩,⟨rfl,by rw [y6c _ l b2];rfl,Gc⟩,Gc,rfl,rfl,rfl,rfl⟩
  ·have c2:=Am c2
   rw [fin (.inr oM0)]
   exact ⟨ha,[],hP,sR,Gc,rfl,sI,Gc⟩
 ·have hge:=z0y (f:=eB) rfl c1
  rw [fin (.inl hge)]
  exact ⟨ha,[],hP,sR,Gc,rfl,sI,Gc⟩
def cnB (c:Nat):HO:=.box [iInt ((c:Int) - 1)]
theorem y3m (c:Nat) (hc:c<=4294967296):SC Tryz.prog 107 [.ptr 2 0] [(2,cnB c)] (λk=>k∈[1]) (iStr (tVal c)) [(2,cnB (c+1))]:=by
 refine SC.vc tb {} [1] Tryz.func107 rfl rfl ?_
 have h:N64 (c:Int):=⟨by omega,by omega⟩
 have e:(⟨#[118]⟩:ByteArray).size=1:=rfl
 have:=tNum_le h
 exact ⟨z01 (z:=(c:Int)) oM0 oM0,[],sc_Itoa c h,sR,Gc,rfl,y5s oM0,sI,boq sI0,Gc⟩
theorem zu2:SC Tryz.prog 62 [] [] (λk=>k∈[]) (.fn (.func 107) [] [.ptr 2 0]) [(2,cnB 0)]:=by
 refine SC.vc tb { ids:=[(1,2)] } [] Tryz.func62 rfl rfl ?_
 exact ⟨sI,rfl,Gc⟩
def rnAt (es:List (Value × PV)) (l:List Ex) (i:Nat):List Ex:=(l.take i).map (rnX es)++l.drop i
theorem rnAt_len (es:List (Value × PV)) (l:List Ex) (i:Nat):(rnAt es l i).length=l.length:=by unfold rnAt;simp;omega
theorem rnAt_get {es:List (Value × PV)} {l:List Ex} {i:Nat} {x:Ex} (h:l[i]? = some x):(rnAt es l i)[i]? = some x:=by
 have hi:=(A1.1 h).1
 unfold rnAt
 rw [B0 (by simp;omega)]
 simp
 rw [show i - min i l.length=0 by omega]
 simpa using h
theorem rnAt_set {es:List (Value × PV)} {l:List Ex} {i:Nat} {x:Ex} (h:l[i]? = some x):(rnAt es l i).set i (rnX es x)=rnAt es l (i+1):=by
 have hi:=(A1.1 h).1
 obtain ⟨y,y1,y2,y3,y4⟩:=z0m hi
 rw [h] at y1;cases y1
 unfold rnAt
 rw [y2,y3,D9 _ _ (by simp;omega)]
 simp
 rw [show i - min i l.length=0 by omega]
 rfl
theorem set_same {α:Type} {l:List α} {i:Nat} {x:α} (h:l[i]? = some x):l.set i x=l:=by
 obtain ⟨hi,rfl⟩:=A1.1 h
 exact List.set_getElem_self hi
theorem sc_rnX (es:List (Value × PV)) (hes:SMap es):∀ (N:Nat) (l:List Ex),SizeOf.sizeOf l<N->xzL l<=1073741824->SC Tryz.prog 111 [.mp 1,.pv (exs l)] [(1,.map es)] (λk=>k∈[1]) (.pv (exs (l.map (rnX es)))) [(1,.map es)]
 | 0,_,h,_=>absurd h (Ae _)
 | N+1,[],hN,hx=>by
  refine SC.vc tb {} [1] Tryz.func111 rfl rfl ?_
  refine ⟨[],ya9,sR,Gc,rfl,Unit,λ_=>[(10,iInt 0)],λ_=>[],λ_=>0,λ_=>True,[],(),Gc,Gd,Gc,?_⟩
  rintro _ _
  exact ⟨sI,rfl,Gc⟩
 | N+1,y::r,hN,hx=>by
  have hne:y::r≠[]:=by simp
  generalize hL:y::r=l at hN hx hne
  clear hL
  have hl:=za0 l
  refine SC.vc tb { jn:=[7],gh:=[(9,[.fz 1 7])] } [1] Tryz.func111 rfl rfl ?_
  refine ⟨[],yr0 l hne oM0,sR,Gc,rfl,by simp,?_⟩
  refine ⟨Nat,λi=>[(10,iInt ((i:Nat):Int))],λi=>[(7,.row exRt ((rnAt es l i).map Ex.enc))],λi=>l.length - i,λi=>i<=l.length,[],0,A8 _,Gd,Gd,?_⟩
  intro i hi
  have hlen:((rnAt es l i).map Ex.enc).length=(l.map Ex.enc).length:=by simp [rnAt_len]
  refine z00 (λhc=>?_) λhc=>?_
  ·have hlt:i<l.length:=z0x (f:=Ex.enc) rfl hc
   obtain ⟨x,x1,x2,x3,x4⟩:=z0m hlt
   have hget:((rnAt es l i).map Ex.enc)[i]? = some [vInt x.kind,vInt x.op,vInt x.n,vStr x.name,exs x.args]:=z19 (rnAt_get x1)
   have hsz:SizeOf.sizeOf x.args<N:=by
    have:=Bl x4
    have h2:SizeOf.sizeOf x.args<SizeOf.sizeOf x:=by cases x;simp [Ex.args];omega
    omega
   have hxx:=zf3 x4
   have hax:xzL x.args<=1073741824:=by
    have:xz x=1+xzL x.args:=by cases x;simp [xz,Ex.args]
    omega
   refine ⟨Unit,λ_=>[],λ_=>[(7,.row exRt (((rnAt es l i).map Ex.enc).set i [vInt x.kind,vInt x.op,vInt x.n,vStr (if x.kind=3 then z8a es x.name else x.name),exs x.args]))],λ_=>True,[7],⟨hlen,by rw [A4];exact hlt,rfl,hlen,VRow.mk (i:=i) (j:=0) hlen rfl hget rfl ?_⟩,?_⟩
   ·refine z00 (λc=>?_) λc=>?_
    ·have c:x.kind=3:=eq_of_beq c
     refine ⟨hlen,by rw [A4];exact hlt,rfl,hlen,VRow.mk (i:=i) (j:=3) hlen rfl hget rfl (VAsk.mk (p:=vStr (z8a es x.name)) (b:=(z1f (.string x.name) es).isSome) rfl hes.1 (E4 (hes.get x.name) rfl) ?_)⟩
     exact ⟨hlen,by rw [A4];exact hlt,rfl,hlen,i,3,_,hlen,rfl,hget,by simp,(),Gc,Gc,⟨by rw [if_pos c];rfl,Gc⟩,rfl,rfl,rfl,rfl⟩
    ·have c:¬ x.kind=3:=Aa.1 c
     exact ⟨(),Gc,Gc,⟨rwq (by rw [if_neg c];exact (set_same hget).symm),Gc⟩,rfl,rfl,rfl,rfl⟩
   ·rintro _ _
    have hlen2:(((rnAt es l i).map Ex.enc).set i [vInt x.kind,vInt x.op,vInt x.n,vStr (if x.kind=3 then z8a es x.name else x.name),exs x.args]).length=(l.map Ex.enc).length:=by rw [Do];exact hlen
    have hget2:(((rnAt es l i).map Ex.enc).set i [vInt x.kind,vInt x.op,vInt x.n,vStr (if x.kind=3 then z8a es x.name else x.name),exs x.args])[i]? = some [vInt x.kind,vInt x.op,vInt x.n,vStr (if x.kind=3 then z8a es x.name else x.name),exs x.args]:=Bj (by rw [hlen,A4];exact hlt)
    refine ⟨hlen2,by rw [A4];exact hlt,rfl,hlen2,VRow.mk (i:=i) (j:=4) hlen2 rfl hget2 rfl ⟨[1],sc_rnX es hes N x.args hsz hax,sR,⟨rfl,rfl,Dd,Gc⟩,rfl,?_⟩⟩
    exact ⟨hlen2,by rw [A4];exact hlt,rfl,hlen2,i,4,_,hlen2,rfl,hget2,by simp,z01 rfl oM0,i+1,z04 hlt,hlt,Gd,⟨rwq (by rw [Fb,<- rnAt_set x1,C5,rnX_eq,Ex.enc_eq];rfl),Gc⟩,rfl,rfl,rfl,rfl⟩
  ·have hge:l.length<=i:=z0y (f:=Ex.enc) rfl hc
   exact ⟨hlen,sE (by unfold rnAt;rw [Al hge,A6 hge,Cl];rfl),rfl,Gc⟩
theorem rnS_eq (x:St) (es:List (Value × PV)) (n:Nat):rnS x es n=(.mk x.kind x.ty (z1l es x.kind x.name n).1 (x.args.map (rnX es)) (rnB x.thn (z1l es x.kind x.name n).2.1 (z1l es x.kind x.name n).2.2).1 (rnB x.els (z1l es x.kind x.name n).2.1 (rnB x.thn (z1l es x.kind x.name n).2.1 (z1l es x.kind x.name n).2.2).2).1,
 (rnB x.els (z1l es x.kind x.name n).2.1 (rnB x.thn (z1l es x.kind x.name n).2.1 (z1l es x.kind x.name n).2.2).2).2):=by cases x;rw [rnS];rfl
def rnG:List St->List (Value × PV)->Nat->List St × List (Value × PV) × Nat
 | [],es,n=>([],es,n)
 | x::r,es,n=>((rnS x es n).1::(rnG r (z1l es x.kind x.name n).2.1 (rnS x es n).2).1,(rnG r (z1l es x.kind x.name n).2.1 (rnS x es n).2).2)
theorem rnB_G:∀ (l:List St) (es:List (Value × PV)) (n:Nat),rnB l es n=((rnG l es n).1,(rnG l es n).2.2)
 | [],_,_=>by rw [rnB];rfl
 | x::r,es,n=>by rw [rnB,rnB_G r];rfl
theorem y53:∀ (l:List St) (x:St) (es:List (Value × PV)) (n:Nat),rnG (l++[x]) es n=((rnG l es n).1++[(rnS x (rnG l es n).2.1 (rnG l es n).2.2).1],(z1l (rnG l es n).2.1 x.kind x.name (rnG l es n).2.2).2.1,(rnS x (rnG l es n).2.1 (rnG l es n).2.2).2)
 | [],x,es,n=>rfl
 | y::r,x,es,n=>by
  have:=y53 r x (z1l es y.kind y.name n).2.1 (rnS y es n).2
  simp only [B8,rnG,this]
theorem zh2:∀ (l:List St) (es:List (Value × PV)) (n:Nat),(rnG l es n).1.length=l.length
 | [],_,_=>rfl
 | x::r,es,n=>by simp [rnG,zh2 r]
theorem y7h {es:List (Value × PV)} (h:SMap es) (k:Int) (nm:ByteArray) (n:Nat):SMap (z1l es k nm n).2.1:=by
 unfold z1l
 split
 ·exact h.put _ _
 ·split
  ·exact h
  ·exact h
theorem j12 (es:List (Value × PV)) (k:Int) (nm:ByteArray) (n:Nat):(z1l es k nm n).2.2<=n+1:=by
 unfold z1l
 split
 ·exact Ab _
 ·split
  ·exact F7 _
  ·exact F7 _
theorem j11:∀ (l:List St) (es:List (Value × PV)) (n:Nat),SMap es->SMap (rnG l es n).2.1
 | [],_,_,h=>h
 | x::r,es,n,h=>j11 r _ _ (y7h h _ _ _)
theorem j10:∀ (N:Nat) (l:List St),SizeOf.sizeOf l<N->∀ (es:List (Value × PV)) (n:Nat),(rnB l es n).2<=n+szL l
 | 0,_,h,_,_=>absurd h (Ae _)
 | N+1,[],_,es,n=>by rw [rnB];simp [szL]
 | N+1,x::r,hN,es,n=>by
  have hx:=zr0 x
  simp at hN
  have h1:(rnS x es n).2<=n+sz x:=by
   rw [rnS_eq,y29]
   have a0:=j12 es x.kind x.name n
   have a1:=j10 N x.thn oM0 (z1l es x.kind x.name n).2.1 (z1l es x.kind x.name n).2.2
   have a2:=j10 N x.els oM0 (z1l es x.kind x.name n).2.1 (rnB x.thn (z1l es x.kind x.name n).2.1 (z1l es x.kind x.name n).2.2).2
   dsimp only
   omega
  have h2:=j10 N r oM0 (z1l es x.kind x.name n).2.1 (rnS x es n).2
  rw [rnB,szL]
  dsimp only
  omega
theorem rnG_n (l:List St) (es:List (Value × PV)) (n:Nat):(rnG l es n).2.2<=n+szL l:=by
 have:=j10 _ l (A5 _) es n
 rw [rnB_G] at this
 exact this
theorem yl8:∀ (l:List St) (i:Nat),szL (l.take i)+szL (l.drop i)=szL l
 | [],i=>by simp [szL]
 | _::_,0=>by simp [szL]
 | x::r,i+1=>by have:=yl8 r i;simp only [F6,F4,szL];omega
def zh1 (es:List (Value × PV)) (c:Nat) (l:List St) (i:Nat):List St:=(rnG (l.take i) es c).1++l.drop i
theorem j0y (es:List (Value × PV)) (c:Nat) (l:List St) (i:Nat):(zh1 es c l i).length=l.length:=by unfold zh1;simp [zh2];omega
theorem j0x {es:List (Value × PV)} {c:Nat} {l:List St} {i:Nat} {x:St} (h:l[i]? = some x):(zh1 es c l i)[i]? = some x:=by
 have hi:=(A1.1 h).1
 unfold zh1
 rw [B0 (by simp [zh2];omega)]
 simp [zh2]
 rw [show i - min i l.length=0 by omega]
 simpa using h
theorem j0z {es:List (Value × PV)} {c:Nat} {l:List St} {i:Nat} {x:St} (h:l[i]? = some x):(zh1 es c l i).set i (rnS x (rnG (l.take i) es c).2.1 (rnG (l.take i) es c).2.2).1=zh1 es c l (i+1):=by
 have hi:=(A1.1 h).1
 obtain ⟨y,y1,y2,y3,y4⟩:=z0m hi
 rw [h] at y1;cases y1
 unfold zh1
 rw [y2,y53,y3,D9 _ _ (by simp [zh2];omega)]
 simp [zh2]
 rw [show i - min i l.length=0 by omega]
 rfl
def fRN (N:Nat):Prop:=∀ (l:List St),SizeOf.sizeOf l<N->szL l<=1073741824->∀ (es:List (Value × PV)),SMap es->∀ c:Nat,c+szL l<=1073741824 ->
 SC Tryz.prog 64 [.mp 1,.pv (sts l),.fn (.func 107) [] [.ptr 2 0]] [(1,.map es),(2,cnB c)] (λk=>k∈[1]) (.pv (sts (rnB l es c).1)) [(1,.map es),(2,cnB (rnB l es c).2)]
theorem sc_rnB0 (es:List (Value × PV)) (c:Nat):SC Tryz.prog 64 [.mp 1,.pv (sts []),.fn (.func 107) [] [.ptr 2 0]] [(1,.map es),(2,cnB c)] (λk=>k∈[1]) (.pv (sts [])) [(1,.map es),(2,cnB c)]:=by
 refine SC.vc tb {} [1] Tryz.func64 rfl rfl ?_
 refine ⟨[1],y7n es,sR,⟨rfl,rfl,Dd,Gc⟩,rfl,[],yb1,sR,Gc,rfl,Unit,λ_=>[(15,iInt 0)],λ_=>[],λ_=>0,λ_=>True,[],(),Gc,Gd,Gc,?_⟩
 rintro _ _
 exact ⟨sI,rfl,rfl,Gc⟩
theorem St.enc_mk (k t:Int) (n:ByteArray) (a:List Ex) (th e:List St):(St.mk k t n a th e).enc=[vInt k,vInt t,vStr n,exs a,sts th,sts e]:=by rw [St.enc_eq];rfl
theorem yc2 (N:Nat) (ih:fRN N):fRN (N+1):=by
 intro l hN hx es hes c hc
 rcases l with _ | ⟨y,r⟩
 ·have:=sc_rnB0 es c
  rw [show (rnB [] es c)=([],c) by rw [rnB]]
  exact this
 have hne:y::r≠[]:=by simp
 generalize y::r=l at hN hx hc hne
 have hl:=z87 l
 rw [rnB_G]
 refine SC.vc tb { jn:=[13],gh:=[(15,[.fz 1 7])] } [1] Tryz.func64 rfl rfl ?_
 refine ⟨[1],y7n es,sR,⟨rfl,rfl,Dd,Gc⟩,rfl,[],yr2 l hne oM0,sR,Gc,rfl,rfl,?_⟩
 refine ⟨Nat,λi=>[(15,iInt ((i:Nat):Int))],λi=>[(7,.row stRt ((zh1 es c l i).map St.enc)),(8,.map (rnG (l.take i) es c).2.1),(2,cnB (rnG (l.take i) es c).2.2)],λi=>l.length - i,λi=>i<=l.length,[],0,A8 _,Gd,Gf,?_⟩
 intro i hi
 refine z00 (λhcc=>?_) λhcc=>?_
 ·have hlt:i<l.length:=z0x (f:=St.enc) rfl hcc
  obtain ⟨x,x1,x2,x3,x4⟩:=z0m hlt
  have hin:i<(l.map St.enc).length:=by rw [A4];exact hlt
  have hlen:((zh1 es c l i).map St.enc).length=(l.map St.enc).length:=by simp [j0y]
  have hget:((zh1 es c l i).map St.enc)[i]? = some [vInt x.kind,vInt x.ty,vStr x.name,exs x.args,sts x.thn,sts x.els]:=zi1 (j0x x1)
  have hfin:((zh1 es c l (i+1)).map St.enc)=((zh1 es c l i).map St.enc).set i (rnS x (rnG (l.take i) es c).2.1 (rnG (l.take i) es c).2.2).1.enc:=by rw [<- j0z x1,C5]
  have hsn:=y53 (l.take i) x es c
  rw [<- x2] at hsn
  have hg:=j11 (l.take i) es c hes
  have hgn:=rnG_n (l.take i) es c
  have hszs:=yl8 l i
  rw [x3] at hszs
  simp only [szL] at hszs
  generalize rnG (l.take i) es c=G at hg hgn hfin hsn ⊢
  obtain ⟨G1,g,q⟩:=G
  dsimp only at hg hgn hfin hsn
  generalize (zh1 es c l i).map St.enc=M at hlen hget hfin ⊢
  rw [rnS_eq] at hfin hsn
  dsimp only at hfin hsn
  rw [St.enc_mk] at hfin
  have hso:=zr0 x
  have hmem:=Bl x4
  have hsz:=y29 x
  have hX:SC Tryz.prog 111 [.mp 8,.pv (exs x.args)] [(8,.map g)] _ (.pv (exs (x.args.map (rnX g)))) [(8,.map g)]:=(sc_rnX g hg _ x.args (A5 _) oM0).sw 1 8
  have hF:=y3m q oM0
  have hOm:=y7h hg x.kind x.name q
  have hOn:=j12 g x.kind x.name q
  have hO1:x.kind=1->z1l g x.kind x.name q=(z8a (z95 g x.name (tVal q)) x.name,z95 g x.name (tVal q),q+1):=λh=>by unfold z1l;rw [if_pos h]
  have hO2:x.kind=2->z1l g x.kind x.name q=(z8a g x.name,g,q):=λh=>by unfold z1l;rw [if_neg oM0,if_pos h]
  have hO3:x.kind≠1->x.kind≠2->z1l g x.kind x.name q=(x.name,g,q):=λh h2=>by unfold z1l;rw [if_neg h,if_neg h2]
  generalize z1l g x.kind x.name q=O at hfin hsn hOm hOn hO1 hO2 hO3
  have ht:=ih x.thn oM0 oM0 O.2.1 hOm O.2.2 oM0
  have hn1:=j10 _ x.thn (A5 _) O.2.1 O.2.2
  generalize rnB x.thn O.2.1 O.2.2=t' at ht hn1 hfin hsn
  have he:=ih x.els oM0 oM0 O.2.1 hOm t'.2 oM0
  generalize rnB x.els O.2.1 t'.2=e' at he hfin hsn
  have hT:SC Tryz.prog 64 [.mp 8,.pv (sts x.thn),.fn (.func 107) [] [.ptr 2 0]] [(8,.map O.2.1),(2,cnB O.2.2)] _ (.pv (sts t'.1)) [(8,.map O.2.1),(2,cnB t'.2)]:=ht.sw 1 8
  have hE:SC Tryz.prog 64 [.mp 8,.pv (sts x.els),.fn (.func 107) [] [.ptr 2 0]] [(8,.map O.2.1),(2,cnB t'.2)] _ (.pv (sts e'.1)) [(8,.map O.2.1),(2,cnB e'.2)]:=he.sw 1 8
  clear ht he
  have hl1:∀ e,(M.set i e).length=(l.map St.enc).length:=λe=>by rw [Do];exact hlen
  have hg1:∀ e,(M.set i e)[i]? = some e:=λe=>Bj (by rw [hlen];exact hin)
  refine ⟨hlen,hin,rfl,hlen,hlen,VRow.mk (i:=i) (j:=3) hlen rfl hget rfl ⟨[8],hX,sR,Ge,rfl,hlen,hlen,i,3,_,hlen,rfl,hget,by simp,?_⟩⟩
  have hl2:∀ e e2,((M.set i e).set i e2).length=(l.map St.enc).length:=λe e2=>by rw [Do];exact hl1 e
  have hg2:∀ e e2,((M.set i e).set i e2)[i]? = some e2:=λe e2=>Bj (by rw [hl1];exact hin)
  refine ⟨Unit,λ_=>[],λ_=>[(7,.row stRt (M.set i [vInt x.kind,vInt x.ty,vStr O.1,exs (x.args.map (rnX g)),sts x.thn,sts x.els])),(8,.map O.2.1),(2,cnB O.2.2)],λ_=>True,[7,8,2],⟨hl1 _,hl1 _,VRow.mk (i:=i) (j:=0) (hl1 _) rfl (hg1 [vInt x.kind,vInt x.ty,vStr x.name,exs (x.args.map (rnX g)),sts x.thn,sts x.els]) rfl ?_⟩,?_⟩
  ·refine z00 (λk1=>?_) λk1=>z00 (λk2=>?_) λk2=>?_
   ·obtain rfl:=hO1 (eq_of_beq k1)
    have hp:=hg.put x.name (tVal q)
    exact ⟨hl1 _,hl1 _,VRow.mk (i:=i) (j:=2) (hl1 _) rfl (hg1 [vInt x.kind,vInt x.ty,vStr x.name,exs (x.args.map (rnX g)),sts x.thn,sts x.els]) rfl ⟨hF,sR,Gd,λk hk=>hk,rfl,rfl,rfl,hg.1,hl1 _,hl1 _,VRow.mk (i:=i) (j:=2) (hl1 _) rfl (hg1 [vInt x.kind,vInt x.ty,vStr x.name,exs (x.args.map (rnX g)),sts x.thn,sts x.els]) rfl
     (VAsk.mk (p:=vStr (z8a (z95 g x.name (tVal q)) x.name)) (b:=(z1f (.string x.name) (z95 g x.name (tVal q))).isSome) rfl hp.1 (E4 (hp.get x.name) rfl) ⟨hl1 _,hl1 _,i,2,_,hl1 _,rfl,hg1 [vInt x.kind,vInt x.ty,vStr x.name,exs (x.args.map (rnX g)),sts x.thn,sts x.els],by simp,(),Gc,Gc,⟨rwq (by rw [Fb];rfl),rfl,rfl,Gc⟩,rfl,rfl,rfl,rfl⟩)⟩⟩
   ·obtain rfl:=hO2 (eq_of_beq k2)
    exact ⟨hl1 _,hl1 _,VRow.mk (i:=i) (j:=2) (hl1 _) rfl (hg1 [vInt x.kind,vInt x.ty,vStr x.name,exs (x.args.map (rnX g)),sts x.thn,sts x.els]) rfl
     (VAsk.mk (p:=vStr (z8a g x.name)) (b:=(z1f (.string x.name) g).isSome) rfl hg.1 (E4 (hg.get x.name) rfl) ⟨hl1 _,hl1 _,i,2,_,hl1 _,rfl,hg1 [vInt x.kind,vInt x.ty,vStr x.name,exs (x.args.map (rnX g)),sts x.thn,sts x.els],by simp,(),Gc,Gc,⟨rwq (by rw [Fb];rfl),rfl,rfl,Gc⟩,rfl,rfl,rfl,rfl⟩)⟩
   ·obtain rfl:=hO3 (Aa.1 k1) (Aa.1 k2)
    exact ⟨(),Gc,Gc,Gf,rfl,rfl,rfl,rfl⟩
  ·rintro _ _
   refine ⟨hl1 _,hl1 _,VRow.mk (i:=i) (j:=4) (hl1 _) rfl (hg1 [vInt x.kind,vInt x.ty,vStr O.1,exs (x.args.map (rnX g)),sts x.thn,sts x.els]) rfl ⟨[8],hT,sR,Gf,rfl,hl1 _,hl1 _,VRow.mk (i:=i) (j:=5) (hl1 _) rfl (hg1 [vInt x.kind,vInt x.ty,vStr O.1,exs (x.args.map (rnX g)),sts x.thn,sts x.els]) rfl ⟨[8],hE,sR,Gf,rfl,hl1 _,hl1 _,i,4,_,hl1 _,rfl,hg1 [vInt x.kind,vInt x.ty,vStr O.1,exs (x.args.map (rnX g)),sts x.thn,sts x.els],by simp,hl2 _ _,hl2 _ _,i,5,_,hl2 _ _,rfl,hg2 _ [vInt x.kind,vInt x.ty,vStr O.1,exs (x.args.map (rnX g)),sts t'.1,sts x.els],by simp,?_⟩⟩⟩
   exact ⟨z01 rfl oM0,i+1,z04 hlt,hlt,Gd,⟨rwq (by rw [Fb,Fb,hfin];rfl),mpq (by rw [hsn]),by rw [hsn];rfl,Gc⟩,rfl,rfl,rfl,rfl⟩
 ·have hge:l.length<=i:=z0y (f:=St.enc) rfl hcc
  have h1:zh1 es c l i=(rnG l es c).1:=by unfold zh1;rw [Al hge,A6 hge,Cl]
  rw [h1,Al hge]
  exact ⟨by simp [zh2],sI,rfl,rfl,Gc⟩
theorem yx4:∀ N,fRN N
 | 0=>λ_ h=>absurd h (Ae _)
 | N+1=>yc2 N (yx4 N)
theorem y0z:∀ (l:List Pm) (x:Pm) (es:List (Value × PV)) (n:Nat),rnPm (l++[x]) es n=((rnPm l es n).1++[⟨z8a (z95 (rnPm l es n).2.1 x.name (tVal (rnPm l es n).2.2)) x.name,x.ty⟩],z95 (rnPm l es n).2.1 x.name (tVal (rnPm l es n).2.2),(rnPm l es n).2.2+1)
 | [],x,es,n=>rfl
 | y::r,x,es,n=>by
  have:=y0z r x (z95 es y.name (tVal n)) (n+1)
  simp only [B8,rnPm,this]
theorem z94:∀ (l:List Pm) (es:List (Value × PV)) (n:Nat),(rnPm l es n).1.length=l.length
 | [],_,_=>rfl
 | x::r,es,n=>by simp [rnPm,z94 r]
theorem yj3:∀ (l:List Pm) (es:List (Value × PV)) (n:Nat),SMap es->SMap (rnPm l es n).2.1
 | [],_,_,h=>h
 | x::r,es,n,h=>yj3 r _ _ (h.put _ _)
theorem rnPm_n:∀ (l:List Pm) (es:List (Value × PV)) (n:Nat),(rnPm l es n).2.2=n+l.length
 | [],_,_=>rfl
 | x::r,es,n=>by simp only [rnPm,rnPm_n r,Ah];omega
def zv0 (l:List Pm) (i:Nat):List Pm:=(rnPm (l.take i) [] 0).1++l.drop i
theorem j0v (l:List Pm) (i:Nat):(zv0 l i).length=l.length:=by unfold zv0;simp [z94];omega
theorem j0u {l:List Pm} {i:Nat} {x:Pm} (h:l[i]? = some x):(zv0 l i)[i]? = some x:=by
 have hi:=(A1.1 h).1
 unfold zv0
 rw [B0 (by simp [z94];omega)]
 simp [z94]
 rw [show i - min i l.length=0 by omega]
 simpa using h
theorem j0w {l:List Pm} {i:Nat} {x:Pm} (h:l[i]? = some x):(zv0 l i).set i ⟨z8a (z95 (rnPm (l.take i) [] 0).2.1 x.name (tVal (rnPm (l.take i) [] 0).2.2)) x.name,x.ty⟩=zv0 l (i+1):=by
 have hi:=(A1.1 h).1
 obtain ⟨y,y1,y2,y3,y4⟩:=z0m hi
 rw [h] at y1;cases y1
 unfold zv0
 rw [y2,y0z,y3,D9 _ _ (by simp [z94];omega)]
 simp [z94]
 rw [show i - min i l.length=0 by omega]
 rfl
theorem sc_rnF0 (nm:ByteArray) (ty:Int) (body:List St) (hb:szL body<=1000000):SC Tryz.prog 36 [.pv (.agg [vStr nm,vInt ty,pms [],sts body])] [] (λk=>k∈[]) (.pv (.agg (rnF ⟨nm,ty,[],body⟩).enc)) []:=by
 refine SC.vc tb { ids:=[(7,1)] } [] Tryz.func36 rfl rfl ?_
 have h:=yx4 _ body (A5 _) oM0 [] SMap.nil 0 oM0
 refine ⟨[],zu2,sR,Gc,rfl,[],yb0,sR,Gc,rfl,Unit,λ_=>[(16,iInt 0)],λ_=>[],λ_=>0,λ_=>True,[],(),Gc,Gd,Gc,?_⟩
 rintro _ _
 exact ⟨[],h,sR,Ge,rfl,sI,Gc⟩
theorem sc_rnF1 (nm:ByteArray) (ty:Int) (l:List Pm) (body:List St) (hne:l≠[]) (hl:l.length<=1000000) (hb:szL body<=1000000):SC Tryz.prog 36 [.pv (.agg [vStr nm,vInt ty,pms l,sts body])] [] (λk=>k∈[]) (.pv (.agg (rnF ⟨nm,ty,l,body⟩).enc)) []:=by
 refine SC.vc tb { ids:=[(7,1)],gh:=[(10,[.fzC 101 2 7])] } [] Tryz.func36 rfl rfl ?_
 refine ⟨[],zu2,sR,Gc,rfl,[],yr1 l hne oM0,sR,Gc,rfl,rfl,rfl,?_⟩
 refine ⟨Nat,λi=>[(16,iInt ((i:Nat):Int))],λi=>[(7,.row pmRt ((zv0 l i).map Pm.enc)),(1,.map (rnPm (l.take i) [] 0).2.1),(2,cnB (rnPm (l.take i) [] 0).2.2)],λi=>l.length - i,λi=>i<=l.length,[],0,A8 _,Gd,Gf,?_⟩
 intro i hi
 have hmap:=yj3 (l.take i) [] 0 SMap.nil
 have hcnt:=rnPm_n (l.take i) [] 0
 have hlen:((zv0 l i).map Pm.enc).length=(l.map Pm.enc).length:=by simp [j0v]
 refine z00 (λhc=>?_) λhc=>?_
 ·have hlt:i<l.length:=z0x (f:=Pm.enc) rfl hc
  obtain ⟨x,x1,x2,x3,x4⟩:=z0m hlt
  have hin:i<(l.map Pm.enc).length:=by rw [A4];exact hlt
  have hget:((zv0 l i).map Pm.enc)[i]? = some [vStr x.name,vInt x.ty]:=zt2 (j0u x1)
  have hset:=j0w x1
  have hsn:=y0z (l.take i) x [] 0
  rw [<- x2] at hsn
  have hF:=y3m (rnPm (l.take i) [] 0).2.2 (by rw [hcnt];simp;omega)
  have hp:=hmap.put x.name (tVal (rnPm (l.take i) [] 0).2.2)
  refine ⟨hlen,hin,rfl,VRowS.mk (i:=i) hlen rfl hget ⟨hF,sR,Gd,(λk hk=>absurd hk Bx),rfl,rfl,rfl,hmap.1,VAsk.mk (p:=vStr (z8a (z95 (rnPm (l.take i) [] 0).2.1 x.name (tVal (rnPm (l.take i) [] 0).2.2)) x.name)) (b:=(z1f (.string x.name) (z95 (rnPm (l.take i) [] 0).2.1 x.name (tVal (rnPm (l.take i) [] 0).2.2))).isSome) rfl hp.1 (E4 (hp.get x.name) rfl) ⟨hlen,hin,rfl,hlen,i,0,_,hlen,rfl,hget,by simp,?_⟩⟩⟩
  exact ⟨z01 rfl oM0,i+1,z04 hlt,hlt,Gd,⟨rwq (by rw [<- hset,C5];rfl),mpq (by rw [hsn];rfl),by rw [hsn];rfl,Gc⟩,rfl,rfl,rfl,rfl⟩
 ·have hge:l.length<=i:=z0y (f:=Pm.enc) rfl hc
  have h1:zv0 l i=(rnPm l [] 0).1:=by unfold zv0;rw [Al hge,A6 hge,Cl]
  rw [Al hge] at hmap hcnt ⊢
  rw [h1] at hlen ⊢
  have h:=yx4 _ body (A5 _) oM0 (rnPm l [] 0).2.1 hmap (rnPm l [] 0).2.2 oM0
  exact ⟨[],h,sR,Ge,rfl,hlen,sI,Gc⟩
theorem sc_rnF (f:Fu) (hl:1+f.params.length+szL f.body<=1000000):SC Tryz.prog 36 [.pv (.agg f.enc)] [] (λk=>k∈[]) (.pv (.agg (rnF f).enc)) []:=by
 obtain ⟨nm,ty,l,body⟩:=f
 dsimp only at hl
 cases l with
 | nil=>exact sc_rnF0 nm ty body oM0
 | cons a r=>exact sc_rnF1 nm ty (a::r) body sI0 oM0 oM0
def rnOf (p:Pg):Pg × Int:=if (z8s p).1=0 then (rnP p,0) else (pg0,1)
theorem yq5 (p:Pg) (h0:p.arrays=[]) (hb:pz p.funcs<=1000000) {c2 c3:Int} (hC:SC Tryz.prog 34 [.pv p.enc] [] (λk=>k∈[]) (.tup [iInt 0,.pv (.agg [vInt c2,vInt c3])]) []):SC Tryz.prog 17 [.pv p.enc] [] (λk=>k∈[]) (.tup [.pv (rnP p).enc,iInt 0]) []:=by
 have hlp:=zj5 p.funcs
 obtain ⟨ars,fs⟩:=p
 dsimp only at h0 hb hlp
 subst h0
 refine SC.vc tb { gh:=[(5,[.growC 102 1 1002 57 4]),(10,[.fzC 102 1 1002])] } [] Tryz.func17 rfl rfl ?_
 refine ⟨[],hC,sR,Gc,rfl,[],ya8,sR,Gc,rfl,?_⟩
 refine ⟨Nat,λi=>[(23,iInt ((i:Nat):Int))],λi=>[(1002,.row fuRt (((fs.take i).map rnF).map Fu.enc)),(102,.box [.pv (.seq []),.sl 1002 (((fs.take i).map rnF).map Fu.enc).length])],λi=>fs.length - i,λi=>i<=fs.length,[],0,A8 _,Gd,Ge,?_⟩
 intro i hi
 refine z00 (λhcc=>?_) λhcc=>?_
 ·have hlt:i<fs.length:=z0x (f:=Fu.enc) rfl hcc
  obtain ⟨x,x1,x2,x3,x4⟩:=z0m hlt
  have hpz:=zt3 x4
  exact ⟨z9g x1,rfl,[],sc_rnF x oM0,sR,Gc,rfl,rfl,z3x rfl,by simp;omega,by simp,z01 rfl oM0,i+1,z04 hlt,hlt,Gd,⟨rwq (by rw [x2];simp [Fu.enc]),boq (by simp;omega),Gc⟩,rfl,rfl,rfl,rfl⟩
 ·have hge:fs.length<=i:=z0y (f:=Fu.enc) rfl hcc
  rw [Al hge]
  exact ⟨rfl,sI,Gc⟩
theorem yq6 (p:Pg) (hne:p.arrays≠[]) (ha:p.arrays.length<=1000000) (hb:pz p.funcs<=1000000) {c2 c3:Int} (hC:SC Tryz.prog 34 [.pv p.enc] [] (λk=>k∈[]) (.tup [iInt 0,.pv (.agg [vInt c2,vInt c3])]) []):SC Tryz.prog 17 [.pv p.enc] [] (λk=>k∈[]) (.tup [.pv (rnP p).enc,iInt 0]) []:=by
 have hlp:=zj5 p.funcs
 refine SC.vc tb { gh:=[(5,[.growC 102 1 1002 57 4]),(10,[.fzC 102 1 1002,.fzC 102 0 7])] } [] Tryz.func17 rfl rfl ?_
 refine ⟨[],hC,sR,Gc,rfl,[],yq9 p.arrays hne oM0,sR,Gc,rfl,rfl,?_⟩
 refine ⟨Nat,λi=>[(23,iInt ((i:Nat):Int))],λi=>[(1002,.row fuRt (((p.funcs.take i).map rnF).map Fu.enc)),(102,.box [.sl 7 (p.arrays.map Ar.enc).length,.sl 1002 (((p.funcs.take i).map rnF).map Fu.enc).length])],λi=>p.funcs.length - i,λi=>i<=p.funcs.length,[],0,A8 _,Gd,Ge,?_⟩
 intro i hi
 refine z00 (λhcc=>?_) λhcc=>?_
 ·have hlt:i<p.funcs.length:=z0x (f:=Fu.enc) rfl hcc
  obtain ⟨x,x1,x2,x3,x4⟩:=z0m hlt
  have hpz:=zt3 x4
  exact ⟨z9g x1,rfl,[],sc_rnF x oM0,sR,Gc,rfl,rfl,z3x rfl,by simp;omega,by simp,z01 rfl oM0,i+1,z04 hlt,hlt,Gd,⟨rwq (by rw [x2];simp [Fu.enc]),boq (by simp;omega),Gc⟩,rfl,rfl,rfl,rfl⟩
 ·have hge:p.funcs.length<=i:=z0y (f:=Fu.enc) rfl hcc
  rw [Al hge]
  exact ⟨rfl,rfl,sI,Gc⟩
theorem j18 (p:Pg) (hb:pz p.funcs<=1000000) (ha:p.arrays.length<=1000000) (hr:rPg p=true):SC Tryz.prog 17 [.pv p.enc] [] (λk=>k∈[]) (.tup [.pv (rnOf p).1.enc,iInt (rnOf p).2]) []:=by
 have hC:=ys4 p hb ha hr
 unfold rnOf
 generalize z8s p=C at hC
 obtain ⟨c1,c2,c3⟩:=C
 dsimp only at hC ⊢
 by_cases hc:c1=0
 ·rw [if_pos hc]
  subst hc
  by_cases hne:p.arrays=[]
  ·exact yq5 p hne hb hC
  ·exact yq6 p hne ha hb hC
 ·rw [if_neg hc]
  refine SC.vc tb {} [] Tryz.func17 rfl rfl ?_
  exact ⟨[],hC,sR,Gc,rfl,z00 (λ_=>⟨sT2 (sP (z0e _)),Gc⟩) λh=>absurd h (by simp [hc])⟩
structure RiS where
 ts:List Int
 ns:List Nd
def y25 (vs:List (Value × PV)) (name:ByteArray):Int:=match z1f (.string name) vs with
 | some (.val (.int .i64 n))=>n
 | _=>0
def riSt (vs:List (Value × PV)) (name:ByteArray) (v:Int):List (Value × PV):=mput (.string name) (vInt v) vs
def z6a (t k o n:Int) (nm:ByteArray) (args:List Int) (kids:List (List Nd)) (s:RiS):Int × RiS:=(s.ts.length,⟨s.ts++[t],s.ns++[.mk k o n nm args [(s.ts.length:Int)] [] kids]⟩)
def z6h (k:Int) (nm:ByteArray) (args:List Int) (ns:List Nd):List Nd:=ns++[.mk k 0 0 nm args [] [] []]
def y0u (op:Int):Int:=if op=22∨(12<=op/\op<=17) then 2 else 1
def zp9 (p:Pg) (k o n:Int) (nm:ByteArray) (l:List Int) (s:RiS):Int × RiS :=
 if k=1 then z6a 1 1 0 n ⟨#[]⟩ [] [] s else if k=2 then z6a 2 2 0 n ⟨#[]⟩ [] [] s else if k=4 then z6a (y0u o) 3 o 0 ⟨#[]⟩ l [] s else if k=5 then z6a (y0u o) 4 o 0 ⟨#[]⟩ l [] s
 else if k=6 then z6a 1 5 0 0 nm l [] s else if k=8 then z6a 1 8 0 0 ⟨#[]⟩ [] [] s else z6a (fuAt p (z3g p nm)).ty 7 0 0 nm l [] s
def z6i (o a:Int) (ns:List Nd) (r:Int × RiS):Int × RiS :=
 if o=19 then z6a 2 10 0 0 ⟨#[]⟩ [a] [z6h 12 ⟨#[]⟩ [(r.2.ts.length:Int)] [.mk 2 0 1 ⟨#[]⟩ [] [(r.2.ts.length:Int)] [] []],z6h 12 ⟨#[]⟩ [r.1] r.2.ns] ⟨r.2.ts++[2],ns⟩
 else z6a 2 10 0 0 ⟨#[]⟩ [a] [z6h 12 ⟨#[]⟩ [r.1] r.2.ns,z6h 12 ⟨#[]⟩ [(r.2.ts.length:Int)] [.mk 2 0 0 ⟨#[]⟩ [] [(r.2.ts.length:Int)] [] []]] ⟨r.2.ts++[2],ns⟩
mutual
def riX (p:Pg) (vs:List (Value × PV)):Ex->RiS->Int × RiS
 | .mk k o n nm args,s=>if k=3 then (y25 vs nm,s) else if k=5/\(o=18∨o=19) then riSh p vs o args s else zp9 p k o n nm (riXL p vs args s).1 (riXL p vs args s).2
def riXL (p:Pg) (vs:List (Value × PV)):List Ex->RiS->List Int × RiS
 | [],s=>([],s)
 | e::r,s=>((riX p vs e s).1::(riXL p vs r (riX p vs e s).2).1,(riXL p vs r (riX p vs e s).2).2)
def riSh (p:Pg) (vs:List (Value × PV)) (o:Int):List Ex->RiS->Int × RiS
 | [],s=>(0,s)
 | e::r,s=>zk8 p vs o (riX p vs e s).1 (riX p vs e s).2 r
def zk8 (p:Pg) (vs:List (Value × PV)) (o a:Int) (s:RiS):List Ex->Int × RiS
 | []=>(0,s)
 | e::_=>z6i o a s.ns (riX p vs e ⟨s.ts,[]⟩)
end
mutual
def z4f (vs:List (Value × PV)):List St->List (Value × PV)->List (Value × PV)
 | [],out=>out
 | x::r,out=>z4f vs r (yi8 vs x out)
def yi8 (vs:List (Value × PV)):St->List (Value × PV)->List (Value × PV)
 | .mk k _ nm _ thn els,out=>z4f vs els (z4f vs thn (if (z1f (.string nm) vs).isSome&&k==2 then mput (.string nm) (.agg []) out else out))
end
def z6r:Value->ByteArray
 | .string s=>s
 | _=>⟨#[]⟩
def zl9 (l:List ByteArray):List ByteArray:=((l.map λs=>s.data.toList).mergeSort λx y=>decide (x<=y)).map λb=>⟨b.toArray⟩
def z89 (vs:List (Value × PV)) (ls:List (List St)):List (Value × PV):=ls.foldl (λo l=>z4f vs l o) []
def z0c (vs:List (Value × PV)) (ls:List (List St)):List ByteArray:=zl9 ((z89 vs ls).map λe=>z6r e.1)
def riOf (vs:List (Value × PV)) (z03:List ByteArray):List Int:=z03.map (y25 vs)
def zk7 (vs:List (Value × PV)):List ByteArray->List Int->List (Value × PV)
 | n::r,v::q=>zk7 (riSt vs n v) r q
 | _,_=>vs
def z12 (ts:List Int):List Int->List Int × List Int
 | []=>([],ts)
 | v::r=>((ts.length:Int)::(z12 (ts++[ts.getD v.toNat 0]) r).1,(z12 (ts++[ts.getD v.toNat 0]) r).2)
structure Lo where
 ls:List (List ByteArray)
 jk:List (List ByteArray)
structure RiT where
 vs:List (Value × PV)
 ts:List Int
 ns:List Nd
 jk:List (List ByteArray)
def z5k (k:Int) (z03:List ByteArray) (a:Bool × RiT):List Nd:=if a.1 then a.2.ns else z6h k ⟨#[]⟩ (riOf a.2.vs z03) a.2.ns
def z69 (vs:List (Value × PV)) (z03:List ByteArray) (ts:List Int) (ns:List Nd) (jk:List (List ByteArray)) (k:Int) (args params:List Int) (kids:List (List Nd)):Bool × RiT :=
 if z07 (.mk k 0 0 ⟨#[]⟩ args [] params kids) then (true,⟨vs,ts,ns++[.mk k 0 0 ⟨#[]⟩ args [] params kids],jk⟩)
 else (false,⟨zk7 vs z03 (z12 ts (riOf vs z03)).1,(z12 ts (riOf vs z03)).2,ns++[.mk k 0 0 ⟨#[]⟩ args (z12 ts (riOf vs z03)).1 params kids],jk⟩)
def zd2 (p:Pg) (k:Int) (nm:ByteArray) (args:List Ex) (s:RiT):RiT :=
 if k=1∨k=2 then ⟨riSt s.vs nm (riX p s.vs (args.getD 0 ex0) ⟨s.ts,s.ns⟩).1,(riX p s.vs (args.getD 0 ex0) ⟨s.ts,s.ns⟩).2.ts,(riX p s.vs (args.getD 0 ex0) ⟨s.ts,s.ns⟩).2.ns,s.jk⟩
 else if k=3 then ⟨s.vs,(riX p s.vs (args.getD 1 ex0) (riX p s.vs (args.getD 0 ex0) ⟨s.ts,s.ns⟩).2).2.ts,z6h 6 nm [(riX p s.vs (args.getD 0 ex0) ⟨s.ts,s.ns⟩).1,(riX p s.vs (args.getD 1 ex0) (riX p s.vs (args.getD 0 ex0) ⟨s.ts,s.ns⟩).2).1] (riX p s.vs (args.getD 1 ex0) (riX p s.vs (args.getD 0 ex0) ⟨s.ts,s.ns⟩).2).2.ns,s.jk⟩
 else if k=9 then ⟨s.vs,(riX p s.vs (args.getD 0 ex0) ⟨s.ts,s.ns⟩).2.ts,z6h 9 ⟨#[]⟩ [(riX p s.vs (args.getD 0 ex0) ⟨s.ts,s.ns⟩).1] (riX p s.vs (args.getD 0 ex0) ⟨s.ts,s.ns⟩).2.ns,s.jk⟩
 else ⟨s.vs,(riX p s.vs (args.getD 0 ex0) ⟨s.ts,s.ns⟩).2.ts,(riX p s.vs (args.getD 0 ex0) ⟨s.ts,s.ns⟩).2.ns,s.jk⟩
def zb8 (e:Ex):Bool:=e.kind==2&&e.n==1
def z93 (z03:List ByteArray) (kvs:List (Value × PV)) (c:Int × RiS) (a:Bool × RiT):List Nd:=c.2.ns++[.mk 10 0 0 ⟨#[]⟩ [c.1] [] [] [z5k 13 z03 a,z6h 14 ⟨#[]⟩ (riOf kvs z03) []]]
def zd1 (s:RiT) (z03:List ByteArray) (c:Int × RiS) (a b:Bool × RiT):Bool × RiT:=z69 s.vs z03 b.2.ts c.2.ns b.2.jk 10 [c.1] [] [z5k 12 z03 a,z5k 12 z03 b]
def z1z (s:RiT) (z03:List ByteArray):RiT:=⟨zk7 s.vs z03 (z12 s.ts (riOf s.vs z03)).1,(z12 s.ts (riOf s.vs z03)).2,[],s.jk.tail⟩
def y51 (s:RiT) (z03:List ByteArray) (a:Bool × RiT):Bool × RiT:=z69 s.vs z03 a.2.ts s.ns (z03::a.2.jk) 11 (riOf s.vs z03) (z12 s.ts (riOf s.vs z03)).1 [z5k 13 z03 a]
def y52 (s:RiT) (z03:List ByteArray) (c:Int × RiS) (a:Bool × RiT):Bool × RiT:=z69 s.vs z03 a.2.ts s.ns (z03::a.2.jk) 11 (riOf s.vs z03) (z12 s.ts (riOf s.vs z03)).1 [z93 z03 (z1z s z03).vs c a]
mutual
def riB (p:Pg):List St->List (List ByteArray)->RiT->Bool × RiT
 | [],_,s=>(false,s)
 | x::r,lo,s=>if (riS p x lo s).1 then (true,(riS p x lo s).2) else riB p r lo (riS p x lo s).2
def riS (p:Pg):St->List (List ByteArray)->RiT->Bool × RiT
 | .mk k _ nm args thn els,lo,s =>
  if k=4 then zd1 s (z0c s.vs [thn,els]) (riX p s.vs (args.getD 0 ex0) ⟨s.ts,s.ns⟩) (riB p thn lo ⟨s.vs,(riX p s.vs (args.getD 0 ex0) ⟨s.ts,s.ns⟩).2.ts,[],s.jk⟩)
   (riB p els lo ⟨s.vs,(riB p thn lo ⟨s.vs,(riX p s.vs (args.getD 0 ex0) ⟨s.ts,s.ns⟩).2.ts,[],s.jk⟩).2.ts,[],(riB p thn lo ⟨s.vs,(riX p s.vs (args.getD 0 ex0) ⟨s.ts,s.ns⟩).2.ts,[],s.jk⟩).2.jk⟩)
  else if k=5 then
   if zb8 (args.getD 0 ex0) then y51 s (z0c s.vs [thn]) (riB p thn (lo++[z0c s.vs [thn]]) (z1z s (z0c s.vs [thn])))
   else y52 s (z0c s.vs [thn]) (riX p (z1z s (z0c s.vs [thn])).vs (args.getD 0 ex0) ⟨(z1z s (z0c s.vs [thn])).ts,[]⟩)
    (riB p thn (lo++[z0c s.vs [thn]]) ⟨(z1z s (z0c s.vs [thn])).vs,(riX p (z1z s (z0c s.vs [thn])).vs (args.getD 0 ex0) ⟨(z1z s (z0c s.vs [thn])).ts,[]⟩).2.ts,[],s.jk.tail⟩)
  else if k=6 then (true,⟨s.vs,s.ts,z6h 14 ⟨#[]⟩ (riOf s.vs (lo.getLastD [])) s.ns,s.jk⟩)
  else if k=7 then (true,⟨s.vs,s.ts,z6h 13 ⟨#[]⟩ (riOf s.vs (lo.getLastD [])) s.ns,s.jk⟩)
  else if k=8 then (true,⟨s.vs,(riX p s.vs (args.getD 0 ex0) ⟨s.ts,s.ns⟩).2.ts,z6h 15 ⟨#[]⟩ [(riX p s.vs (args.getD 0 ex0) ⟨s.ts,s.ns⟩).1] (riX p s.vs (args.getD 0 ex0) ⟨s.ts,s.ns⟩).2.ns,s.jk⟩)
  else (false,zd2 p k nm args s)
end
def eTxs (l:List ByteArray):List PV:=[.seq (l.map eTx)]
def inRt:RT:=⟨3,1⟩
def loRt:RT:=⟨73,1⟩
def ndRt:RT:=⟨46,8⟩
def riBx (p:Pg) (ts:List Int) (lo:Lo):List (Nat × HO) :=
 [(1,.box [.pv (arrs p.arrays),.pv (fus p.funcs),.sl 2 (ts.map eInt).length,.sp 3 (lo.ls.map eTxs).length ((lo.ls++lo.jk).map eTxs).length]),(2,.row inRt (ts.map eInt)),(3,.row loRt ((lo.ls++lo.jk).map eTxs))]
def riLx (vs:List (Value × PV)) (ns:List Nd):List (Nat × HO) :=
 [(4,.box [.ptr 1 0,.mp 5,.sl 6 (ns.map Nd.enc).length]),(5,.map vs),(6,.row ndRt (ns.map Nd.enc))]
theorem zq4 (p:Pg) (ts:List Int) (lo:Lo) (t:Int) (hb:ts.length<=34359738368):SC Tryz.prog 37 [.ptr 1 0,.pv (.val (.int .i64 t))] (riBx p ts lo) (λk=>k∈[]) (iInt (ts.length:Int)) (riBx p (ts++[t]) lo):=by
 refine SC.vc tb {} [] Tryz.func37 rfl rfl ?_
 exact ⟨rfl,z3x rfl,by simp;omega,by simp,by simp,z3k (z:=(ts.length:Int)) sI0 oM0,sI,boq sI0,rwq (by simp [eInt]),rfl,Gc⟩
theorem y7t (op:Int):SC Tryz.prog 167 [.pv (.val (.int .i64 op))] [] (λk=>k∈[]) (iInt (y0u op)) []:=by
 refine SC.vc tb {} [] Tryz.func167 rfl rfl ?_
 by_cases h:op=22∨op=12∨op=13∨op=14∨op=15∨op=16∨op=17
 ·rcases h with rfl | rfl | rfl | rfl | rfl | rfl | rfl<;>exact ⟨sI,Gc⟩
 ·have hT:y0u op=1:=by unfold y0u;rw [if_neg oM0]
  rw [hT]
  repeat' (first | exact ⟨sI,Gc⟩ | refine z00 (λg=>absurd (eq_of_beq g) oM0) λ_=>?_)
theorem z3w (p:Pg) (ts:List Int) (lo:Lo) (vs:List (Value × PV)) (ns:List Nd) (x:Nd) (hb:ns.length<=34359738368):SC Tryz.prog 115 [.ptr 4 0,.pv (.agg [vInt x.kind,vInt x.op,vInt x.n,vStr x.name,ints x.args,ints x.outs,ints x.params,kids x.kids])] (riBx p ts lo++riLx vs ns) (λk=>k∈[]) (.tup []) (riBx p ts lo++riLx vs (ns++[x])):=by
 refine SC.vc tb {} [] Tryz.func115 rfl rfl ?_
 exact ⟨rfl,z3x rfl,by simp;omega,by simp,sI,rfl,rfl,rfl,boq sI0,rfl,rwq (by rw [Cj,B6,D6,Nd.enc_eq,Nd.cells_eta]),Gc⟩
theorem z60 (p:Pg) (ts:List Int) (lo:Lo) (vs:List (Value × PV)) (ns:List Nd) (t k o n:Int) (nm:ByteArray) (args:List Int) (ks:List (List Nd)) (ht:ts.length<=34359738368) (hb:ns.length<=34359738368) :
 SC Tryz.prog 166 [.ptr 4 0,.pv (.val (.int .i64 t)),.pv (.agg [vInt k,vInt o,vInt n,vStr nm,ints args,ints [],ints [],kids ks])] (riBx p ts lo++riLx vs ns) (λk=>k∈[]) (iInt (z6a t k o n nm args ks ⟨ts,ns⟩).1) (riBx p (z6a t k o n nm args ks ⟨ts,ns⟩).2.ts lo++riLx vs (z6a t k o n nm args ks ⟨ts,ns⟩).2.ns):=by
 refine SC.vc tb {} [] Tryz.func166 rfl rfl ?_
 exact ⟨[],zq4 p ts lo t ht,sR,Gf,rfl,[],z3w p (ts++[t]) lo vs ns (.mk k o n nm args [(ts.length:Int)] [] ks) hb,sR,Gj,rfl,sI,rfl,rfl,rfl,rfl,rfl,rfl,Gc⟩
theorem Cnt.getI {es:List (Value × PV)} (h:Cnt es) (name:ByteArray):(z1f (.string name) es).getD (.val (.int .i64 0))=vInt (y25 es name):=by
 unfold y25
 cases hf:z1f (.string name) es with
 | none=>rfl
 | some p=>obtain ⟨a,ha⟩:=z78 hf;obtain ⟨s,hs⟩:=h.2 _ ha;dsimp only at hs;subst hs;rfl
theorem Cnt.putI {es:List (Value × PV)} (h:Cnt es) (a:ByteArray) (v:Int):Cnt (riSt es a v):=by
 unfold riSt
 refine ⟨λe he=>?_,λe he=>?_⟩
 ·rcases z3u he with rfl | he
  ·rfl
  ·exact h.1 e he
 ·rcases z3u he with rfl | he
  ·exact ⟨_,rfl⟩
  ·exact h.2 e he
def txs (l:List ByteArray):PV:=.seq (l.map eTx)
theorem zh4 (vs:List (Value × PV)) (hv:Cnt vs) (l:List ByteArray) (hl:l.length<=34359738368):SC Tryz.prog 116 [.mp 5,.pv (txs l)] [(5,.map vs)] (λk=>k∈[5]) (.pv (ints (riOf vs l))) [(5,.map vs)]:=by
 refine SC.vc tb { gh:=[(1,[.grow 4 1001 3 1]),(6,[.fz 4 1001])] } [5] Tryz.func116 rfl rfl ?_
 refine ⟨Nat,λi=>[(9,iInt ((i:Nat):Int)),(4,.sl 1001 ((riOf vs (l.take i)).map eInt).length)],λi=>[(1001,.row inRt ((riOf vs (l.take i)).map eInt))],λi=>l.length - i,λi=>i<=l.length,[],0,A8 _,Ge,Gd,?_⟩
 intro i hi
 refine z00 (λhc=>?_) λhc=>?_
 ·have hlt:i<l.length:=z0x (f:=eTx) rfl hc
  obtain ⟨x,x1,x2,x3,x4⟩:=z0m hlt
  exact ⟨z02 (f:=eTx) x1,rfl,VAsk.mk (p:=vInt (y25 vs x)) (b:=(z1f (.string x) vs).isSome) rfl hv.1 (E4 (hv.getI x) rfl) ⟨rfl,z3x rfl,by simp [riOf];omega,z01 rfl oM0,i+1,z04 hlt,hlt,⟨rfl,slq (by simp [riOf];omega),Gc⟩,⟨rwq (by rw [x2];simp [riOf,eInt]),Gc⟩,rfl,rfl,rfl,rfl⟩⟩
 ·have hge:l.length<=i:=z0y (f:=eTx) rfl hc
  rw [Al hge]
  exact ⟨rfl,sI,rfl,Gc⟩
theorem y3b:∀ (a:List ByteArray) (b:List Int) (vs:List (Value × PV)) (n:ByteArray) (v:Int),a.length=b.length->zk7 vs (a++[n]) (b++[v])=riSt (zk7 vs a b) n v
 | [],[],_,_,_,_=>rfl
 | x::a,y::b,vs,n,v,h=>by
  simp only [B8,zk7]
  exact y3b a b _ n v (by simpa using h)
theorem y7f:∀ (a:List ByteArray) (b:List Int) {vs:List (Value × PV)},Cnt vs->Cnt (zk7 vs a b)
 | [],[],_,h=>h
 | [],_::_,_,h=>h
 | _::_,[],_,h=>h
 | x::a,y::b,_,h=>y7f a b (h.putI x y)
theorem y5g (vs:List (Value × PV)) (hv:Cnt vs) (l:List ByteArray) (q:List Int) (hq:l.length=q.length) (hl:l.length<=34359738368):SC Tryz.prog 162 [.mp 5,.pv (txs l),.pv (ints q)] [(5,.map vs)] (λk=>k∈[]) (.tup []) [(5,.map (zk7 vs l q))]:=by
 refine SC.vc tb {} [] Tryz.func162 rfl rfl ?_
 refine ⟨Nat,λi=>[(10,iInt ((i:Nat):Int))],λi=>[(5,.map (zk7 vs (l.take i) (q.take i)))],λi=>l.length - i,λi=>i<=l.length,[],0,A8 _,Gd,⟨by simp [zk7];rfl,Gc⟩,?_⟩
 intro i hi
 have hc0:=y7f (l.take i) (q.take i) hv
 refine z00 (λhc=>?_) λhc=>?_
 ·have hlt:i<l.length:=z0x (f:=eTx) rfl hc
  obtain ⟨x,x1,x2,x3,x4⟩:=z0m hlt
  obtain ⟨y,y1,y2,y3,y4⟩:=z0m (show i<q.length by omega)
  exact ⟨z02 (f:=eTx) x1,rfl,z02 (f:=eInt) y1,rfl,rfl,hc0.1,z01 rfl oM0,i+1,z04 hlt,hlt,Gd,⟨mpq (by rw [x2,y2,y3b _ _ _ _ _ (by simp;omega)];rfl),Gc⟩,rfl,rfl,rfl,rfl⟩
 ·have hge:l.length<=i:=z0y (f:=eTx) rfl hc
  rw [Al hge,Al oM0]
  exact ⟨sI,rfl,Gc⟩
theorem z3a:∀ (l ts:List Int),(z12 ts l).1.length=l.length/\(z12 ts l).2.length=ts.length+l.length
 | [],ts=>⟨rfl,rfl⟩
 | v::r,ts=>by
  have:=z3a r (ts++[ts.getD v.toNat 0])
  simp only [z12,Ah,Az,Ax] at this ⊢
  omega
theorem y0t:∀ (l ts:List Int) (v:Int),z12 ts (l++[v])=((z12 ts l).1++[((z12 ts l).2.length:Int)],(z12 ts l).2++[(z12 ts l).2.getD v.toNat 0])
 | [],ts,v=>rfl
 | w::r,ts,v=>by
  have:=y0t r (ts++[ts.getD w.toNat 0]) v
  simp only [B8,z12,this]
theorem y1a (p:Pg) (ts:List Int) (lo:Lo) (l:List Int) (hv:∀ v∈l,0<=v/\v<ts.length) (hb:ts.length+l.length<=34359738368):SC Tryz.prog 161 [.ptr 1 0,.pv (ints l)] (riBx p ts lo) (λk=>k∈[]) (.pv (ints (z12 ts l).1)) (riBx p (z12 ts l).2 lo):=by
 refine SC.vc tb { gh:=[(1,[.grow 4 1001 3 1]),(6,[.fz 4 1001])] } [] Tryz.func161 rfl rfl ?_
 refine ⟨Nat,λi=>[(9,iInt ((i:Nat):Int)),(4,.sl 1001 ((z12 ts (l.take i)).1.map eInt).length)],λi=>(1001,.row inRt ((z12 ts (l.take i)).1.map eInt))::riBx p (z12 ts (l.take i)).2 lo,λi=>l.length - i,λi=>i<=l.length,[],0,A8 _,Ge,Gg,?_⟩
 intro i hi
 obtain ⟨g1,g2⟩:=z3a (l.take i) ts
 have g3:(l.take i).length=i:=by simp;omega
 refine z00 (λhc=>?_) λhc=>?_
 ·have hlt:i<l.length:=z0x (f:=eInt) rfl hc
  obtain ⟨x,x1,x2,x3,x4⟩:=z0m hlt
  have hs:=y0t (l.take i) ts x
  rw [<- x2] at hs
  have hx:=hv x x4
  have hix:x.toNat<(z12 ts (l.take i)).2.length:=by omega
  have hF:=zq4 p (z12 ts (l.take i)).2 lo ((z12 ts (l.take i)).2.getD x.toNat 0) oM0
  refine ⟨z02 (f:=eInt) x1,rfl,by simp,by rw [A4];exact hix,by omega,VRow.mk (i:=x.toNat) (j:=0) sI0 (by simp [inRt]) (z02 (f:=eInt) (z3j hix)) rfl ⟨[],hF,sR,Gf,rfl,rfl,z3x rfl,by simp;omega,?_⟩⟩
  exact ⟨z01 rfl oM0,i+1,z04 hlt,hlt,⟨rfl,slq (by rw [hs];simp),Gc⟩,⟨rwq (by rw [hs];simp [eInt]),by rw [hs];rfl,by rw [hs];rfl,rfl,Gc⟩,rfl,rfl,rfl,rfl⟩
 ·have hge:l.length<=i:=z0y (f:=eInt) rfl hc
  rw [Al hge]
  exact ⟨by simp,sI,rfl,rfl,rfl,Gc⟩
theorem zd3 (p:Pg) (ts:List Int) (lo:Lo) (vs:List (Value × PV)) (ns:List Nd):SC Tryz.prog 163 [.ptr 4 0] (riBx p ts lo++riLx vs ns) (λk=>k∈[1,2,3,4,5,6]) (.ptr 14 0) ([(14,.box [.ptr 1 0,.mp 15,.pv (.val (.slice none 0 0))]),(15,.map vs)]++(riBx p ts lo++riLx vs ns)):=by
 refine SC.vc tb { ids:=[(13,14)] } [1,2,3,4,5,6] Tryz.func163 rfl rfl ?_
 have hC:SC Tryz.prog 196 [.mp 5] [(5,.map vs)] (λk=>k∈[5]) (.mp 15) [(15,.map vs),(5,.map vs)]:=SC.sameR (((j1c vs).sw 1 5).sw 8 15) λk _ hk=>by rw [Ai.1 hk];exact Dd
 exact ⟨[5],hC,sR,⟨rfl,rfl,by simp,Gc⟩,rfl,sI,rfl,rfl,rfl,rfl,rfl,rfl,rfl,rfl,Gc⟩
theorem zb6 (vs:List (Value × PV)) (x:St) (out:List (Value × PV)):yi8 vs x out=z4f vs x.els (z4f vs x.thn (if (z1f (.string x.name) vs).isSome&&x.kind==2 then mput (.string x.name) (.agg []) out else out)):=by cases x;rw [yi8];rfl
theorem y37 (vs:List (Value × PV)):∀ (l:List St) (x:St) (out:List (Value × PV)),z4f vs (l++[x]) out=yi8 vs x (z4f vs l out)
 | [],x,out=>by simp [z4f]
 | y::r,x,out=>by simp only [B8,z4f];exact y37 vs r x _
def StrK (es:List (Value × PV)):Prop:=∀ e∈es,z1r .string e.1=true
theorem StrK.put {es:List (Value × PV)} (h:StrK es) (a:ByteArray) (v:PV):StrK (mput (.string a) v es):=λe he=>by
 rcases z3u he with rfl | he
 ·rfl
 ·exact h e he
theorem z8n (vs:List (Value × PV)):∀ (N:Nat) (l:List St),SizeOf.sizeOf l<N->∀ out,StrK out->StrK (z4f vs l out)
 | 0,_,h,_,_=>absurd h (Ae _)
 | N+1,[],_,out,h=>by rw [z4f];exact h
 | N+1,x::r,hN,out,h=>by
  have hx:=zr0 x
  simp at hN
  rw [z4f,zb6]
  refine z8n vs N r oM0 _ (z8n vs N x.els oM0 _ (z8n vs N x.thn oM0 _ ?_))
  split
  ·exact h.put _ _
  ·exact h
theorem y4t {o:Oper} {fr:Fr} {hp:Hp} {Rl:List Nat} (ho:o.op = .build 165 #[]):OkF Tryz.prog Rl o fr hp ⟨.pv (.agg []),[],[],[]⟩ :=
 .pure λc R1 fr2 hp2 _ _ _=>bPu (pl:=#[]) (out:=[]) ho (xs:=[]) rfl (z:=.agg #[]) kR0 ⟨#[],Tryz.underlying165,y0m (T:=tb) (a:=#[]) (l:=[]) rfl⟩ rfl (λp hp=>by cases hp) rfl
theorem y5f (vs:List (Value × PV)) (hv:Cnt vs):∀ (N:Nat) (l:List St),SizeOf.sizeOf l<N->szL l<=1073741824->∀ out,StrK out ->
 SC Tryz.prog 193 [.mp 5,.pv (sts l),.mp 9] [(5,.map vs),(9,.map out)] (λk=>k∈[5]) (.tup []) [(5,.map vs),(9,.map (z4f vs l out))]
 | 0,_,h,_,_,_=>absurd h (Ae _)
 | N+1,l,hN,hx,out,ho=>by
  refine SC.vc tb { jn:=[6],an:=[5003] } [5] Tryz.func193 rfl rfl ?_
  have hl:=z87 l
  refine ⟨Nat,λi=>[(12,iInt ((i:Nat):Int))],λi=>[(9,.map (z4f vs (l.take i) out))],λi=>l.length - i,λi=>i<=l.length,[],0,A8 _,Gd,⟨by simp [z4f];rfl,Gc⟩,?_⟩
  intro i hi
  have hk:=z8n vs _ (l.take i) (A5 _) out ho
  refine z00 (λhc=>?_) λhc=>?_
  ·have hlt:i<l.length:=z0x (f:=St.enc) rfl hc
   obtain ⟨x,x1,x2,x3,x4⟩:=z0m hlt
   have hso:=zr0 x
   have hmem:=Bl x4
   have hsz:=y29 x
   have hszm:=zu6 x4
   have hs:=y37 vs (l.take i) x out
   rw [<- x2,zb6] at hs
   generalize z4f vs (l.take i) out=o1 at hk hs ⊢
   generalize hO:(if (z1f (.string x.name) vs).isSome&&x.kind==2 then mput (.string x.name) (.agg []) o1 else o1)=o2 at hs
   have hk2:StrK o2:=by
    rw [<- hO]
    split
    ·exact hk.put _ _
    ·exact hk
   have hT:=y5f vs hv N x.thn oM0 oM0 o2 hk2
   have hk3:=z8n vs _ x.thn (A5 _) o2 hk2
   have hE:=y5f vs hv N x.els oM0 oM0 _ hk3
   refine ⟨zi1 x1,rfl,Unit,λ_=>[],λ_=>[(9,.map o2)],λ_=>True,[9],VAsk.mk (p:=vInt (y25 vs x.name)) (b:=(z1f (.string x.name) vs).isSome) rfl hv.1 (E4 (hv.getI x.name) rfl) ?_,?_⟩
   ·refine z00 (λc=>?_) λc=>?_
    ·rw [c,B3] at hO
     refine z00 (λc2=>?_) λc2=>?_
     ·have c2:(x.kind==2)=true:=c2
      rw [c2,if_pos rfl] at hO
      exact ⟨y4t rfl,rfl,hk,(),Gc,Gc,⟨mpq hO,Gc⟩,rfl,rfl,rfl,rfl⟩
     ·have c2:(x.kind==2)=false:=c2
      rw [c2,if_neg dC0] at hO
      exact ⟨(),Gc,Gc,⟨mpq hO,Gc⟩,rfl,rfl,rfl,rfl⟩
    ·rw [c,Cu,if_neg dC0] at hO
     exact ⟨(),Gc,Gc,⟨mpq hO,Gc⟩,rfl,rfl,rfl,rfl⟩
   ·rintro _ _
    exact ⟨[5],hT,sR,⟨rfl,rfl,by simp,rfl,Gc⟩,rfl,[5],hE,sR,⟨rfl,rfl,by simp,rfl,Gc⟩,rfl,z01 rfl oM0,i+1,z04 hlt,hlt,Gd,⟨mpq (by rw [hs]),Gc⟩,rfl,rfl,rfl,rfl⟩
  ·have hge:l.length<=i:=z0y (f:=St.enc) rfl hc
   rw [Al hge]
   exact ⟨sI,rfl,rfl,Gc⟩
section
open Go Go.Proofs Go.RowKit Go.Maps Go.Sort Go.Shelf
def y00:Go.Shelf.Ren:=⟨λ| 7=>195 | 10=>223 | n=>n,λ| 23=>242 | 26=>9 | 3=>165 | 28=>246 | 0=>0 | 27=>245 | 33=>111 | 4=>4 | n=>n,λ| n=>n⟩
theorem yy9:Go.Proofs.SlLaysZ.n7 Tryz.prog y00 where
 mixed:=by kernel_rfl
 f7:=⟨"maps.Keys[map[string]struct{},string,struct{}]", by decide,Tryz.func195.trans (A7 some kR0)⟩
 f10:=⟨"maps.Keys[map[string]struct{},string,struct{}]$1", by decide,Tryz.func223.trans (A7 some kR0)⟩
 t0:=Tryz.underlying0
 a0:=Tryz.isAgg0
 z0:=Tryz.sizeOf0
 v0:=Tryz.zeroValue0
 t4:=Tryz.underlying4
 a4:=Tryz.isAgg4
 z4:=Tryz.sizeOf4
 v4:=Tryz.zeroValue4
 t23:=Tryz.underlying242
 a23:=Tryz.isAgg242
 z23:=Tryz.sizeOf242
 v23:=Tryz.zeroValue242
 t26:=Tryz.underlying9
 a26:=Tryz.isAgg9
 z26:=Tryz.sizeOf9
 v26:=Tryz.zeroValue9
 t27:=Tryz.underlying245
 a27:=Tryz.isAgg245
 z27:=Tryz.sizeOf245
 v27:=Tryz.zeroValue245
 t28:=Tryz.underlying246
 a28:=Tryz.isAgg246
 z28:=Tryz.sizeOf246
 v28:=Tryz.zeroValue246
 t33:=Tryz.underlying111
 a33:=Tryz.isAgg111
 z33:=Tryz.sizeOf111
 v33:=Tryz.zeroValue111
def zm0:Go.Shelf.Ren:=⟨λ| 6=>194 | 8=>221 | 9=>222 | 11=>244 | 13=>246 | 12=>245 | 23=>262 | 24=>240 | 14=>253 | 15=>254 | 16=>255 | 17=>256 | 18=>257 | 19=>258 | 20=>259 | 21=>260 | 22=>261 | 25=>264 | 26=>265 | 27=>266 | 28=>267 | 29=>268 | 30=>269 | 31=>270 | n=>n,λ| 26=>9 | 28=>246 | 24=>73 | 0=>0 | 3=>3 | 37=>284 | 48=>282 | 50=>232 | 4=>4 | 40=>294 | 39=>293 | 45=>204 | 5=>5 | 9=>9 | 51=>304 | 55=>308 | 57=>310 | 58=>229 | 33=>111 | n=>n,λ| n=>n⟩
theorem j2l:Go.Proofs.SlLaysZ.n6 Tryz.prog zm0 where
 mixed:=by kernel_rfl
 f6:=⟨"slices.Sorted[string]", by decide,Tryz.func194.trans (A7 some kR0)⟩
 f8:=⟨"slices.Collect[string]", by decide,Tryz.func221.trans (A7 some kR0)⟩
 f11:=⟨"slices.AppendSeq[[]string,string]", by decide,Tryz.func244.trans (A7 some kR0)⟩
 t0:=Tryz.underlying0
 a0:=Tryz.isAgg0
 z0:=Tryz.sizeOf0
 v0:=Tryz.zeroValue0
 t24:=Tryz.underlying73
 a24:=Tryz.isAgg73
 z24:=Tryz.sizeOf73
 v24:=Tryz.zeroValue73
 t26:=Tryz.underlying9
 a26:=Tryz.isAgg9
 z26:=Tryz.sizeOf9
 v26:=Tryz.zeroValue9
 t28:=Tryz.underlying246
 a28:=Tryz.isAgg246
 z28:=Tryz.sizeOf246
 v28:=Tryz.zeroValue246
 i26:=by kernel_rfl
def yd2:Go.Shelf.Ren:=⟨λ| 6=>222 | 8=>246 | 9=>245 | 19=>262 | 20=>240 | 21=>253 | 22=>254 | 23=>255 | 24=>256 | 25=>257 | 26=>258 | 27=>259 | 28=>260 | 29=>261 | 36=>264 | 31=>265 | 32=>266 | 37=>267 | 38=>268 | 39=>269 | 41=>270 | n=>n,λ| 27=>73 | 29=>9 | 3=>3 | 32=>284 | 26=>73 | 0=>0 | 44=>282 | 46=>232 | 4=>4 | 36=>294 | 35=>293 | 41=>204 | 5=>5 | 9=>9 | 53=>304 | 57=>308 | 63=>310 | 64=>229 | n=>n,λ| n=>n⟩
theorem j2k:Go.Proofs.SlLaysM.n6 Tryz.prog yd2 where
 mixed:=by kernel_rfl
 f6:=⟨"slices.Sort[[]string,string]", by decide,Tryz.func222.trans (A7 some kR0)⟩
 f8:=Tryz.func246.trans (A7 some kR0)
 f9:=⟨"slices.pdqsortOrdered[string]", by decide,Tryz.func245.trans (A7 some kR0)⟩
 f19:=Tryz.func262.trans (A7 some kR0)
 f20:=Tryz.func240.trans (A7 some kR0)
 f21:=⟨"slices.insertionSortOrdered[string]", by decide,Tryz.func253.trans (A7 some kR0)⟩
 f22:=⟨"slices.heapSortOrdered[string]", by decide,Tryz.func254.trans (A7 some kR0)⟩
 f23:=⟨"slices.breakPatternsOrdered[string]", by decide,Tryz.func255.trans (A7 some kR0)⟩
 f24:=⟨"slices.choosePivotOrdered[string]", by decide,Tryz.func256.trans (A7 some kR0)⟩
 f25:=⟨"slices.reverseRangeOrdered[string]", by decide,Tryz.func257.trans (A7 some kR0)⟩
 f26:=⟨"slices.partialInsertionSortOrdered[string]", by decide,Tryz.func258.trans (A7 some kR0)⟩
 f27:=⟨"cmp.Less[string]", by decide,Tryz.func259.trans (A7 some kR0)⟩
 f28:=⟨"slices.partitionEqualOrdered[string]", by decide,Tryz.func260.trans (A7 some kR0)⟩
 f29:=⟨"slices.partitionOrdered[string]", by decide,Tryz.func261.trans (A7 some kR0)⟩
 f31:=Tryz.func265.trans (A7 some kR0)
 f32:=Tryz.func266.trans (A7 some kR0)
 f36:=⟨"slices.siftDownOrdered[string]", by decide,Tryz.func264.trans (A7 some kR0)⟩
 f37:=⟨"slices.medianAdjacentOrdered[string]", by decide,Tryz.func267.trans (A7 some kR0)⟩
 f38:=⟨"slices.medianOrdered[string]", by decide,Tryz.func268.trans (A7 some kR0)⟩
 f39:=⟨"cmp.isNaN[string]", by decide,Tryz.func269.trans (A7 some kR0)⟩
 f41:=⟨"slices.order2Ordered[string]", by decide,Tryz.func270.trans (A7 some kR0)⟩
 t0:=Tryz.underlying0
 a0:=Tryz.isAgg0
 z0:=Tryz.sizeOf0
 v0:=Tryz.zeroValue0
 t3:=Tryz.underlying3
 a3:=Tryz.isAgg3
 z3:=Tryz.sizeOf3
 v3:=Tryz.zeroValue3
 t4:=Tryz.underlying4
 a4:=Tryz.isAgg4
 z4:=Tryz.sizeOf4
 v4:=Tryz.zeroValue4
 t5:=Tryz.underlying5
 a5:=Tryz.isAgg5
 z5:=Tryz.sizeOf5
 v5:=Tryz.zeroValue5
 t9:=Tryz.underlying9
 a9:=Tryz.isAgg9
 z9:=Tryz.sizeOf9
 v9:=Tryz.zeroValue9
 t26:=Tryz.underlying73
 a26:=Tryz.isAgg73
 z26:=Tryz.sizeOf73
 v26:=Tryz.zeroValue73
 t27:=Tryz.underlying73
 a27:=Tryz.isAgg73
 z27:=Tryz.sizeOf73
 v27:=Tryz.zeroValue73
 t29:=Tryz.underlying9
 a29:=Tryz.isAgg9
 z29:=Tryz.sizeOf9
 v29:=Tryz.zeroValue9
 t32:=Tryz.underlying284
 a32:=Tryz.isAgg284
 z32:=Tryz.sizeOf284
 v32:=Tryz.zeroValue284
 t35:=Tryz.underlying293
 a35:=Tryz.isAgg293
 z35:=Tryz.sizeOf293
 v35:=Tryz.zeroValue293
 t36:=Tryz.underlying294
 a36:=Tryz.isAgg294
 z36:=Tryz.sizeOf294
 v36:=Tryz.zeroValue294
 t41:=Tryz.underlying204
 a41:=Tryz.isAgg204
 z41:=Tryz.sizeOf204
 v41:=Tryz.zeroValue204
 t44:=Tryz.underlying282
 a44:=Tryz.isAgg282
 z44:=Tryz.sizeOf282
 v44:=Tryz.zeroValue282
 t46:=Tryz.underlying232
 a46:=Tryz.isAgg232
 z46:=Tryz.sizeOf232
 v46:=Tryz.zeroValue232
 t53:=Tryz.underlying304
 a53:=Tryz.isAgg304
 z53:=Tryz.sizeOf304
 v53:=Tryz.zeroValue304
 t57:=Tryz.underlying308
 a57:=Tryz.isAgg308
 z57:=Tryz.sizeOf308
 v57:=Tryz.zeroValue308
 t63:=Tryz.underlying310
 a63:=Tryz.isAgg310
 z63:=Tryz.sizeOf310
 v63:=Tryz.zeroValue310
 t64:=Tryz.underlying229
 a64:=Tryz.isAgg229
 z64:=Tryz.sizeOf229
 v64:=Tryz.zeroValue229
theorem sorts194 (m:Nat):AnyZ.SortsIn Tryz.prog zm0 Fence.wide m :=
 ⟨λblk off cap ss W hH hblk hsz=>Fx.2 (AnyM.slices_Sort_string j2k blk off cap ss W hH hblk hsz),
  λp cap W=>Fx.2 (AnyM.slices_Sort_string_none j2k p cap W)⟩
theorem ym8 {F:Nat->Prop} {ρ:Loc} {σ:Heap'} {w w':World} (h:RelH F ρ σ w) (hb:Go.RowKit.Below w.heap.size w w') (R:Nat->Prop):RelH F ρ σ w'/\Trans F R ρ σ w ρ σ w':=by
 have t:Trans F R ρ σ w ρ σ w':=⟨hb.os,hb.tape,hb.output,hb.size,λb hlt _=>hb.block b hlt,λ_ _ _ hi _=>hi,λ_ _ _ _ _=>rfl,λ_ _ _ _ _=>rfl,λ_ _ _ _ _ _ _ _=>rfl,
  λk s s' els els' h1 h2=>by rw [h1] at h2;cases h2;exact Ab _,λk cs h1=>.inr ⟨cs,h1⟩,λk es h1=>.inr ⟨es,h1⟩,λk s els h1=>.inr ⟨els,h1⟩⟩
 refine ⟨⟨h.inj,h.apart,λb hF=>Ba (h.old b hF) hb.size,λk b c hk=>?_,h.real⟩,t⟩
 obtain ⟨o,h1,h2⟩:=h.obj k b c hk
 refine ⟨o,h1,h2.keep t (hb.block b (h.lt hk)) λx _ hn=>?_⟩
 obtain ⟨k,hk⟩:=hn.some
 exact hk.2 hk.1
theorem sc_keys (es:List (Value × PV)):SC Tryz.prog 195 [.mp 9] [(9,.map es)] (λk=>k∈[9]) (.fn (.func 223) [] [.ptr 77 0]) [(77,.box [.mp 9]),(9,.map es)]:=by
 intro F ρ w vs hkept hrel hargs
 have ha:All ⟨F,λk=>k∈[9],ρ,look (up [(9,.map es)]),w,vs.length⟩ ρ (look (up [(9,.map es)])) w [(0,.mp 9)] { tmps:=vs.toArray,defers:=[] }:=by
  refine ⟨hrel,λt x hx=>?_,.refl _ _ _ _ _,rfl,by simp,hkept⟩
  match t,hx with
  | 0,hx=>cases hx;obtain ⟨v,h1,h2⟩:=hargs.2 0 _ rfl;exact ⟨v,by simpa using h1,h2⟩
  | t+1,hx=>cases hx
 obtain ⟨b,cc,r,ck,u,hv,hρ,h3,h4,h5,h6⟩:=ha.mapAt (x:=.tmp 0) rfl rfl
 have hvs:vs.toArray = #[.map (some b)]:=by
  match vs,hargs.1,hv with
  | [v],_,hv=>simp [Act.eval] at hv;rw [hv]
 rw [hvs]
 refine (Fx.1 (AnyZ.keys_in yy9 Fence.wide 5 trivial rfl (some b) w)).mono ?_
 rintro e w' ⟨rfl,rfl⟩
 have hn:=ha.alloc (k:=77) (o:=.box [.mp 9]) rfl rfl rfl rfl 1 (.cells #[.map (some b)] 242) λkeepI _=>.box [.mp 9] 242 #[.map (some b)] (λ_=>.map (some b)) (z2u w _) sI0 (λj x hj=>by
  match j,hj with
  | 0,_=>rfl) (λj x hj=>by
  match j,hj with
  | 0,hj=>cases hj;exact keepI _ _ (.mp _ _ λes' _=>⟨b,cc,hρ,rfl⟩) rfl)
 refine ⟨_,_,rfl,.fn _ _ _ _ _ (λ_=>.pointer none) (λ_=>.pointer (some ⟨w.heap.size,0,none⟩)) rfl (λj c hj=>by cases hj) (λj c hj=>by cases hj) rfl (λj c hj=>?_) (λj c hj=>?_),hn.rel,hn.tr⟩
 ·match j,hj with
  | 0,_=>rfl
 ·match j,hj with
  | 0,hj=>cases hj;exact .ptr _ _ _ λcs _=>⟨w.heap.size,1,z0b,rfl⟩
theorem keys_map {r:Array MapEntry} {es:List (Value × PV)} {u:Nat->Value} (h4:r.size=es.length) (h5:∀ i k p,es[i]? = some (k,p)->∃ m:MapEntry,r[i]? = some m/\m.key=k/\m.val=u i):r.toList.map (·.key)=es.map (·.1):=by
 refine List.ext_getElem? λi=>?_
 rw [B7,B7,Bh]
 cases he:es[i]? with
 | none =>
  have:=List.getElem?_eq_none_iff.1 he
  rw [En oM0];rfl
 | some e =>
  obtain ⟨m,h1,h2,_⟩:=h5 i e.1 e.2 he
  rw [h1];simp [h2]
abbrev rd0:Value->Option (DataW Unit × List MemPlace):=λ_=>some (.nil,[])
theorem keyOf_tx {k:Value} (h1:z1r .string k=true) (h2:(z6r k).size<=maxLen):keyOf Tryz.prog 9 k=some (.string (z6r k).data.toList):=by
 cases k<;>simp [z1r] at h1
 rename_i s
 simp only [z6r] at h2
 simp [keyOf,mapKey,Tryz.underlying9,h2,z6r]
theorem j21 (es:List (Value × PV)) (hk:StrK es) (hsz:∀ e∈es,(z6r e.1).size<=maxLen) (hl:es.length<=1073741824):SC Tryz.prog 194 [.fn (.func 223) [] [.ptr 77 0]] [(77,.box [.mp 9]),(9,.map es)] (λk=>k∈[77,9]) (.pv (txs (zl9 (es.map λe=>z6r e.1)))) [(77,.box [.mp 9]),(9,.map es)]:=by
 intro F ρ w vs hkept hrel hargs
 obtain ⟨v0,e0,r0⟩:=hargs.2 0 _ rfl
 have hv1:∃ b c,ρ 77=some (b,c)/\v0 = .func (.func 223) #[] #[.pointer (some ⟨b,0,none⟩)]:=by
  cases r0 with
  | fn _ _ _ vs ws u t hl hv hr hl' hv' hr' =>
   have q:=hr' 0 _ rfl
   have q2:=hv' 0 _ rfl
   cases q with
   | ptr _ _ _ h =>
    obtain ⟨b,c,h1,h2⟩:=h _ rfl
    refine ⟨b,c,h1,?_⟩
    have e1:vs = #[]:=Array.eq_empty_of_size_eq_zero hl
    subst e1
    have e2:ws = #[.pointer (some ⟨b,0,none⟩)]:=by
     apply Array.ext
     ·simpa using hl'
     ·intro i h1' h2'
      have:i=0:=by simp at h2';omega
      subst this
      rw [Array.getElem?_eq_getElem h1'] at q2
      exact (Bz q2).trans h2
    rw [e2]
 obtain ⟨B,cB,hB,rfl⟩:=hv1
 obtain ⟨o1,q1,q2⟩:=hrel.obj 77 B cB hB
 have q1:look (up [(77,HO.box [.mp 9]),(9,.map es)]) 77=some o1:=q1
 cases q1
 obtain ⟨eB,a,uB,g1,g2,g3,g4⟩:=q2.inv_box
 have g5:=g4 0 _ rfl
 have g6:=g3 0 _ rfl
 have hmp:∃ b c,ρ 9=some (b,c)/\uB 0 = .map (some b):=by
  generalize uB 0=x at g5
  cases g5 with
  | mp _ _ h=>exact h _ rfl
 obtain ⟨b,cc,hρ,hu⟩:=hmp
 obtain ⟨o2,q3,q4⟩:=hrel.obj 9 b cc hρ
 have q3:look (up [(77,HO.box [.mp 9]),(9,.map es)]) 9=some o2:=q3
 cases q3
 obtain ⟨r,ck,u,h3,h4,h5,h6⟩:=q4.inv_map
 have hst:=q4.stamped h3
 have hkm:=keys_map h4 h5
 have hrd:∀ x∈r.toList,Go.WideElems.rg Tryz.prog 9 rd0 x=(.string (z6r x.key).data.toList,.nil)/\∃ y,Go.WideElems.rd Tryz.prog 9 rd0 x=some y:=by
  intro x hx
  have hm:x.key∈es.map (·.1):=hkm ▸ D1 hx
  obtain ⟨e,he,hxe⟩:=Cc.1 hm
  have hko:=keyOf_tx (k:=x.key) (hxe ▸ hk e he) (hxe ▸ hsz e he)
  have:Go.WideElems.rd Tryz.prog 9 rd0 x=some (.string (z6r x.key).data.toList,.nil):=by simp [Go.WideElems.rd,hko]
  exact ⟨Go.WideElems.rg_of this,_,this⟩
 have hown:w.ownsMap Tryz.prog 9 rd0 b r.size (.map ((r.toList.map (Go.WideElems.rg Tryz.prog 9 rd0)).foldr DataW.insert [])):=⟨r,ck,h3,⟨by rw [h4];exact Bm hl dC0,hst,λx hx=>(hrd x hx).2⟩,Ab _,rfl⟩
 have hperm:(strKeys (.map ((r.toList.map (Go.WideElems.rg Tryz.prog 9 rd0)).foldr DataW.insert []))).Perm (es.map λe=>(z6r e.1).data.toList):=by
  refine ((Go.WideShapes.sorted_perm _).map _).trans ?_
  rw [Ej]
  have:r.toList.map ((λp=>strOf p.1) ∘ Go.WideElems.rg Tryz.prog 9 rd0)=(r.toList.map (·.key)).map λk=>(z6r k).data.toList:=by
   rw [Ej]
   exact List.map_congr_left λx hx=>by simp only [Function.comp,(hrd x hx).1,strOf]
  rw [this,hkm,Ej]
  exact List.Perm.refl _
 have hBlt:=hrel.lt hB
 have hsize:Maps.size (.map ((r.toList.map (Go.WideElems.rg Tryz.prog 9 rd0)).foldr DataW.insert []))=es.length:=by
  simp only [Maps.size,length_sorted,A4,Bq,h4]
 have hseq:SeqGives Fence.wide 2 Tryz.prog 223 #[.pointer (some ⟨B,0,none⟩)] encStr (λss=>ss.Perm (strKeys (.map ((r.toList.map (Go.WideElems.rg Tryz.prog 9 rd0)).foldr DataW.insert [])))) (Maps.size (.map ((r.toList.map (Go.WideElems.rg Tryz.prog 9 rd0)).foldr DataW.insert []))) w :=
  AnyZ.keys_gives (ρ:=y00) { yy9 with } Fence.wide _ trivial rfl oM0 B b r.size _ w hBlt (by
   simp only [World.cell?,g1]
   simpa [hu] using g6) hown
 have hvs:vs=[.func (.func 223) #[] #[.pointer (some ⟨B,0,none⟩)]]:=by
  match vs,hargs.1,e0 with
  | [x],_,e0=>cases e0;rfl
 subst hvs
 refine (Fx.1 (AnyZ.sorted_in j2l Fence.wide 5 trivial trivial trivial trivial rfl oM0 (sorts194 _) (enters_of Tryz.func222 kR0 rfl) 223 #[.pointer (some ⟨B,0,none⟩)] trivial (enters_of Tryz.func223 kR0 rfl) _ _ (by rw [hsize];exact Bm hl dC0) (by rw [hsize];omega) _ hseq)).mono ?_
 rintro e w' ⟨v,ss,rfl,hS,hrow,hnil,hb⟩
 obtain ⟨k1,k2⟩:=ym8 hrel hb (λk=>k∈[77,9])
 refine ⟨ρ,v,rfl,.pv _ _ ?_,k1,k2⟩
 have hso:zl9 (es.map λe=>z6r e.1)=(ss.mergeSort (λx y=>decide (x<=y))).map λb=>⟨b.toArray⟩:=by
  unfold zl9
  rw [Ej]
  exact A7 _ (mergeSort_of_perm (hS.trans hperm)).symm
 have hlen:ss.length=((zl9 (es.map λe=>z6r e.1)).map eTx).length:=by simp [hso]
 show RepP _ _ (.seq ((zl9 (es.map λe=>z6r e.1)).map eTx)) v
 rcases hrow.2 with ⟨rfl,hz⟩ | ⟨g,cap,cur,rfl,t1,t2,t3,t4,t5,t6⟩
 ·have he:(zl9 (es.map λe=>z6r e.1)).map eTx=[]:=At (hlen ▸ hz)
  rw [he]
  exact .seq [] none 0 0 0 (λ_ _=>.bool false) (λh=>absurd rfl h) (λh=>absurd rfl h) (Ab _) (A8 _) (λi el h=>by cases h) (λi el h=>by cases h)
 ·rw [hlen]
  have hat:∀ (i:Nat) (el:List PV),((zl9 (es.map λe=>z6r e.1)).map eTx)[i]? = some el->∃ s:ByteArray,el=[PV.val (.string s)]/\cur[i]? = some (Value.string s):=by
   intro i el hi
   rw [hso,Ej,B7] at hi
   cases hm:(ss.mergeSort (λx y=>decide (x<=y)))[i]? with
   | none=>rw [hm] at hi;cases hi
   | some x =>
    rw [hm] at hi;cases hi
    refine ⟨⟨x.toArray⟩,rfl,?_⟩
    have:(cur.toList.take (ss.length*1))[i]? = some (encStr x):=by rw [t6,B7,hm,D5]
    rw [C9] at this
    split at this
    ·rw [Bh] at this
     exact this
    ·cases this
  refine .seq _ _ cap g 0 (λi _=>cur.getD i (.bool false)) (λ_=>rfl) (λ_=>⟨λho=>?_,?_⟩) (hlen ▸ t3) t4 (λi el hi j c hj=>?_) λi el hi j c hj=>?_
  ·have:=hrel.own_lt ho;omega
  ·rcases Ea g w'.heap.size with h | h
   ·exact h
   ·rw [En h] at t2;cases t2
  ·obtain ⟨s,rfl,hs⟩:=hat i el hi
   match j,hj with
   | 0,hj=>simp only [World.cell?,t2];simp [hs]
  ·obtain ⟨s,rfl,hs⟩:=hat i el hi
   match j,hj with
   | 0,hj=>cases hj;simp [hs];exact .val _
theorem yp6 (vs:List (Value × PV)) (l:List (List St)) (x:List St):z89 vs (l++[x])=z4f vs x (z89 vs l):=by simp [z89]
theorem y0v (vs:List (Value × PV)) (ls:List (List St)):StrK (z89 vs ls):=by
 suffices ∀ (ls:List (List St)) (o:List (Value × PV)),StrK o->StrK (ls.foldl (λo l=>z4f vs l o) o) from this ls [] λe he=>by cases he
 intro ls
 induction ls with
 | nil=>exact λo h=>h
 | cons l r ih=>exact λo h=>ih _ (z8n vs _ l (A5 _) o h)
theorem zu1 (vs:List (Value × PV)) (hv:Cnt vs) (ls:List (List St)) (hls:ls.length<=1000) (hsz:∀ l∈ls,szL l<=1073741824) (hn:∀ e∈z89 vs ls,(z6r e.1).size<=maxLen) (hl:(z89 vs ls).length<=1073741824) :
 SC Tryz.prog 159 [.mp 5,.pv (.seq (ls.map λl=>[sts l]))] [(5,.map vs)] (λk=>k∈[5]) (.pv (txs (z0c vs ls))) [(5,.map vs)]:=by
 refine SC.vc tb { ids:=[(8,9),(21,77)] } [5] Tryz.func159 rfl rfl ?_
 refine ⟨Nat,λi=>[(11,iInt ((i:Nat):Int))],λi=>[(9,.map (z89 vs (ls.take i)))],λi=>ls.length - i,λi=>i<=ls.length,[],0,A8 _,Gd,⟨by simp [z89];rfl,Gc⟩,?_⟩
 intro i hi
 refine z00 (λhc=>?_) λhc=>?_
 ·have hlt:i<ls.length:=z0x (f:=λl=>[sts l]) rfl hc
  obtain ⟨x,x1,x2,x3,x4⟩:=z0m hlt
  have hA:=y5f vs hv _ x (A5 _) (hsz x x4) _ (y0v vs (ls.take i))
  exact ⟨z02 (f:=λl=>[sts l]) x1,rfl,[5],hA,sR,⟨rfl,rfl,by simp,rfl,Gc⟩,rfl,z01 rfl oM0,i+1,z04 hlt,hlt,Gd,⟨mpq (by rw [x2,yp6]),Gc⟩,rfl,rfl,rfl,rfl⟩
 ·have hge:ls.length<=i:=z0y (f:=λl=>[sts l]) rfl hc
  rw [Al hge]
  have hK:=sc_keys (z89 vs ls)
  have hS:=j21 (z89 vs ls) (y0v vs ls) hn hl
  exact ⟨[9],hK,sR,Ge,rfl,[77,9],hS,sR,Gg,rfl,sI,rfl,Gc⟩
end
theorem sc_idxNd (fq:FuncId) (ws:List IV) (hent:tb.fn fq=true) (p:(Nd)->Bool) (l:List (Nd)) (h:∀ x∈l,SC Tryz.prog fq (.pv (ndv x)::ws) [] (λk=>k∈[]) (iBool (p x)) []):SC Tryz.prog 231 [.pv (z1n l),.fn (.func fq) [] ws] [] (λk=>k∈[]) (iInt (idxP p l 0)) []:=by
 refine SC.vc tb { gh:=[(0,[.len 0])] } [] Tryz.func231 rfl rfl ?_
 intro hl
 simp only [A4] at hl
 have hl:l.length<=9223372036854775807:=hl
 refine ⟨Nat,λi=>[(8,iInt ((i:Nat):Int))],λ_=>[],λi=>l.length - i,λi=>i<=l.length/\∀ x∈l.take i,p x=false,[],0,⟨A8 _,λx hx=>by simp at hx⟩,Gd,Gc,?_⟩
 rintro i ⟨i1,i2⟩
 refine z00 (λhc=>?_) λhc=>?_
 ·have hlt:i<l.length:=z0x (f:=Nd.enc) rfl hc
  obtain ⟨x,x1,x2,x3,x4⟩:=z0m hlt
  refine ⟨z08 x1,rfl,z4u (b:=tb.fn fq) hent ⟨h x x4,sR,Gc,λk hk=>hk,rfl,rfl,z00 (λc=>?_) λc=>?_⟩⟩
  ·exact ⟨sE (by rw [z14 p l 0 i2,x3,idxP,if_pos c,Di]),Gc⟩
  ·exact ⟨z01 rfl oM0,i+1,z04 hlt,⟨hlt,λy hy=>by rw [x2] at hy;rcases Au.1 hy with g | g;exact i2 y g;rw [Ai.1 g];exact c⟩,Gd,Gc,rfl,rfl,rfl,rfl⟩
 ·have hge:l.length<=i:=z0y (f:=Nd.enc) rfl hc
  exact ⟨sE (by rw [z14 p l 0 i2,A6 hge];rfl),Gc⟩
theorem sc_hasNd (fq:FuncId) (ws:List IV) (hent:tb.fn fq=true) (p:(Nd)->Bool) (l:List (Nd)) (h:∀ x∈l,SC Tryz.prog fq (.pv (ndv x)::ws) [] (λk=>k∈[]) (iBool (p x)) []):SC Tryz.prog 203 [.pv (z1n l),.fn (.func fq) [] ws] [] (λk=>k∈[]) (iBool (l.any p)) []:=by
 refine SC.vc tb {} [] Tryz.func203 rfl rfl ?_
 exact ⟨[],sc_idxNd fq ws hent p l h,sR,Gc,rfl,sE (A7 iBool (z5e p l 0 dC0)),Gc⟩
theorem sc_idxKd (fq:FuncId) (ws:List IV) (hent:tb.fn fq=true) (p:(List Nd)->Bool) (l:List (List Nd)) (h:∀ x∈l,SC Tryz.prog fq (.pv (z1n x)::ws) [] (λk=>k∈[]) (iBool (p x)) []):SC Tryz.prog 232 [.pv (kids l),.fn (.func fq) [] ws] [] (λk=>k∈[]) (iInt (idxP p l 0)) []:=by
 refine SC.vc tb { gh:=[(0,[.len 0])] } [] Tryz.func232 rfl rfl ?_
 intro hl
 simp only [A4] at hl
 have hl:l.length<=9223372036854775807:=hl
 refine ⟨Nat,λi=>[(8,iInt ((i:Nat):Int))],λ_=>[],λi=>l.length - i,λi=>i<=l.length/\∀ x∈l.take i,p x=false,[],0,⟨A8 _,λx hx=>by simp at hx⟩,Gd,Gc,?_⟩
 rintro i ⟨i1,i2⟩
 refine z00 (λhc=>?_) λhc=>?_
 ·have hlt:i<l.length:=z0x (f:=eKid) rfl hc
  obtain ⟨x,x1,x2,x3,x4⟩:=z0m hlt
  refine ⟨z02 (f:=eKid) x1,rfl,z4u (b:=tb.fn fq) hent ⟨h x x4,sR,Gc,λk hk=>hk,rfl,rfl,z00 (λc=>?_) λc=>?_⟩⟩
  ·exact ⟨sE (by rw [z14 p l 0 i2,x3,idxP,if_pos c,Di]),Gc⟩
  ·exact ⟨z01 rfl oM0,i+1,z04 hlt,⟨hlt,λy hy=>by rw [x2] at hy;rcases Au.1 hy with g | g;exact i2 y g;rw [Ai.1 g];exact c⟩,Gd,Gc,rfl,rfl,rfl,rfl⟩
 ·have hge:l.length<=i:=z0y (f:=eKid) rfl hc
  exact ⟨sE (by rw [z14 p l 0 i2,A6 hge];rfl),Gc⟩
theorem sc_hasKd (fq:FuncId) (ws:List IV) (hent:tb.fn fq=true) (p:(List Nd)->Bool) (l:List (List Nd)) (h:∀ x∈l,SC Tryz.prog fq (.pv (z1n x)::ws) [] (λk=>k∈[]) (iBool (p x)) []):SC Tryz.prog 205 [.pv (kids l),.fn (.func fq) [] ws] [] (λk=>k∈[]) (iBool (l.any p)) []:=by
 refine SC.vc tb {} [] Tryz.func205 rfl rfl ?_
 exact ⟨[],sc_idxKd fq ws hent p l h,sR,Gc,rfl,sE (A7 iBool (z5e p l 0 dC0)),Gc⟩
theorem sc_idxFl (fq:FuncId) (ws:List IV) (hent:tb.fn fq=true) (p:(Fl)->Bool) (l:List (Fl)) (h:∀ x∈l,SC Tryz.prog fq (.pv (.agg x.enc)::ws) [] (λk=>k∈[]) (iBool (p x)) []):SC Tryz.prog 122 [.pv (flws l),.fn (.func fq) [] ws] [] (λk=>k∈[]) (iInt (idxP p l 0)) []:=by
 refine SC.vc tb { gh:=[(0,[.len 0])] } [] Tryz.func122 rfl rfl ?_
 intro hl
 simp only [A4] at hl
 have hl:l.length<=9223372036854775807:=hl
 refine ⟨Nat,λi=>[(8,iInt ((i:Nat):Int))],λ_=>[],λi=>l.length - i,λi=>i<=l.length/\∀ x∈l.take i,p x=false,[],0,⟨A8 _,λx hx=>by simp at hx⟩,Gd,Gc,?_⟩
 rintro i ⟨i1,i2⟩
 refine z00 (λhc=>?_) λhc=>?_
 ·have hlt:i<l.length:=z0x (f:=Fl.enc) rfl hc
  obtain ⟨x,x1,x2,x3,x4⟩:=z0m hlt
  refine ⟨z02 (f:=Fl.enc) x1,rfl,z4u (b:=tb.fn fq) hent ⟨h x x4,sR,Gc,λk hk=>hk,rfl,rfl,z00 (λc=>?_) λc=>?_⟩⟩
  ·exact ⟨sE (by rw [z14 p l 0 i2,x3,idxP,if_pos c,Di]),Gc⟩
  ·exact ⟨z01 rfl oM0,i+1,z04 hlt,⟨hlt,λy hy=>by rw [x2] at hy;rcases Au.1 hy with g | g;exact i2 y g;rw [Ai.1 g];exact c⟩,Gd,Gc,rfl,rfl,rfl,rfl⟩
 ·have hge:l.length<=i:=z0y (f:=Fl.enc) rfl hc
  exact ⟨sE (by rw [z14 p l 0 i2,A6 hge];rfl),Gc⟩
theorem sc_idxIn (fq:FuncId) (ws:List IV) (hent:tb.fn fq=true) (p:(Int)->Bool) (l:List (Int)) (h:∀ x∈l,SC Tryz.prog fq (iInt x::ws) [] (λk=>k∈[]) (iBool (p x)) []):SC Tryz.prog 124 [.pv (ints l),.fn (.func fq) [] ws] [] (λk=>k∈[]) (iInt (idxP p l 0)) []:=by
 refine SC.vc tb { gh:=[(0,[.len 0])] } [] Tryz.func124 rfl rfl ?_
 intro hl
 simp only [A4] at hl
 have hl:l.length<=9223372036854775807:=hl
 refine ⟨Nat,λi=>[(8,iInt ((i:Nat):Int))],λ_=>[],λi=>l.length - i,λi=>i<=l.length/\∀ x∈l.take i,p x=false,[],0,⟨A8 _,λx hx=>by simp at hx⟩,Gd,Gc,?_⟩
 rintro i ⟨i1,i2⟩
 refine z00 (λhc=>?_) λhc=>?_
 ·have hlt:i<l.length:=z0x (f:=eInt) rfl hc
  obtain ⟨x,x1,x2,x3,x4⟩:=z0m hlt
  refine ⟨z02 (f:=eInt) x1,rfl,z4u (b:=tb.fn fq) hent ⟨h x x4,sR,Gc,λk hk=>hk,rfl,rfl,z00 (λc=>?_) λc=>?_⟩⟩
  ·exact ⟨sE (by rw [z14 p l 0 i2,x3,idxP,if_pos c,Di]),Gc⟩
  ·exact ⟨z01 rfl oM0,i+1,z04 hlt,⟨hlt,λy hy=>by rw [x2] at hy;rcases Au.1 hy with g | g;exact i2 y g;rw [Ai.1 g];exact c⟩,Gd,Gc,rfl,rfl,rfl,rfl⟩
 ·have hge:l.length<=i:=z0y (f:=eInt) rfl hc
  exact ⟨sE (by rw [z14 p l 0 i2,A6 hge];rfl),Gc⟩
theorem sc_hasIn (fq:FuncId) (ws:List IV) (hent:tb.fn fq=true) (p:(Int)->Bool) (l:List (Int)) (h:∀ x∈l,SC Tryz.prog fq (iInt x::ws) [] (λk=>k∈[]) (iBool (p x)) []):SC Tryz.prog 70 [.pv (ints l),.fn (.func fq) [] ws] [] (λk=>k∈[]) (iBool (l.any p)) []:=by
 refine SC.vc tb {} [] Tryz.func70 rfl rfl ?_
 exact ⟨[],sc_idxIn fq ws hent p l h,sR,Gc,rfl,sE (A7 iBool (z5e p l 0 dC0)),Gc⟩
theorem j1e (fq:FuncId) (ws:List IV) (hent:tb.fn fq=true) (p:(Ar)->Bool) (l:List (Ar)) (h:∀ x∈l,SC Tryz.prog fq (.pv (.agg x.enc)::ws) [] (λk=>k∈[]) (iBool (p x)) []):SC Tryz.prog 144 [.pv (arrs l),.fn (.func fq) [] ws] [] (λk=>k∈[]) (iInt (idxP p l 0)) []:=by
 refine SC.vc tb { gh:=[(0,[.len 0])] } [] Tryz.func144 rfl rfl ?_
 intro hl
 simp only [A4] at hl
 have hl:l.length<=9223372036854775807:=hl
 refine ⟨Nat,λi=>[(8,iInt ((i:Nat):Int))],λ_=>[],λi=>l.length - i,λi=>i<=l.length/\∀ x∈l.take i,p x=false,[],0,⟨A8 _,λx hx=>by simp at hx⟩,Gd,Gc,?_⟩
 rintro i ⟨i1,i2⟩
 refine z00 (λhc=>?_) λhc=>?_
 ·have hlt:i<l.length:=z0x (f:=Ar.enc) rfl hc
  obtain ⟨x,x1,x2,x3,x4⟩:=z0m hlt
  refine ⟨y2c x1,rfl,z4u (b:=tb.fn fq) hent ⟨h x x4,sR,Gc,λk hk=>hk,rfl,rfl,z00 (λc=>?_) λc=>?_⟩⟩
  ·exact ⟨sE (by rw [z14 p l 0 i2,x3,idxP,if_pos c,Di]),Gc⟩
  ·exact ⟨z01 rfl oM0,i+1,z04 hlt,⟨hlt,λy hy=>by rw [x2] at hy;rcases Au.1 hy with g | g;exact i2 y g;rw [Ai.1 g];exact c⟩,Gd,Gc,rfl,rfl,rfl,rfl⟩
 ·have hge:l.length<=i:=z0y (f:=Ar.enc) rfl hc
  exact ⟨sE (by rw [z14 p l 0 i2,A6 hge];rfl),Gc⟩
theorem j1d (fq:FuncId) (ws:List IV) (hent:tb.fn fq=true) (p:(Ar)->Bool) (l:List (Ar)) (h:∀ x∈l,SC Tryz.prog fq (.pv (.agg x.enc)::ws) [] (λk=>k∈[]) (iBool (p x)) []):SC Tryz.prog 98 [.pv (arrs l),.fn (.func fq) [] ws] [] (λk=>k∈[]) (iBool (l.any p)) []:=by
 refine SC.vc tb {} [] Tryz.func98 rfl rfl ?_
 exact ⟨[],j1e fq ws hent p l h,sR,Gc,rfl,sE (A7 iBool (z5e p l 0 dC0)),Gc⟩
theorem z96 (x:Nd):SC Tryz.prog 172 [.pv (ndv x)] [] (λk=>k∈[]) (iBool (z0t x.kind)) []:=by
 refine SC.vc tb {} [] Tryz.func172 rfl rfl ?_
 refine z00 (λh=>⟨sE ?_,Gc⟩) λh=>⟨sE ?_,Gc⟩
 ·unfold z0t
  rw [show decide (x.kind ≥ 12)=true from h];rfl
 ·unfold z0t
  rw [show decide (x.kind ≥ 12)=false from h];rfl
theorem y3e (l:List Nd):SC Tryz.prog 175 [.pv (z1n l)] [] (λk=>k∈[]) (iBool (z7y l)) []:=by
 refine SC.vc tb { gh:=[(0,[.len 0])] } [] Tryz.func175 rfl rfl ?_
 intro hl
 simp only [A4] at hl
 have hl:l.length<=9223372036854775807:=hl
 refine z00 (λh=>?_) λh=>?_
 ·have hpos:0<l.length:=by simpa using h
  obtain ⟨x,hx⟩:∃ x,l[((l.length:Int) - 1).toNat]? = some x:=⟨_,A9 oM0⟩
  have hT:z7y l=(x.kind==12):=by
   unfold z7y
   rw [Eg,show l.length - 1=((l.length:Int) - 1).toNat by omega,hx]
  have ll:(l.map Nd.enc).length=l.length:=A4 _
  have hi:(l.map Nd.enc)[(((l.map Nd.enc).length:Int) - 1).toNat]? = some [vInt x.kind,vInt x.op,vInt x.n,vStr x.name,ints x.args,ints x.outs,ints x.params,kids x.kids]:=by
   rw [ll];exact z08 hx
  exact ⟨z3k rfl (by rw [ll];omega),hi,(by rw [ll];omega),sE (A7 iBool hT.symm),Gc⟩
 ·have e:l=[]:=by
   cases l with
   | nil=>rfl
   | cons a b=>simp at h
  subst e
  exact ⟨sI,Gc⟩
theorem ya7 (x:Nd) (ih:∀ q∈x.kids,SC Tryz.prog 176 [.pv (z1n q)] [] (λk=>k∈[]) (iBool (z09 q)) []):SC Tryz.prog 204 [.pv (ndv x)] [] (λk=>k∈[]) (iBool (z2r x)) []:=by
 refine SC.vc tb {} [] Tryz.func204 rfl rfl ?_
 rw [z43,zk4]
 refine z00 (λh=>⟨sE ?_,Gc⟩) λh=>z00 (λh2=>?_) λh2=>⟨sE ?_,Gc⟩
 ·rw [show (x.kind==14)=true from h];rfl
 ·exact ⟨[],sc_hasKd 176 [] rfl z09 x.kids ih,SubA.same sFn,Gc,rfl,sE (by rw [show (x.kind==14)=false from h,show (x.kind==10)=true from h2];rfl),Gc⟩
 ·rw [show (x.kind==14)=false from h,show (x.kind==10)=false from h2];rfl
theorem y28 (N:Nat):∀ (l:List Nd),SizeOf.sizeOf l<N->SC Tryz.prog 176 [.pv (z1n l)] [] (λk=>k∈[]) (iBool (z09 l)) []:=by
 induction N with
 | zero=>intro l hN;exact absurd hN (Ae _)
 | succ N ih =>
  intro l hN
  refine SC.vc tb {} [] Tryz.func176 rfl rfl ?_
  have h1:=sc_hasNd 204 [] rfl z2r l λx hx=>ya7 x λq hq=>ih q (by
   have h1:=Bl hx
   have h2:=Bl hq
   obtain ⟨k,o,n,nm,a,b,c,ks⟩:=x
   simp [Nd.kids] at h1 h2
   omega)
  exact ⟨[],h1,SubA.same sFn,Gc,rfl,sE (by rw [zt4]),Gc⟩
theorem yq8 (l:List Nd):SC Tryz.prog 176 [.pv (z1n l)] [] (λk=>k∈[]) (iBool (z09 l)) []:=y28 _ l (A5 _)
theorem zq1 (x:Nd):SC Tryz.prog 126 [.pv (ndv x)] [] (λk=>k∈[]) (iBool (z07 x)) []:=by
 refine SC.vc tb {} [] Tryz.func126 rfl rfl ?_
 obtain ⟨kind,op,n,name,args,outs,params,kids⟩:=x
 rcases (show kind=10∨kind=11∨(kind≠11/\kind≠10) by omega) with rfl | rfl | ⟨k8,k9⟩
 ·match kids with
  | []=>exact ⟨[],z96 _,sR,Gc,rfl,sI,Gc⟩
  | [a]=>exact ⟨[],z96 _,sR,Gc,rfl,sI,Gc⟩
  | [a,b] =>
   have hT:z07 (.mk 10 op n name args outs params [a,b])=(!z7y a && !z7y b):=by
    rw [<- y1l,<- y1l];rfl
   rw [hT]
   have ha:=y3e a
   generalize z7y a=ya at ha ⊢
   cases ya
   ·exact ⟨at0 (a:=[z1n a]),rfl,[],ha,sR,Gc,rfl,at1 (b:=[z1n b]),rfl,[],y3e b,sR,Gc,rfl,sI,Gc⟩
   ·exact ⟨at0 (a:=[z1n a]),rfl,[],ha,sR,Gc,rfl,sI,Gc⟩
  | a::b::c::r=>exact ⟨[],z96 _,sR,Gc,rfl,sI,Gc⟩
 ·match kids with
  | []=>exact ⟨[],z96 _,sR,Gc,rfl,sI,Gc⟩
  | [a]=>exact ⟨at0 (a:=[z1n a]),rfl,[],yq8 a,sR,Gc,rfl,sI,Gc⟩
  | a::b::r=>exact ⟨[],z96 _,sR,Gc,rfl,sI,Gc⟩
 ·have no:∀ {i:Int},kind≠i->(kind==i)=true->False:=λh e=>h (eq_of_beq e)
  exact z00 (λh=>(no k9 h).elim) λ_=>z00 (λh=>(no k8 h).elim) λ_=>⟨[],z96 _,sR,Gc,rfl,sE (by simp [z07,Nd.kind,Nd.kids,k8,k9]),Gc⟩
theorem j1f (t:Int):SC Tryz.prog 68 [iInt t] [] (λ_=>False) (iBool (isTy t)) []:=by
 refine SC.anyR (SC.vc tb {} [] Tryz.func68 rfl rfl ?_)
 unfold isTy
 refine z00 (λh=>⟨sE ?_,Gc⟩) λh=>⟨sE ?_,Gc⟩
 ·rw [show (t==1)=true from h];rfl
 ·rw [show (t==1)=false from h];rfl
theorem sc_flow1 (t:Int):SC Tryz.prog 71 [iInt t] [] (λ_=>False) (iBool (!isTy t)) []:=by
 refine SC.anyR (SC.vc tb {} [] Tryz.func71 rfl rfl ?_)
 exact ⟨[],j1f t,sR,Gc,rfl,sI,Gc⟩
theorem j1r (x:Nd):SC Tryz.prog 172 [.pv (ndv x)] [] (λ_=>False) (iBool (z0t x.kind)) []:=SC.anyR (z96 x)
theorem zh5 (x:Nd):SC Tryz.prog 126 [.pv (ndv x)] [] (λ_=>False) (iBool (z07 x)) []:=SC.anyR (zq1 x)
theorem y7y (op:Int):SC Tryz.prog 228 [iInt op] [] (λ_=>False) (.tup [iInt (z30 op).1,iInt (z30 op).2]) []:=by
 refine SC.anyR (SC.vc tb {} [] Tryz.func228 rfl rfl ?_)
 by_cases h:op=22∨op=12∨op=13∨op=14∨op=15∨op=16∨op=17
 ·rcases h with rfl | rfl | rfl | rfl | rfl | rfl | rfl<;>exact ⟨sI,Gc⟩
 ·have hT:z30 op=(1,1):=by
   unfold z30
   rw [if_neg (by simp;omega),if_neg (by simp;omega),if_neg (by simp;omega)]
  rw [hT]
  repeat' (first | exact ⟨sI,Gc⟩ | refine z00 (λg=>absurd (eq_of_beq g) oM0) λ_=>?_)
theorem yc4 (x:Fl) (s:ByteArray):SC Tryz.prog 123 [.pv (.agg x.enc),.pv (.ept [vStr s] 0)] [] (λk=>k∈[]) (iBool (x.name.toList==s.toList)) []:=by
 refine SC.vc tb {} [] Tryz.func123 rfl rfl ?_
 exact ⟨sI,Gc⟩
theorem zd4 (u:Un) (s:ByteArray):SC Tryz.prog 69 [.pv u.enc,iStr s] [] (λ_=>False) (iInt (z05 s u.flows 0)) []:=by
 refine SC.anyR (SC.vc tb { pb:=[102,103] } [] Tryz.func69 rfl rfl ?_)
 have h:=sc_idxFl 123 [.pv (.ept [vStr s] 0)] rfl (λf:Fl=>f.name.toList==s.toList) u.flows λx _=>yc4 x s
 rw [y2t] at h
 exact ⟨[],h,sR,Gc,rfl,sI,Gc⟩
theorem j1t (x:Ar) (s:ByteArray):SC Tryz.prog 230 [.pv (.agg x.enc),.pv (.ept [vStr s] 0)] [] (λk=>k∈[]) (iBool (x.name.toList==s.toList)) []:=by
 refine SC.vc tb {} [] Tryz.func230 rfl rfl ?_
 exact ⟨sI,Gc⟩
theorem yk8 (u:Un) (s:ByteArray):SC Tryz.prog 202 [.pv u.enc,iStr s] [] (λ_=>False) (iBool (decide (z0f s u.arrays 0 ≥ 0))) []:=by
 refine SC.anyR (SC.vc tb { pb:=[102,103],gh:=[(1,[])] } [] Tryz.func202 rfl rfl ?_)
 rw [y0n s u.arrays 0 dC0]
 exact ⟨[],j1d 230 [.pv (.ept [vStr s] 0)] rfl (λa:Ar=>a.name.toList==s.toList) u.arrays λx _=>j1t x s,sR,Gc,rfl,sI,Gc⟩
theorem yv5 {u:Un} {f:Fl} {it:TypeId} {st:List Int} {k:Nat} (h:look (up (ckS u f it st)) k≠none):k∈[3,4]:=by
 by_cases h3:k=3
 ·subst h3;decide
 ·by_cases h4:k=4
  ·subst h4;decide
  ·exfalso
   apply h
   simp only [ckS,up,B6,D6,look,z3y (C6 h3),z3y (C6 h4)]
   rfl
theorem y5j (u:Un) (f:Fl) (st:List Int) (v t:Int):SC Tryz.prog 224 [.ptr 3 0,iInt v,iInt t] (ckS u f 3 st) (λ_=>True) (iBool (z9c f.types v t)) (ckS u f 3 st):=by
 refine SC.sameR (SC.vc tb {} [3,4] Tryz.func224 rfl rfl ?_) λk h _=>yv5 h
 unfold z9c
 refine z00 (λh1=>z00 (λh2=>z00 (λh3=>?_) λh3=>?_) λh2=>?_) λh1=>?_
 ·have h1:decide (v ≥ 0)=true:=h1
  have h2:decide (v<(f.types.map eInt).length)=true:=h2
  rw [A4] at h2
  exact ⟨sE (A7 iBool (by rw [show decide (0<=v)=true from h1,h2,show (t==0)=true from h3];rfl)),rfl,rfl,Gc⟩
 ·have h1:decide (v ≥ 0)=true:=h1
  have h2:decide (v<(f.types.map eInt).length)=true:=h2
  rw [A4] at h2
  have g1:=Ao h1
  have g2:=Ao h2
  exact ⟨z02 (f:=eInt) (z3j (show v.toNat<f.types.length by omega)),by omega,sE (A7 iBool (by rw [show decide (0<=v)=true from h1,h2,show (t==0)=false from h3];rfl)),rfl,rfl,Gc⟩
 ·have h1:decide (v ≥ 0)=true:=h1
  have h2:decide (v<(f.types.map eInt).length)=false:=h2
  rw [A4] at h2
  exact ⟨sE (A7 iBool (by rw [show decide (0<=v)=true from h1,h2];rfl)),rfl,rfl,Gc⟩
 ·have h1:decide (v ≥ 0)=false:=h1
  exact ⟨sE (A7 iBool (by rw [show decide (0<=v)=false from h1];rfl)),rfl,rfl,Gc⟩
theorem y5r {tys:List Int} {v t:Int} (h:z9c tys v t=true):0<=v/\v.toNat<tys.length/\v=(v.toNat:Int):=by
 simp only [z9c,A0,Be] at h
 omega
theorem j1z (u:Un) (f:Fl) (st:List Int) (hs:st.length=f.types.length) (v t:Int):SC Tryz.prog 226 [iInt v,iInt t,.ptr 5 0] (ckSp u f 3 5 st) (λk=>k∈[3,4,5]) (iBool (zq9 f.types st v t).1) (ckSp u f 3 5 st):=by
 refine SC.vc tb {} [3,4,5] Tryz.func226 rfl rfl ?_
 have hV:=y5j u f st v t
 unfold zq9
 cases hv:z9c f.types v t
 ·rw [hv] at hV
  exact ⟨[],hV,sR,⟨rfl,Gc,rfl,Gc,Gc⟩,rfl,sI,rfl,rfl,rfl,Gc⟩
 ·rw [hv] at hV
  obtain ⟨h1,h2,h3⟩:=y5r hv
  exact ⟨[],hV,sR,⟨rfl,Gc,rfl,Gc,Gc⟩,rfl,rfl,VIdR.mk (i:=v.toNat) (by rw [A4];omega) h3 (VRow.mk (i:=v.toNat) (j:=0) rfl rfl (z02 (f:=eInt) (z3j oM0)) rfl ⟨sI,rfl,rfl,rfl,Gc⟩)⟩
theorem j1y (u:Un) (f:Fl) (st:List Int) (hs:st.length=f.types.length) (v t:Int):SC Tryz.prog 227 [iInt v,iInt t,.ptr 5 0] (ckSp u f 3 5 st) (λk=>k∈[3,5]) (iBool (z5o f.types st v t).1) (ckSp u f 3 5 (z5o f.types st v t).2):=by
 refine SC.vc tb {} [3,5] Tryz.func227 rfl rfl ?_
 have hV:=y5j u f st v t
 unfold z5o
 cases hv:z9c f.types v t
 ·rw [hv] at hV
  exact ⟨[],hV,sR,⟨rfl,Gc,rfl,Gc⟩,rfl,sI,rfl,rfl,rfl,Gc⟩
 ·rw [hv] at hV
  obtain ⟨h1,h2,h3⟩:=y5r hv
  refine ⟨[],hV,sR,⟨rfl,Gc,rfl,Gc⟩,rfl,rfl,VIdR.mk (i:=v.toNat) (by rw [A4];omega) h3 (VRow.mk (i:=v.toNat) (j:=0) rfl rfl (z02 (f:=eInt) (z3j oM0)) rfl (z00 (λh=>?_) λh=>?_))⟩
  ·have h:(st.getD v.toNat 0 != 0)=true:=h
   have hz:(st.getD v.toNat 0==0)=false:=by simpa using h
   rw [hz]
   exact ⟨sI,rfl,rfl,rfl,Gc⟩
  ·have h:(st.getD v.toNat 0 != 0)=false:=h
   have hz:(st.getD v.toNat 0==0)=true:=by simpa using h
   rw [hz]
   exact ⟨rfl,VIdR.mk (i:=v.toNat) (by rw [A4];omega) h3 ⟨v.toNat,0,_,rfl,rfl,z02 (f:=eInt) (z3j oM0),by simp [eInt],sI,rfl,boq (by simp [y44]),rwq (by simp [eInt,C5]),Gc⟩⟩
theorem sc_eqW (u:Un) (f:Fl) (fq:FuncId) (hent:tb.fn fq=true) (step:List Int->Int->Int->Bool × List Int) (hlen:∀ st v t,(step st v t).2.length=st.length) (h:∀ st v t,st.length=f.types.length->SC Tryz.prog fq [iInt v,iInt t,.ptr 5 0] (ckSp u f 3 5 st) (λk=>k∈[3,5]) (iBool (step st v t).1) (ckSp u f 3 5 (step st v t).2))
 (st0:List Int) (hs:st0.length=f.types.length) (a b:List Int):SC Tryz.prog 225 [.pv (ints a),.pv (ints b),.fn (.func fq) [] [.ptr 5 0]] (ckSp u f 3 5 st0) (λk=>k∈[3,5]) (iBool (eqf step st0 a b).1) (ckSp u f 3 5 (eqf step st0 a b).2):=by
 refine SC.vc tb { gh:=[(0,[.len 0])] } [3,5] Tryz.func225 rfl rfl ?_
 intro hl
 simp only [A4] at hl
 have hl:a.length<=9223372036854775807:=hl
 unfold eqf
 refine z00 (λhc=>?_) λhc=>?_
 ·have hc:¬ (a.length:Int)=b.length:=by simpa using hc
  rw [if_neg hc]
  exact ⟨sI,rfl,rfl,rfl,Gc⟩
 have hc:(a.length:Int)=b.length:=by simpa using hc
 rw [if_pos hc]
 refine ⟨Nat × List Int,λq=>[(17,iInt ((q.1:Nat):Int))],λq=>ckSp u f 3 5 q.2,λq=>a.length - q.1,λq=>q.1<=a.length/\q.2.length=f.types.length/\eqGo step st0 a b=eqGo step q.2 (a.drop q.1) (b.drop q.1),[],(0,st0),⟨A8 _,hs,rfl⟩,Gd,Gf,?_⟩
 rintro ⟨i,st⟩ ⟨i1,i2,i3⟩
 dsimp only at i1 i2 i3
 refine z00 (λhc2=>?_) λhc2=>?_
 ·have hlt:i<a.length:=z0x (f:=eInt) rfl hc2
  obtain ⟨x,x1,x2,x3,x4⟩:=z0m hlt
  obtain ⟨y,y1,y2,y3,y4⟩:=z0m (show i<b.length by omega)
  have hS:=h st x y i2
  have hL:=hlen st x y
  rw [x3,y3,eqGo] at i3
  generalize step st x y=w at hS hL i3
  obtain ⟨w1,w2⟩:=w
  dsimp only at hS hL i3
  cases w1
  ·simp only [Ak,Bv] at i3
   rw [i3]
   exact ⟨z02 (f:=eInt) x1,rfl,z02 (f:=eInt) y1,rfl,z4u (b:=tb.fn fq) hent ⟨hS,sR,⟨rfl,by simp,rfl,by simp,rfl,Gc⟩,λk hk=>hk,rfl,rfl,sI,rfl,rfl,rfl,Gc⟩⟩
  ·simp only [C3] at i3
   exact ⟨z02 (f:=eInt) x1,rfl,z02 (f:=eInt) y1,rfl,z4u (b:=tb.fn fq) hent ⟨hS,sR,⟨rfl,by simp,rfl,by simp,rfl,Gc⟩,λk hk=>hk,rfl,rfl,z01 rfl oM0,(i+1,w2),z04 hlt,⟨hlt,hL.trans i2,i3⟩,Gd,Gf,rfl,rfl,rfl,rfl⟩⟩
 ·have hge:a.length<=i:=z0y (f:=eInt) rfl hc2
  rw [i3,A6 hge,eqGo]
  ·exact ⟨sI,rfl,rfl,rfl,Gc⟩
  ·intro x r y q hx;cases hx
theorem sc_eqU (u:Un) (f:Fl) (st:List Int) (hs:st.length=f.types.length) (a b:List Int):SC Tryz.prog 225 [.pv (ints a),.pv (ints b),.fn (.func 226) [] [.ptr 5 0]] (ckSp u f 3 5 st) (λk=>k∈[3,4,5]) (iBool (z0u f.types st a b)) (ckSp u f 3 5 st):=by
 refine SC.vc tb { gh:=[(0,[.len 0])] } [3,4,5] Tryz.func225 rfl rfl ?_
 intro hl
 simp only [A4] at hl
 have hl:a.length<=9223372036854775807:=hl
 unfold z0u eqf
 refine z00 (λhc=>?_) λhc=>?_
 ·have hc:¬ (a.length:Int)=b.length:=by simpa using hc
  rw [if_neg hc]
  exact ⟨sI,rfl,rfl,rfl,Gc⟩
 have hc:(a.length:Int)=b.length:=by simpa using hc
 rw [if_pos hc]
 refine ⟨Nat,λi=>[(17,iInt ((i:Nat):Int))],λ_=>ckSp u f 3 5 st,λi=>a.length - i,λi=>i<=a.length/\eqGo (zq9 f.types) st a b=eqGo (zq9 f.types) st (a.drop i) (b.drop i),[],0,⟨A8 _,rfl⟩,Gd,Gf,?_⟩
 rintro i ⟨i1,i3⟩
 refine z00 (λhc2=>?_) λhc2=>?_
 ·have hlt:i<a.length:=z0x (f:=eInt) rfl hc2
  obtain ⟨x,x1,x2,x3,x4⟩:=z0m hlt
  obtain ⟨y,y1,y2,y3,y4⟩:=z0m (show i<b.length by omega)
  have hS:=j1z u f st hs x y
  have hL:(zq9 f.types st x y).2=st:=rfl
  rw [x3,y3,eqGo,hL] at i3
  generalize (zq9 f.types st x y).1=w at hS i3
  cases w
  ·simp only [Ak,Bv] at i3
   rw [i3]
   exact ⟨z02 (f:=eInt) x1,rfl,z02 (f:=eInt) y1,rfl,hS,sR,⟨rfl,by simp,rfl,by simp,rfl,by simp,Gc⟩,λk hk=>hk,rfl,rfl,sI,rfl,rfl,rfl,Gc⟩
  ·simp only [C3] at i3
   exact ⟨z02 (f:=eInt) x1,rfl,z02 (f:=eInt) y1,rfl,hS,sR,⟨rfl,by simp,rfl,by simp,rfl,by simp,Gc⟩,λk hk=>hk,rfl,rfl,z01 rfl oM0,i+1,z04 hlt,⟨hlt,i3⟩,Gd,Gf,rfl,rfl,rfl,rfl⟩
 ·have hge:a.length<=i:=z0y (f:=eInt) rfl hc2
  rw [i3,A6 hge,eqGo]
  ·exact ⟨sI,rfl,rfl,rfl,Gc⟩
  ·intro x r y q hx;cases hx
theorem z2s (u:Un) (f:Fl) (st:List Int) (hs:st.length=f.types.length) (l want:List Int):SC Tryz.prog 198 [.ptr 3 0,.pv (ints l),.pv (ints want)] (ckS u f 3 st) (λ_=>True) (iBool (z0u f.types st l want)) (ckS u f 3 st):=by
 refine SC.sameR (SC.vc tb { ids:=[(3,5)] } [3,4] Tryz.func198 rfl rfl ?_) λk h _=>yv5 h
 exact ⟨[3,4,5],sc_eqU u f st hs l want,sR,⟨rfl,rfl,rfl,rfl,by simp,rfl,rfl,by simp,Gc⟩,rfl,sI,rfl,rfl,Gc⟩
theorem z4p (u:Un) (f:Fl) (st:List Int) (hs:st.length=f.types.length) (l want:List Int):SC Tryz.prog 200 [.ptr 3 0,.pv (ints l),.pv (ints want)] (ckS u f 3 st) (λk=>k=3) (iBool (z1k f.types st l want).1) (ckS u f 3 (z1k f.types st l want).2):=by
 refine SC.sameR (SC.vc tb { ids:=[(3,5)] } [3] Tryz.func200 rfl rfl ?_) λk _ h=>Ai.2 h
 exact ⟨[3,5],sc_eqW u f 227 rfl (z5o f.types) (z9b f.types) (λst v t h=>j1y u f st h v t) st hs l want,sR,⟨rfl,rfl,rfl,boq (by rw [A4,A4,show (eqf (z5o f.types) st l want).2.length=st.length from z21 f.types st l want]),by simp,rfl,Gc⟩,rfl,sI,boq (by simp [z21]),rfl,Gc⟩
theorem y5h (u:Un) (f:Fl) (st:List Int) (hs:st.length=f.types.length) (l:List Int) (hb:l.length<=34359738368):SC Tryz.prog 199 [.ptr 3 0,.pv (ints l)] (ckS u f 3 st) (λk=>k=3) (iBool (z1k f.types st l (List.replicate l.length 0)).1) (ckS u f 3 (z1k f.types st l (List.replicate l.length 0)).2):=by
 refine SC.sameR (SC.vc tb { pb:=[109] } [3] Tryz.func199 rfl rfl ?_) λk _ h=>Ai.2 h
 have h:=z4p u f st hs l (List.replicate l.length 0)
 refine ⟨rfl,VNum.mk (n:=l.length) (by rw [A4]) oM0 ?_⟩
 exact ⟨[3],h,SubA.same (SubA.same (SubA.cons (sE (by simp [ints,eInt];exact .inr rfl)) SubA.nil)),⟨rfl,boq (by simp [z21]),rfl,rfl,Gc⟩,rfl,sI,boq (by simp [z21]),rfl,Gc⟩
theorem yc9 (st l:List Int) (x:Int):z3e st (l++[x])=(z3e st l).set x.toNat 2:=by simp [z3e]
theorem y7x (u:Un) (f:Fl) (st:List Int) (hs:st.length=f.types.length) (l:List Int) (hin:∀ v∈l,0<=v/\v<f.types.length):SC Tryz.prog 127 [.ptr 3 0,.pv (ints l)] (ckS u f 3 st) (λk=>k=3) (.tup []) (ckS u f 3 (z3e st l)):=by
 refine SC.sameR (SC.vc tb { gh:=[(0,[.len 1])] } [3] Tryz.func127 rfl rfl ?_) λk _ h=>Ai.2 h
 intro hl
 simp only [A4] at hl
 have hl:l.length<=9223372036854775807:=hl
 refine ⟨Nat,λi=>[(8,iInt ((i:Nat):Int))],λi=>[(4,.row ⟨3,1⟩ ((z3e st (l.take i)).map eInt))],λi=>l.length - i,λi=>i<=l.length,[],0,A8 _,Gd,Gd,?_⟩
 intro i hi
 have hn:=z4h (l.take i) st
 refine z00 (λhc=>?_) λhc=>?_
 ·have hlt:i<l.length:=z0x (f:=eInt) rfl hc
  obtain ⟨x,x1,x2,x3,x4⟩:=z0m hlt
  obtain ⟨g1,g2⟩:=hin x x4
  exact ⟨z02 (f:=eInt) x1,rfl,by simp [hn],VIdR.mk (i:=x.toNat) (by rw [A4];omega) oM0 ⟨x.toNat,0,_,by simp [hn],rfl,z02 (f:=eInt) (z3j oM0),by simp [eInt],z01 rfl oM0,i+1,z04 hlt,hlt,Gd,⟨rwq (by rw [x2,yc9];simp [eInt,C5]),Gc⟩,rfl,rfl,rfl,rfl⟩⟩
 ·have hge:l.length<=i:=z0y (f:=eInt) rfl hc
  rw [Al hge]
  exact ⟨sI,boq (by simp [z4h]),rfl,Gc⟩
theorem zq5 (u:Un) (f:Fl) (st:List Int) (hs:st.length=f.types.length) (l:List Int) (hb:l.length<=34359738368):SC Tryz.prog 197 [.ptr 3 0,.pv (ints l)] (ckS u f 3 st) (λk=>k<100) (.pv (ints (r8of f.types l))) (ckS u f 3 st):=by
 refine SC.sameR (SC.vc tb { gh:=[(1,[.grow 4 1001 3 1]),(8,[.fz 4 1001])] } [3,4] Tryz.func197 rfl rfl ?_) λk h _=>yv5 h
 have hr:∀ x,z9c f.types x 0=zp4 f.types x:=λx=>by simp [z9c,zp4]
 refine ⟨Nat,λi=>[(9,iInt ((i:Nat):Int)),(4,.sl 1001 (((l.take i).map λv=>f.types.getD v.toNat 0).map eInt).length)],λi=>[(1001,.row ⟨3,1⟩ (((l.take i).map λv=>f.types.getD v.toNat 0).map eInt))],λi=>l.length - i,λi=>i<=l.length/\(l.take i).all (zp4 f.types)=true,[],0,⟨A8 _,by simp⟩,Ge,Gd,?_⟩
 rintro i ⟨hi,ha⟩
 refine z00 (λhc=>?_) λhc=>?_
 ·have hlt:i<l.length:=z0x (f:=eInt) rfl hc
  obtain ⟨x,x1,x2,x3,x4⟩:=z0m hlt
  have hV:=y5j u f st x 0
  rw [hr] at hV
  cases hv:zp4 f.types x
  ·rw [hv] at hV
   have hT:r8of f.types l=[]:=by
    unfold r8of
    rw [if_neg]
    intro h
    rw [Bc] at h
    have:=h x x4
    rw [hv] at this;cases this
   rw [hT]
   exact ⟨z02 (f:=eInt) x1,rfl,[3,4],hV,sR,⟨rfl,rfl,Gc,rfl,rfl,Gc,Gc⟩,rfl,sN,rfl,rfl,Gc⟩
  ·rw [hv] at hV
   obtain ⟨h1,h2,h3⟩:=y5r ((hr x).trans hv)
   refine ⟨z02 (f:=eInt) x1,rfl,[3,4],hV,sR,⟨rfl,rfl,Gc,rfl,rfl,Gc,Gc⟩,rfl,z02 (f:=eInt) (z3j h2),h3,rfl,z3x rfl,by simp;omega,z01 rfl oM0,i+1,z04 hlt,⟨hlt,by rw [x2];simp [ha,hv]⟩,⟨rfl,slq (by rw [x2];simp),Gc⟩,⟨rwq (by rw [x2];simp [eInt]),Gc⟩,rfl,rfl,rfl,rfl⟩
 ·have hge:l.length<=i:=z0y (f:=eInt) rfl hc
  rw [Al hge] at ha ⊢
  have hT:r8of f.types l=l.map λv=>f.types.getD v.toNat 0:=by unfold r8of;rw [if_pos ha]
  rw [hT]
  exact ⟨rfl,sI,rfl,rfl,Gc⟩
theorem ky {d:TypeDesc} {es:List (Value × PV)} (h:(es.all λe=>z1r d e.1)=true):∀ e∈es,z1r d e.1=true:=Bc.1 h
attribute [local simp] z1j r8op r8num yi5 r8kn Nd.kind Nd.op Nd.n Nd.name Nd.kids Nd.params z22 in
theorem j1q (x:Nd):SC Tryz.prog 169 [.pv (ndv x)] [] (λ_=>False) (iBool (z1j x)) []:=by
 refine SC.anyR (SC.vc tb {} [] Tryz.func169 rfl rfl ?_)
 obtain ⟨kind,op,n,name,args,outs,params,kids⟩:=x
 rcases (show kind=3∨kind=4∨kind=1∨kind=2∨kind=5∨kind=6∨kind=7∨kind=11∨kind=10∨(kind≠1/\kind≠2/\kind≠3/\kind≠4/\kind≠5/\kind≠6/\kind≠7/\kind≠11/\kind≠10) by omega) with rfl | rfl | rfl | rfl | rfl | rfl | rfl | rfl | rfl | h
 ·exact ⟨rfl,ky rfl,rfl,ky rfl,rfl,ky rfl,rfl,z00 (λh3=>z00 (λh2=>z00 (λh1=>⟨sE (A7 iBool (by simp_all)),Gc⟩) λh1=>⟨sE (A7 iBool (by simp_all)),Gc⟩) λh2=>⟨sE (A7 iBool (by simp_all)),Gc⟩) λh3=>⟨sE (A7 iBool (by simp_all)),Gc⟩⟩
 ·exact ⟨rfl,ky rfl,rfl,ky rfl,rfl,ky rfl,rfl,z00 (λh3=>z00 (λh2=>z00 (λh1=>⟨sE (A7 iBool (by simp_all)),Gc⟩) λh1=>⟨sE (A7 iBool (by simp_all)),Gc⟩) λh2=>⟨sE (A7 iBool (by simp_all)),Gc⟩) λh3=>⟨sE (A7 iBool (by simp_all)),Gc⟩⟩
 ·exact ⟨rfl,ky rfl,rfl,ky rfl,rfl,ky rfl,rfl,z00 (λh3=>z00 (λh2=>z00 (λh1=>⟨sE (A7 iBool (by simp_all)),Gc⟩) λh1=>⟨sE (A7 iBool (by simp_all)),Gc⟩) λh2=>⟨sE (A7 iBool (by simp_all)),Gc⟩) λh3=>⟨sE (A7 iBool (by simp_all)),Gc⟩⟩
 ·exact ⟨rfl,ky rfl,rfl,ky rfl,rfl,ky rfl,rfl,z00 (λh3=>z00 (λh2=>z00 (λh1=>⟨sE (A7 iBool (by simp_all)),Gc⟩) λh1=>⟨sE (A7 iBool (by simp_all)),Gc⟩) λh2=>⟨sE (A7 iBool (by simp_all)),Gc⟩) λh3=>⟨sE (A7 iBool (by simp_all)),Gc⟩⟩
 ·exact ⟨rfl,ky rfl,rfl,ky rfl,rfl,ky rfl,rfl,z00 (λh4=>z00 (λh3=>z00 (λh2=>z00 (λh1=>⟨sE (A7 iBool (by simp_all)),Gc⟩) λh1=>⟨sE (A7 iBool (by simp_all)),Gc⟩) λh2=>⟨sE (A7 iBool (by simp_all)),Gc⟩) λh3=>⟨sE (A7 iBool (by simp_all)),Gc⟩) λh4=>⟨sE (A7 iBool (by simp_all)),Gc⟩⟩
 ·exact ⟨rfl,ky rfl,rfl,ky rfl,rfl,ky rfl,rfl,z00 (λh4=>z00 (λh3=>z00 (λh2=>z00 (λh1=>⟨sE (A7 iBool (by simp_all)),Gc⟩) λh1=>⟨sE (A7 iBool (by simp_all)),Gc⟩) λh2=>⟨sE (A7 iBool (by simp_all)),Gc⟩) λh3=>⟨sE (A7 iBool (by simp_all)),Gc⟩) λh4=>⟨sE (A7 iBool (by simp_all)),Gc⟩⟩
 ·exact ⟨rfl,ky rfl,rfl,ky rfl,rfl,ky rfl,rfl,z00 (λh4=>z00 (λh3=>z00 (λh2=>z00 (λh1=>⟨sE (A7 iBool (by simp_all)),Gc⟩) λh1=>⟨sE (A7 iBool (by simp_all)),Gc⟩) λh2=>⟨sE (A7 iBool (by simp_all)),Gc⟩) λh3=>⟨sE (A7 iBool (by simp_all)),Gc⟩) λh4=>⟨sE (A7 iBool (by simp_all)),Gc⟩⟩
 ·exact ⟨rfl,ky rfl,rfl,ky rfl,rfl,ky rfl,rfl,z00 (λh3=>z00 (λh2=>z00 (λh1=>⟨sE (A7 iBool (by simp_all)),Gc⟩) λh1=>⟨sE (A7 iBool (by simp_all)),Gc⟩) λh2=>⟨sE (A7 iBool (by simp_all)),Gc⟩) λh3=>⟨sE (A7 iBool (by simp_all)),Gc⟩⟩
 ·exact ⟨rfl,ky rfl,rfl,ky rfl,rfl,ky rfl,rfl,z00 (λh4=>z00 (λh3=>z00 (λh2=>z00 (λh1=>⟨sE (A7 iBool (by simp_all)),Gc⟩) λh1=>⟨sE (A7 iBool (by simp_all)),Gc⟩) λh2=>⟨sE (A7 iBool (by simp_all)),Gc⟩) λh3=>⟨sE (A7 iBool (by simp_all)),Gc⟩) λh4=>⟨sE (A7 iBool (by simp_all)),Gc⟩⟩
 ·obtain ⟨k1,k2,k3,k4,k5,k6,k7,k8,k9⟩:=h
  have no:∀ {i:Int},kind≠i->(kind==i)=true->False:=λh e=>h (eq_of_beq e)
  exact ⟨rfl,ky rfl,rfl,ky rfl,VAsk.mk (p:=vInt 0) (b:=false) rfl (ky rfl) (by simp [Nd.kind,k8,k9,mput,keyB,z1f]<;>rfl) (z00 (λh=>(no k3 h).elim) λ_=>z00 (λh=>(no k4 h).elim) λ_=>z00 (λh=>(no k1 h).elim) λ_=>z00 (λh=>(no k2 h).elim) λ_=>z00 (λh=>(no k5 h).elim) λ_=>z00 (λh=>(no k6 h).elim) λ_=>z00 (λh=>(no k7 h).elim) λ_=>z00 (λh=>(no k8 h).elim) λ_=>z00 (λh4=>z00 (λh3=>z00 (λh2=>z00 (λh1=>⟨sE (A7 iBool (by simp_all)),Gc⟩) λh1=>⟨sE (A7 iBool (by simp_all)),Gc⟩) λh2=>⟨sE (A7 iBool (by simp_all)),Gc⟩) λh3=>⟨sE (A7 iBool (by simp_all)),Gc⟩) λh4=>⟨sE (A7 iBool (by simp_all)),Gc⟩)⟩
theorem yk9 (u:Un) (f:Fl) (st:List Int) (hs:st.length=f.types.length) (x:Nd):SC Tryz.prog 201 [.ptr 3 0,.pv (ndv x)] (ckS u f 3 st) (λk=>k=3) (iBool (y89 f st x).1) (ckS u f 3 (y89 f st x).2):=by
 refine SC.sameR (SC.vc tb { pb:=[103] } [3] Tryz.func201 rfl rfl ?_) λk _ h=>Ai.2 h
 unfold y89
 have hO:=y7y x.op
 generalize z30 x.op=q at hO ⊢
 obtain ⟨a,b⟩:=q
 dsimp only at hO ⊢
 have hS:=z4p u f st hs x.outs [b]
 refine ⟨[],hO,sR,Gc,rfl,z00 (λh=>?_) λh=>?_⟩
 ·rw [if_pos h]
  have hU:=z2s u f st hs x.args [a]
  refine z00 (λh1=>z00 (λh2=>?_) λh2=>?_) λh1=>?_
  ·rw [show z2t x.op=true by unfold z2t;rw [show decide (x.op ≥ 20)=true from h1,show decide (x.op<=28)=true from h2];rfl,B3]
   generalize z0u f.types st x.args [a]=c at hU ⊢
   cases c
   ·exact ⟨[],hU,sR,⟨rfl,Gc,rfl,Gc⟩,rfl,sI,rfl,rfl,Gc⟩
   ·exact ⟨[],hU,sR,⟨rfl,Gc,rfl,Gc⟩,rfl,[],hS,sR,Gf,rfl,sI,rfl,rfl,Gc⟩
  ·rw [show z2t x.op=false by unfold z2t;rw [show decide (x.op ≥ 20)=true from h1,show decide (x.op<=28)=false from h2];rfl,Cu]
   exact ⟨sI,rfl,rfl,Gc⟩
  ·rw [show z2t x.op=false by unfold z2t;rw [show decide (x.op ≥ 20)=false from h1];rfl,Cu]
   exact ⟨sI,rfl,rfl,Gc⟩
 ·rw [if_neg (by rw [show (x.kind==3)=false from h];decide)]
  have hU:=z2s u f st hs x.args [a,a]
  have hL:=y83 x.op
  refine ⟨[],hL,sR,Gc,rfl,z00 (λh1=>z00 (λh2=>?_) λh2=>?_) λh1=>?_⟩
  ·rw [show decide (z4a x.op > 0)=true from h1,show decide (x.op<=17)=true from h2,B3,B3]
   cases hc:z0u f.types st x.args [a,a]
   ·rw [hc] at hU
    exact ⟨[],hU,sR,⟨rfl,Gc,rfl,Gc⟩,rfl,sI,rfl,rfl,Gc⟩
   ·rw [hc] at hU
    obtain ⟨v,w,e0,e1,e2,e3,e4⟩:=yt2 hc
    have hi0:(x.args.map eInt)[0]? = some [vInt v]:=by rw [e0];rfl
    have hi1:(x.args.map eInt)[1]? = some [vInt w]:=by rw [e0];rfl
    rw [show x.args.getD 0 0=v by rw [e0];rfl,show x.args.getD 1 0=w by rw [e0];rfl,B3]
    refine ⟨[],hU,sR,⟨rfl,Gc,rfl,Gc⟩,rfl,hi0,rfl,z02 (f:=eInt) (z3j e2),e1,hi1,rfl,z02 (f:=eInt) (z3j e4),e3,z00 (λh3=>?_) λh3=>?_⟩
    ·rw [show (f.types.getD v.toNat 0==f.types.getD w.toNat 0)=true from h3]
     exact ⟨[],hS,sR,Gf,rfl,sI,rfl,rfl,Gc⟩
    ·rw [show (f.types.getD v.toNat 0==f.types.getD w.toNat 0)=false from h3]
     exact ⟨sI,rfl,rfl,Gc⟩
  ·rw [show decide (z4a x.op > 0)=true from h1,show decide (x.op<=17)=false from h2]
   exact ⟨sI,rfl,rfl,Gc⟩
  ·rw [show decide (z4a x.op > 0)=false from h1]
   exact ⟨sI,rfl,rfl,Gc⟩
theorem sc_shEnd (u:Un) (f:Fl) (st:List Int) (hs:st.length=f.types.length) (x:Nd) (wh:Wh):SC Tryz.prog 173 [.ptr 3 0,.pv (ndv x),.pv (whv wh)] (ckS u f 3 st) (λk=>k=3) (iBool (y86 f st x wh)) (ckS u f 3 st):=by
 refine SC.sameR (SC.vc tb { pb:=[104,105] } [3] Tryz.func173 rfl rfl ?_) λk _ h=>Ai.2 h
 unfold y86
 have hl:(x.outs.map eInt).length=x.outs.length:=A4 _
 generalize hZ:((x.outs.length:Int)==0)=z
 have hZ':(((x.outs.map eInt).length:Int)==0)=z:=by rw [hl];exact hZ
 rw [<- hZ']
 have hY:=z2s u f st hs x.args wh.Yield
 have hN:=z2s u f st hs x.args wh.Next
 have hL:=z2s u f st hs x.args wh.Left
 have hT:=z2s u f st hs x.args [f.ty]
 refine z00 (λh12=>?_) λh12=>z00 (λh13=>?_) λh13=>z00 (λh14=>?_) λh14=>?_
 ·rw [if_pos h12]
  refine z00 (λh1=>?_) λh1=>?_
  ·rw [show (((x.outs.map eInt).length:Int)==0)=true from h1,B3]
   refine z00 (λh2=>?_) λh2=>?_
   ·rw [show wh.If=true from h2,B3]
    exact ⟨[],hY,sR,⟨rfl,Gc,rfl,Gc⟩,rfl,sI,rfl,rfl,Gc⟩
   ·rw [show wh.If=false from h2]
    exact ⟨sI,rfl,rfl,Gc⟩
  ·rw [show (((x.outs.map eInt).length:Int)==0)=false from h1]
   exact ⟨sI,rfl,rfl,Gc⟩
 ·rw [if_neg (by rw [show (x.kind==12)=false from h12];decide),if_pos h13]
  refine z00 (λh1=>?_) λh1=>?_
  ·rw [show (((x.outs.map eInt).length:Int)==0)=true from h1,B3]
   refine z00 (λh2=>?_) λh2=>?_
   ·rw [show wh.Loop=true from h2,B3]
    exact ⟨[],hN,sR,⟨rfl,Gc,rfl,Gc⟩,rfl,sI,rfl,rfl,Gc⟩
   ·rw [show wh.Loop=false from h2]
    exact ⟨sI,rfl,rfl,Gc⟩
  ·rw [show (((x.outs.map eInt).length:Int)==0)=false from h1]
   exact ⟨sI,rfl,rfl,Gc⟩
 ·rw [if_neg (by rw [show (x.kind==12)=false from h12];decide),if_neg (by rw [show (x.kind==13)=false from h13];decide),if_pos h14]
  refine z00 (λh1=>?_) λh1=>?_
  ·rw [show (((x.outs.map eInt).length:Int)==0)=true from h1,B3]
   refine z00 (λh2=>?_) λh2=>?_
   ·rw [show wh.Loop=true from h2,B3]
    exact ⟨[],hL,sR,⟨rfl,Gc,rfl,Gc⟩,rfl,sI,rfl,rfl,Gc⟩
   ·rw [show wh.Loop=false from h2]
    exact ⟨sI,rfl,rfl,Gc⟩
  ·rw [show (((x.outs.map eInt).length:Int)==0)=false from h1]
   exact ⟨sI,rfl,rfl,Gc⟩
 ·rw [if_neg (by rw [show (x.kind==12)=false from h12];decide),if_neg (by rw [show (x.kind==13)=false from h13];decide),if_neg (by rw [show (x.kind==14)=false from h14];decide)]
  refine z00 (λh1=>?_) λh1=>?_
  ·rw [show (((x.outs.map eInt).length:Int)==0)=true from h1,B3]
   exact ⟨[],hT,sR,⟨rfl,Gc,rfl,Gc⟩,rfl,sI,rfl,rfl,Gc⟩
  ·rw [show (((x.outs.map eInt).length:Int)==0)=false from h1]
   exact ⟨sI,rfl,rfl,Gc⟩
theorem yc5 (u:Un) (f:Fl) (st:List Int) (hs:st.length=f.types.length) (hg:∀ g∈u.flows,0<=g.params/\g.params<=g.types.length) (x:Nd):SC Tryz.prog 174 [.ptr 3 0,.pv (ndv x)] (ckS u f 3 st) (λk=>k=3) (iBool (z2e u f st x).1) (ckS u f 3 (z2e u f st x).2):=by
 refine SC.sameR (SC.vc tb {} [3] Tryz.func174 rfl rfl ?_) λk _ h=>Ai.2 h
 obtain ⟨kind,op,n,name,args,outs,params,kids⟩:=x
 rcases (show kind=1∨kind=2∨kind=3∨kind=4∨kind=5∨kind=6∨kind=8∨kind=9∨kind=7∨(kind≠1/\kind≠2/\kind≠3/\kind≠4/\kind≠5/\kind≠6/\kind≠8/\kind≠9/\kind≠7) by omega) with rfl | rfl | rfl | rfl | rfl | rfl | rfl | rfl | rfl | h
 ·have e:z2e u f st (.mk 1 op n name args outs params kids)=andP (z0u f.types st args []) st (z1k f.types st outs [1]):=rfl
  rw [e]
  have h1:=z2s u f st hs args []
  generalize z0u f.types st args []=b at h1 ⊢
  cases b
  ·exact ⟨[],h1,SubA.same (SubA.same (SubA.cons sN SubA.nil)),⟨rfl,Gc,rfl,Gc⟩,rfl,sI,rfl,rfl,Gc⟩
  ·exact ⟨[],h1,SubA.same (SubA.same (SubA.cons sN SubA.nil)),⟨rfl,Gc,rfl,Gc⟩,rfl,[],z4p u f st hs outs [1],sR,Gf,rfl,sI,rfl,rfl,Gc⟩
 ·have e:z2e u f st (.mk 2 op n name args outs params kids)=andP ((n==0||n==1)&&z0u f.types st args []) st (z1k f.types st outs [2]):=rfl
  rw [e]
  have h1:=z2s u f st hs args []
  generalize z0u f.types st args []=b at h1 ⊢
  rcases (show n=0∨n=1∨((n==0)=false/\(n==1)=false) by simp;omega) with rfl | rfl | ⟨h2,h3⟩
  ·cases b
   ·exact ⟨[],h1,SubA.same (SubA.same (SubA.cons sN SubA.nil)),⟨rfl,Gc,rfl,Gc⟩,rfl,sI,rfl,rfl,Gc⟩
   ·exact ⟨[],h1,SubA.same (SubA.same (SubA.cons sN SubA.nil)),⟨rfl,Gc,rfl,Gc⟩,rfl,[],z4p u f st hs outs [2],sR,Gf,rfl,sI,rfl,rfl,Gc⟩
  ·cases b
   ·exact ⟨[],h1,SubA.same (SubA.same (SubA.cons sN SubA.nil)),⟨rfl,Gc,rfl,Gc⟩,rfl,sI,rfl,rfl,Gc⟩
   ·exact ⟨[],h1,SubA.same (SubA.same (SubA.cons sN SubA.nil)),⟨rfl,Gc,rfl,Gc⟩,rfl,[],z4p u f st hs outs [2],sR,Gf,rfl,sI,rfl,rfl,Gc⟩
  ·rw [show ((n==0||n==1)&&b)=false by rw [h2,h3];rfl]
   refine z00 (λh=>absurd (h.symm.trans h2) dC0) λ_=>z00 (λh=>absurd (h.symm.trans h3) dC0) λ_=>?_
   exact ⟨sI,rfl,rfl,Gc⟩
 ·exact ⟨[],yk9 u f st hs (.mk 3 op n name args outs params kids),sR,Gf,rfl,sI,rfl,rfl,Gc⟩
 ·exact ⟨[],yk9 u f st hs (.mk 4 op n name args outs params kids),sR,Gf,rfl,sI,rfl,rfl,Gc⟩
 ·have e:z2e u f st (.mk 5 op n name args outs params kids)=andP (decide (z0f name u.arrays 0 ≥ 0)&&z0u f.types st args [1]) st (z1k f.types st outs [1]):=rfl
  rw [e]
  have h0:=yk8 u name
  have h1:=z2s u f st hs args [1]
  generalize z0u f.types st args [1]=b at h1 ⊢
  generalize decide (z0f name u.arrays 0 ≥ 0)=c at h0 ⊢
  cases c
  ·exact ⟨[],h0,sR,Gc,rfl,sI,rfl,rfl,Gc⟩
  ·cases b
   ·exact ⟨[],h0,sR,Gc,rfl,[],h1,sR,⟨rfl,Gc,rfl,Gc⟩,rfl,sI,rfl,rfl,Gc⟩
   ·exact ⟨[],h0,sR,Gc,rfl,[],h1,sR,⟨rfl,Gc,rfl,Gc⟩,rfl,[],z4p u f st hs outs [1],sR,Gf,rfl,sI,rfl,rfl,Gc⟩
 ·have e:z2e u f st (.mk 6 op n name args outs params kids)=andP (decide (z0f name u.arrays 0 ≥ 0)&&z0u f.types st args [1,1]) st (z1k f.types st outs []):=rfl
  rw [e]
  have h0:=yk8 u name
  have h1:=z2s u f st hs args [1,1]
  generalize z0u f.types st args [1,1]=b at h1 ⊢
  generalize decide (z0f name u.arrays 0 ≥ 0)=c at h0 ⊢
  cases c
  ·exact ⟨[],h0,sR,Gc,rfl,sI,rfl,rfl,Gc⟩
  ·cases b
   ·exact ⟨[],h0,sR,Gc,rfl,[],h1,sR,⟨rfl,Gc,rfl,Gc⟩,rfl,sI,rfl,rfl,Gc⟩
   ·exact ⟨[],h0,sR,Gc,rfl,[],h1,sR,⟨rfl,Gc,rfl,Gc⟩,rfl,[],z4p u f st hs outs [],SubA.same (SubA.same (SubA.cons sN SubA.nil)),Gf,rfl,sI,rfl,rfl,Gc⟩
 ·have e:z2e u f st (.mk 8 op n name args outs params kids)=andP (z0u f.types st args []) st (z1k f.types st outs [1]):=rfl
  rw [e]
  have h1:=z2s u f st hs args []
  generalize z0u f.types st args []=b at h1 ⊢
  cases b
  ·exact ⟨[],h1,SubA.same (SubA.same (SubA.cons sN SubA.nil)),⟨rfl,Gc,rfl,Gc⟩,rfl,sI,rfl,rfl,Gc⟩
  ·exact ⟨[],h1,SubA.same (SubA.same (SubA.cons sN SubA.nil)),⟨rfl,Gc,rfl,Gc⟩,rfl,[],z4p u f st hs outs [1],sR,Gf,rfl,sI,rfl,rfl,Gc⟩
 ·have e:z2e u f st (.mk 9 op n name args outs params kids)=andP (z0u f.types st args [1]) st (z1k f.types st outs []):=rfl
  rw [e]
  have h1:=z2s u f st hs args [1]
  generalize z0u f.types st args [1]=b at h1 ⊢
  cases b
  ·exact ⟨[],h1,sR,⟨rfl,Gc,rfl,Gc⟩,rfl,sI,rfl,rfl,Gc⟩
  ·exact ⟨[],h1,sR,⟨rfl,Gc,rfl,Gc⟩,rfl,[],z4p u f st hs outs [],SubA.same (SubA.same (SubA.cons sN SubA.nil)),Gf,rfl,sI,rfl,rfl,Gc⟩
 ·have e:z2e u f st (.mk 7 op n name args outs params kids)=zu4 u f st (.mk 7 op n name args outs params kids):=rfl
  rw [e]
  refine ⟨[],zd4 u name,sR,Gc,rfl,z00 (λhc=>?_) λhc=>?_⟩
  ·rw [show zu4 u f st (.mk 7 op n name args outs params kids)=(false,st) from if_pos (Ao hc)]
   exact ⟨sI,rfl,rfl,Gc⟩
  ·have hl:¬ z05 name u.flows 0<0:=Am hc
   have hk0:z05 name u.flows 0 ≥ 0:=by omega
   obtain ⟨g,hgk,_⟩:=zc9 hk0
   obtain ⟨hgp0,hgpl⟩:=hg g (Af hgk)
   have e2:zu4 u f st (.mk 7 op n name args outs params kids)=andP (z0u f.types st args (g.types.take g.params.toNat)) st (z1k f.types st outs [g.ty]):=by
    show (if z05 name u.flows 0<0 then _ else match u.flows[(z05 name u.flows 0).toNat]? with | some g=>_ | none=>_)=_
    rw [if_neg hl,hgk]
    rfl
   rw [e2]
   have h1:=z2s u f st hs args (g.types.take g.params.toNat)
   generalize z0u f.types st args (g.types.take g.params.toNat)=b at h1 ⊢
   have hi:=z02 (f:=Fl.enc) hgk
   have hkn:(((z05 name u.flows 0).toNat:Nat):Int)=z05 name u.flows 0:=by omega
   have hpn:((g.params.toNat:Nat):Int)=g.params:=by omega
   have hle:0<=g.params.toNat:=A8 _
   have hge:g.params.toNat<=(g.types.map eInt).length:=by simp;omega
   cases b
   ·exact ⟨hi,hkn.symm,_,hpn.symm,hle,hge,zs5,[],h1,SubA.same (SubA.same (SubA.cons (sP (by simp only [ints,El];exact PSub.refl _)) SubA.nil)),⟨rfl,Gc,rfl,Gc⟩,rfl,sI,rfl,rfl,Gc⟩
   ·exact ⟨hi,hkn.symm,_,hpn.symm,hle,hge,zs5,[],h1,SubA.same (SubA.same (SubA.cons (sP (by simp only [ints,El];exact PSub.refl _)) SubA.nil)),⟨rfl,Gc,rfl,Gc⟩,rfl,[],z4p u f st hs outs [g.ty],sR,Gf,rfl,sI,rfl,rfl,Gc⟩
 ·obtain ⟨h1,h2,h3,h4,h5,h6,h8,h9,h7⟩:=h
  rw [show z2e u f st (.mk kind op n name args outs params kids)=(false,st) by unfold z2e;simp [Nd.kind,h1,h2,h3,h4,h5,h6,h7,h8,h9]]
  have no:∀ {i:Int},kind≠i->(kind==i)=true->False:=λh e=>h (eq_of_beq e)
  exact z00 (λh=>(no h1 h).elim) λ_=>z00 (λh=>(no h2 h).elim) λ_=>z00 (λh=>(no h3 h).elim) λ_=>z00 (λh=>(no h4 h).elim) λ_=>z00 (λh=>(no h5 h).elim) λ_=>z00 (λh=>(no h6 h).elim) λ_=>z00 (λh=>(no h8 h).elim) λ_=>z00 (λh=>(no h9 h).elim) λ_=>z00 (λh=>(no h7 h).elim) λ_=>⟨sI,rfl,rfl,Gc⟩
theorem zx2 (f:Fl) {x:Nd} (st:List Int) {c:Bool} (h:((x.outs.length:Int)==0 || !z07 x)=c):z48 f x st=andP c st (z1k f.types st x.outs (List.replicate x.outs.length 0)):=by rw [z48,h]
theorem yc3 (u:Un) (f:Fl) (st:List Int) (hs:st.length=f.types.length) (x:Nd) (ka kb:List Nd) (hkids:x.kids=[ka,kb]) (wh:Wh) (deep:Int) (hbo:x.outs.length<=34359738368) (ih:∀ q∈x.kids,∀ (w:Wh) (st:List Int),st.length=f.types.length->SC Tryz.prog 72 [.ptr 3 0,.pv (z1n q),.pv (whv w),iInt deep] (ckS u f 3 st) (λk=>k=3) (iBool (z1x u f deep w st q).1) (ckS u f 3 (z1x u f deep w st q).2)):SC Tryz.prog 170 [.ptr 3 0,.pv (ndv x),.pv (whv wh),iInt deep] (ckS u f 3 st) (λk=>k=3) (iBool (if z0u f.types st x.args [2] then andQ (z1x u f deep ⟨true,wh.Loop,r8of f.types x.outs,wh.Next,wh.Left⟩ st ka) (λs1=>andQ (z1x u f deep ⟨true,wh.Loop,r8of f.types x.outs,wh.Next,wh.Left⟩ s1 kb) λs2=>z48 f x s2) else (false,st)).1) (ckS u f 3 (if z0u f.types st x.args [2] then andQ (z1x u f deep ⟨true,wh.Loop,r8of f.types x.outs,wh.Next,wh.Left⟩ st ka) (λs1=>andQ (z1x u f deep ⟨true,wh.Loop,r8of f.types x.outs,wh.Next,wh.Left⟩ s1 kb) λs2=>z48 f x s2) else (false,st)).2):=by
 refine SC.sameR (SC.vc tb {} [3] Tryz.func170 rfl rfl ?_) λk _ h=>Ai.2 h
 have hi0:(x.kids.map eKid)[0]? = some [z1n ka]:=by rw [hkids];rfl
 have hi1:(x.kids.map eKid)[1]? = some [z1n kb]:=by rw [hkids];rfl
 have hm0:ka∈x.kids:=by rw [hkids];exact .head _
 have hm1:kb∈x.kids:=by rw [hkids];exact .tail _ (.head _)
 have hT:=zq5 u f st hs x.outs hbo
 have h1:=z2s u f st hs x.args [2]
 have h2:=ih ka hm0 ⟨true,wh.Loop,r8of f.types x.outs,wh.Next,wh.Left⟩ st hs
 have l2:=(z99 u f deep ⟨true,wh.Loop,r8of f.types x.outs,wh.Next,wh.Left⟩ st ka).trans hs
 have hC:=zh5 x
 generalize z0u f.types st x.args [2]=b1 at h1 ⊢
 generalize z1x u f deep ⟨true,wh.Loop,r8of f.types x.outs,wh.Next,wh.Left⟩ st ka=R2 at h2 l2 ⊢
 obtain ⟨b2,st2⟩:=R2
 have h3:=ih kb hm1 ⟨true,wh.Loop,r8of f.types x.outs,wh.Next,wh.Left⟩ st2 l2
 have l3:=(z99 u f deep ⟨true,wh.Loop,r8of f.types x.outs,wh.Next,wh.Left⟩ st2 kb).trans l2
 cases b1
 ·exact ⟨[],hT,sR,⟨rfl,by decide,rfl,Gc⟩,rfl,[],h1,sR,⟨rfl,Gc,rfl,Gc⟩,rfl,sI,rfl,rfl,Gc⟩
 cases b2
 ·exact ⟨[],hT,sR,⟨rfl,by decide,rfl,Gc⟩,rfl,[],h1,sR,⟨rfl,Gc,rfl,Gc⟩,rfl,hi0,rfl,[],h2,sR,Gf,rfl,sI,rfl,rfl,Gc⟩
 rw [show andQ (true,st2) (λs1=>andQ (z1x u f deep ⟨true,wh.Loop,r8of f.types x.outs,wh.Next,wh.Left⟩ s1 kb) λs2=>z48 f x s2)=andQ (z1x u f deep ⟨true,wh.Loop,r8of f.types x.outs,wh.Next,wh.Left⟩ st2 kb) (λs2=>z48 f x s2) from rfl]
 generalize z1x u f deep ⟨true,wh.Loop,r8of f.types x.outs,wh.Next,wh.Left⟩ st2 kb=R3 at h3 l3 ⊢
 obtain ⟨b3,st3⟩:=R3
 cases b3
 ·exact ⟨[],hT,sR,⟨rfl,by decide,rfl,Gc⟩,rfl,[],h1,sR,⟨rfl,Gc,rfl,Gc⟩,rfl,hi0,rfl,[],h2,sR,Gf,rfl,hi1,rfl,[],h3,sR,Gf,rfl,sI,rfl,rfl,Gc⟩
 rw [show andQ (true,st3) (λs2=>z48 f x s2)=z48 f x st3 from rfl]
 have hA:=y5h u f st3 l3 x.outs hbo
 refine ⟨[],hT,sR,⟨rfl,by decide,rfl,Gc⟩,rfl,[],h1,sR,⟨rfl,Gc,rfl,Gc⟩,rfl,hi0,rfl,[],h2,sR,Gf,rfl,hi1,rfl,[],h3,sR,Gf,rfl,z00 (λh=>?_) λh=>?_⟩
 ·rw [zx2 f st3 (c:=true) (by rw [A4] at h;rw [h,B9])]
  exact ⟨[],hA,sR,Gf,rfl,sI,rfl,rfl,Gc⟩
 ·rw [A4] at h
  have hq:((x.outs.length:Int)==0 || !z07 x) = !z07 x:=by rw [h,C7]
  rw [zx2 f st3 hq]
  generalize z07 x=c at hC ⊢
  cases c
  ·exact ⟨[],hC,sR,Gc,rfl,[],hA,sR,Gf,rfl,sI,rfl,rfl,Gc⟩
  ·exact ⟨[],hC,sR,Gc,rfl,sI,rfl,rfl,Gc⟩
theorem j1w (u:Un) (f:Fl) (st:List Int) (hs:st.length=f.types.length) (x:Nd) (ka:List Nd) (hkids:x.kids=[ka]) (deep:Int) (hbo:x.outs.length<=34359738368) (hbp:x.params.length<=34359738368) (ih:∀ q∈x.kids,∀ (w:Wh) (st:List Int),st.length=f.types.length->SC Tryz.prog 72 [.ptr 3 0,.pv (z1n q),.pv (whv w),iInt deep] (ckS u f 3 st) (λk=>k=3) (iBool (z1x u f deep w st q).1) (ckS u f 3 (z1x u f deep w st q).2)):SC Tryz.prog 171 [.ptr 3 0,.pv (ndv x),iInt deep] (ckS u f 3 st) (λk=>k=3) (iBool (if z0u f.types st x.args (r8of f.types x.params) then andQ (z1k f.types st x.params (List.replicate x.params.length 0)) (λs1=>andQ (z1x u f deep ⟨false,true,[],r8of f.types x.params,r8of f.types x.outs⟩ s1 ka) λs2=>z48 f x (z3e s2 x.params)) else (false,st)).1) (ckS u f 3 (if z0u f.types st x.args (r8of f.types x.params) then andQ (z1k f.types st x.params (List.replicate x.params.length 0)) (λs1=>andQ (z1x u f deep ⟨false,true,[],r8of f.types x.params,r8of f.types x.outs⟩ s1 ka) λs2=>z48 f x (z3e s2 x.params)) else (false,st)).2):=by
 refine SC.sameR (SC.vc tb {} [3] Tryz.func171 rfl rfl ?_) λk _ h=>Ai.2 h
 have hi0:(x.kids.map eKid)[0]? = some [z1n ka]:=by rw [hkids];rfl
 have hm0:ka∈x.kids:=by rw [hkids];exact .head _
 have hT:=zq5 u f st hs x.params hbp
 have hT2:=zq5 u f st hs x.outs hbo
 have h1:=z2s u f st hs x.args (r8of f.types x.params)
 have hA1:=y5h u f st hs x.params hbp
 have l1:=(z21 f.types st x.params (List.replicate x.params.length 0)).trans hs
 have hC:=zh5 x
 generalize z0u f.types st x.args (r8of f.types x.params)=b1 at h1 ⊢
 cases b1
 ·exact ⟨[],hT,sR,⟨rfl,by decide,rfl,Gc⟩,rfl,[],hT2,sR,⟨rfl,by decide,rfl,Gc⟩,rfl,[],h1,sR,⟨rfl,Gc,rfl,Gc⟩,rfl,sI,rfl,rfl,Gc⟩
 have hpin:(z1k f.types st x.params (List.replicate x.params.length 0)).1=true->∀ v∈x.params,0<=v/\v<f.types.length:=λh=>y1i h
 generalize z1k f.types st x.params (List.replicate x.params.length 0)=R2 at hA1 l1 hpin ⊢
 obtain ⟨b2,st1⟩:=R2
 cases b2
 ·exact ⟨[],hT,sR,⟨rfl,by decide,rfl,Gc⟩,rfl,[],hT2,sR,⟨rfl,by decide,rfl,Gc⟩,rfl,[],h1,sR,⟨rfl,Gc,rfl,Gc⟩,rfl,[],hA1,sR,Gf,rfl,sI,rfl,rfl,Gc⟩
 have hpin:=hpin rfl
 have h2:=ih ka hm0 ⟨false,true,[],r8of f.types x.params,r8of f.types x.outs⟩ st1 l1
 have l2:=(z99 u f deep ⟨false,true,[],r8of f.types x.params,r8of f.types x.outs⟩ st1 ka).trans l1
 rw [show andQ (true,st1) (λs1=>andQ (z1x u f deep ⟨false,true,[],r8of f.types x.params,r8of f.types x.outs⟩ s1 ka) λs2=>z48 f x (z3e s2 x.params))=andQ (z1x u f deep ⟨false,true,[],r8of f.types x.params,r8of f.types x.outs⟩ st1 ka) (λs2=>z48 f x (z3e s2 x.params)) from rfl]
 generalize z1x u f deep ⟨false,true,[],r8of f.types x.params,r8of f.types x.outs⟩ st1 ka=R3 at h2 l2 ⊢
 obtain ⟨b3,st2⟩:=R3
 cases b3
 ·exact ⟨[],hT,sR,⟨rfl,by decide,rfl,Gc⟩,rfl,[],hT2,sR,⟨rfl,by decide,rfl,Gc⟩,rfl,[],h1,sR,⟨rfl,Gc,rfl,Gc⟩,rfl,[],hA1,sR,Gf,rfl,hi0,rfl,[],h2,SubA.same (SubA.same (SubA.cons (sP (z0e _)) sR)),Gf,rfl,sI,rfl,rfl,Gc⟩
 have hH:=y7x u f st2 l2 x.params hpin
 have l3:=(z4h x.params st2).trans l2
 rw [show andQ (true,st2) (λs2=>z48 f x (z3e s2 x.params))=z48 f x (z3e st2 x.params) from rfl]
 generalize z3e st2 x.params=st3 at hH l3 ⊢
 have hA:=y5h u f st3 l3 x.outs hbo
 refine ⟨[],hT,sR,⟨rfl,by decide,rfl,Gc⟩,rfl,[],hT2,sR,⟨rfl,by decide,rfl,Gc⟩,rfl,[],h1,sR,⟨rfl,Gc,rfl,Gc⟩,rfl,[],hA1,sR,Gf,rfl,hi0,rfl,[],h2,SubA.same (SubA.same (SubA.cons (sP (z0e _)) sR)),Gf,rfl,[],hH,sR,Gf,rfl,z00 (λh=>?_) λh=>?_⟩
 ·rw [zx2 f st3 (c:=true) (by rw [A4] at h;rw [h,B9])]
  exact ⟨[],hA,sR,Gf,rfl,sI,rfl,rfl,Gc⟩
 ·rw [A4] at h
  have hq:((x.outs.length:Int)==0 || !z07 x) = !z07 x:=by rw [h,C7]
  rw [zx2 f st3 hq]
  generalize z07 x=c at hC ⊢
  cases c
  ·exact ⟨[],hC,sR,Gc,rfl,[],hA,sR,Gf,rfl,sI,rfl,rfl,Gc⟩
  ·exact ⟨[],hC,sR,Gc,rfl,sI,rfl,rfl,Gc⟩
theorem j1x (u:Un) (f:Fl) (hg:∀ g∈u.flows,0<=g.params/\g.params<=g.types.length) (x:Nd) (deep:Int) (hd:0<=deep/\deep<=100) (wh:Wh) (st:List Int) (hs:st.length=f.types.length) (hbo:x.outs.length<=34359738368) (hbp:x.params.length<=34359738368) (ih:∀ q∈x.kids,∀ (w:Wh) (st:List Int),st.length=f.types.length->SC Tryz.prog 72 [.ptr 3 0,.pv (z1n q),.pv (whv w),iInt (deep+1)] (ckS u f 3 st) (λk=>k=3) (iBool (z1x u f (deep+1) w st q).1) (ckS u f 3 (z1x u f (deep+1) w st q).2)) :
 SC Tryz.prog 125 [.ptr 3 0,.pv (ndv x),.pv (whv wh),iInt deep] (ckS u f 3 st) (λk=>k=3) (iBool (z5r u f deep wh st x).1) (ckS u f 3 (z5r u f deep wh st x).2):=by
 refine SC.sameR (SC.vc tb { pb:=[105,106] } [3] Tryz.func125 rfl rfl ?_) λk _ h=>Ai.2 h
 have hB:=j1q x
 cases hb:z1j x
 ·rw [hb] at hB
  rw [zh9 u f deep wh st hb]
  exact ⟨[],hB,sR,Gc,rfl,sI,rfl,rfl,Gc⟩
 rw [hb] at hB
 refine ⟨[],hB,sR,Gc,rfl,z00 (λh10=>?_) λh10=>?_⟩
 ·have hk:x.kind=10:=eq_of_beq h10
  obtain ⟨a,b,hkids⟩:=z3o hb hk
  rw [y1h u f deep wh st hb hk hkids]
  have hC:=yc3 u f st hs x a b hkids wh (deep+1) hbo ih
  generalize (if z0u f.types st x.args [2] then andQ (z1x u f (deep+1) ⟨true,wh.Loop,r8of f.types x.outs,wh.Next,wh.Left⟩ st a) (λs1=>andQ (z1x u f (deep+1) ⟨true,wh.Loop,r8of f.types x.outs,wh.Next,wh.Left⟩ s1 b) λs2=>z48 f x s2) else (false,st))=r at hC ⊢
  exact ⟨z01 rfl oM0,[],hC,sR,Gf,rfl,sI,rfl,rfl,Gc⟩
 refine z00 (λh11=>?_) λh11=>?_
 ·have hk:x.kind=11:=eq_of_beq h11
  obtain ⟨a,hkids⟩:=z1y hb hk
  rw [zi0 u f deep wh st hb hk hkids]
  have hC:=j1w u f st hs x a hkids (deep+1) hbo hbp ih
  generalize (if z0u f.types st x.args (r8of f.types x.params) then andQ (z1k f.types st x.params (List.replicate x.params.length 0)) (λs1=>andQ (z1x u f (deep+1) ⟨false,true,[],r8of f.types x.params,r8of f.types x.outs⟩ s1 a) λs2=>z48 f x (z3e s2 x.params)) else (false,st))=r at hC ⊢
  exact ⟨z01 rfl oM0,[],hC,sR,Gf,rfl,sI,rfl,rfl,Gc⟩
 have hE:=j1r x
 cases he:z0t x.kind
 ·rw [he] at hE
  rw [z9a u f deep wh st hb h10 h11 he]
  have hC:=yc5 u f st hs hg x
  generalize z2e u f st x=r at hC ⊢
  exact ⟨[],hE,sR,Gc,rfl,[],hC,sR,Gf,rfl,sI,rfl,rfl,Gc⟩
 ·rw [he] at hE
  rw [zq8 u f deep wh st hb h10 h11 he]
  exact ⟨[],hE,sR,Gc,rfl,[],sc_shEnd u f st hs x wh,sR,Gf,rfl,sI,rfl,rfl,Gc⟩
theorem zf0 (st:List Int) (l:List Nd) (x:Nd):z47 st (l++[x])=z3e (z47 st l) x.outs:=by simp [z47]
theorem y5i (N:Nat):∀ (u:Un) (f:Fl) (hg:∀ g∈u.flows,0<=g.params/\g.params<=g.types.length) (l:List Nd) (deep:Int) (hd:0<=deep/\deep<=101) (wh:Wh) (st:List Int) (hs:st.length=f.types.length) (hb:lsW l<=34359738368),SizeOf.sizeOf l<N->SC Tryz.prog 72 [.ptr 3 0,.pv (z1n l),.pv (whv wh),iInt deep] (ckS u f 3 st) (λk=>k=3) (iBool (z1x u f deep wh st l).1) (ckS u f 3 (z1x u f deep wh st l).2):=by
 induction N with
 | zero=>intro u f hg l deep hd wh st hs hb hN;exact absurd hN (Ae _)
 | succ N ih =>
  intro u f hg l deep hd wh st hs hb hN
  refine SC.sameR (SC.vc tb { pb:=[106,110,112],gh:=[(0,[.len 1])] } [3] Tryz.func72 rfl rfl ?_) λk _ h=>Ai.2 h
  intro hl
  simp only [A4] at hl
  have hl:l.length<=9223372036854775807:=hl
  have ll:(l.map Nd.enc).length=l.length:=A4 _
  unfold z1x
  refine ⟨Nat × List Int,λq=>[(15,iInt ((q.1:Nat):Int))],λq=>ckS u f 3 q.2,λq=>l.length - q.1,λq=>q.1<=l.length/\q.2.length=f.types.length/\shGo u f deep wh st l=shGo u f deep wh q.2 (l.drop q.1),[],(0,st),⟨A8 _,hs,rfl⟩,Gd,Ge,?_⟩
  rintro ⟨i,s⟩ ⟨i1,i2,i3⟩
  dsimp only at i1 i2 i3
  refine z00 (λhc=>?_) λhc=>?_
  ·have hlt:i<l.length:=z0x (f:=Nd.enc) rfl hc
   obtain ⟨x,x1,x2,x3,x4⟩:=z0m hlt
   have hw:=y4k x4
   rw [z9l] at hw
   rw [x3,shGo] at i3
   refine ⟨z08 x1,rfl,z00 (λh1=>?_) λh1=>?_⟩
   ·have h1:deep > 100:=Ao h1
    rw [if_pos h1] at i3
    rw [i3]
    exact ⟨sI,rfl,rfl,Gc⟩
   have h1:¬ deep > 100:=Am h1
   rw [if_neg h1] at i3
   have hX:=j1x u f hg x deep ⟨hd.1,by omega⟩ wh s i2 oM0 oM0 λq hq w st hs=>ih u f hg q (deep+1) ⟨by omega,by omega⟩ w st hs (by have:=z86 hq;omega) (Ba (z9i x4 rfl hq) (C2 hN))
   have hXl:=(zl7 u f x deep wh s).trans i2
   generalize z5r u f deep wh s x=r at hX hXl i3
   obtain ⟨b,s2⟩:=r
   dsimp only at hX hXl
   cases b
   ·rw [show andQ (false,s2) (λs1=>if (z07 x != (l.drop (i+1)).isEmpty)=true then (false,s1) else shGo u f deep wh s1 (l.drop (i+1)))=(false,s2) from rfl] at i3
    rw [i3]
    exact ⟨[],hX,sR,Gf,rfl,sI,rfl,rfl,Gc⟩
   rw [show andQ (true,s2) (λs1=>if (z07 x != (l.drop (i+1)).isEmpty)=true then (false,s1) else shGo u f deep wh s1 (l.drop (i+1)))=(if (z07 x != (l.drop (i+1)).isEmpty)=true then (false,s2) else shGo u f deep wh s2 (l.drop (i+1))) from rfl] at i3
   have hem:(l.drop (i+1)).isEmpty=((i:Int)==((l.map Nd.enc).length:Int) - 1):=by
    rw [D7,Fq,List.drop_eq_nil_iff,As,ll]
    omega
   rw [hem] at i3
   refine ⟨[],hX,sR,Gf,rfl,[],zh5 x,sR,Gc,rfl,z3k rfl (by rw [ll];omega),z00 (λh2=>?_) λh2=>?_⟩
   ·have h2:(z07 x != ((i:Int)==((l.map Nd.enc).length:Int) - 1))=true:=h2
    rw [if_pos h2] at i3
    rw [i3]
    exact ⟨sI,rfl,rfl,Gc⟩
   ·rw [if_neg (by rw [show (z07 x != ((i:Int)==((l.map Nd.enc).length:Int) - 1))=false from h2];decide)] at i3
    exact ⟨z01 rfl oM0,(i+1,s2),z04 hlt,⟨hlt,hXl,i3⟩,Gd,Ge,rfl,rfl,rfl,rfl⟩
  ·have hge:l.length<=i:=z0y (f:=Nd.enc) rfl hc
   have hgo:shGo u f deep wh st l=(true,s):=by rw [i3,A6 hge,shGo]
   have ho:=y88 (u:=u) (f:=f) (deep:=deep) (w:=wh) (l:=l) (st:=st) (by rw [hgo])
   rw [hgo,show andQ (true,s) (y87 l)=(decide ((l.length:Int) > 0),z47 s l) from rfl]
   refine ⟨Nat,λj=>[(43,iInt ((j:Nat):Int))],λj=>ckS u f 3 (z47 s (l.take j)),λj=>l.length - j,λj=>j<=l.length,[],0,A8 _,Gd,Ge,?_⟩
   intro j hj
   refine z00 (λhc=>?_) λhc=>?_
   ·have hlt:j<l.length:=z0x (f:=Nd.enc) rfl hc
    obtain ⟨x,x1,x2,x3,x4⟩:=z0m hlt
    have hH:=y7x u f (z47 s (l.take j)) ((z6l (l.take j) s).trans i2) x.outs (ho x x4)
    exact ⟨z08 x1,rfl,[],hH,sR,Gf,rfl,z01 rfl oM0,j+1,z04 hlt,hlt,Gd,⟨boq (by rw [x2,zf0]),rwq (by rw [x2,zf0]),Gc⟩,rfl,rfl,rfl,rfl⟩
   ·have hge:l.length<=j:=z0y (f:=Nd.enc) rfl hc
    rw [Al hge]
    exact ⟨sE (by rw [ll]),rfl,rfl,Gc⟩
theorem j1v (u:Un) (f:Fl) (hg:∀ g∈u.flows,0<=g.params/\g.params<=g.types.length) (l:List Nd) (deep:Int) (hd:0<=deep/\deep<=101) (wh:Wh) (st:List Int) (hs:st.length=f.types.length) (hb:lsW l<=34359738368):SC Tryz.prog 72 [.ptr 3 0,.pv (z1n l),.pv (whv wh),iInt deep] (ckS u f 3 st) (λk=>k=3) (iBool (z1x u f deep wh st l).1) (ckS u f 3 (z1x u f deep wh st l).2):=y5i _ u f hg l deep hd wh st hs hb (A5 _)
theorem j1s (u:Un) (f:Fl) (hg:∀ g∈u.flows,0<=g.params/\g.params<=g.types.length) (hp:0<=f.params/\f.params<=f.types.length) (hb:lsW f.body<=34359738368):SC Tryz.prog 40 [.pv u.enc,.pv (.agg f.enc)] [] (λ_=>False) (iBool (y1g u f)) []:=by
 refine SC.anyR (SC.vc tb { pb:=[102,103],ids:=[(26,4),(28,3)] } [] Tryz.func40 rfl rfl ?_)
 unfold y1g
 have hl:((f.types.map eInt).length:Int)=f.types.length:=by rw [A4]
 refine z00 (λh1=>?_) λh1=>?_
 ·rw [show decide (f.params > 8)=true from h1]
  exact ⟨sI,Gc⟩
 rw [show decide (f.params > 8)=false from h1,C7]
 refine z00 (λh2=>?_) λh2=>?_
 ·have h2:decide (((f.types.map eInt).length:Int) > 20000)=true:=h2
  rw [hl] at h2
  rw [h2]
  exact ⟨sI,Gc⟩
 have h2:decide (((f.types.map eInt).length:Int) > 20000)=false:=h2
 rw [hl] at h2
 rw [h2,C7]
 have hT:=sc_hasIn 71 [] rfl (λt=>!isTy t) f.types λx _=>SC.anyR (sc_flow1 x)
 generalize (f.types.any λt=>!isTy t)=c at hT ⊢
 cases c
 ·have h2':=Am h2
  refine ⟨[],hT,SubA.same sFn,Gc,rfl,rfl,VNum.mk (n:=f.types.length) hl oM0 ?_⟩
  refine ⟨by simp,Nat,λi=>[(31,iInt ((i:Nat):Int))],λi=>ckS u f 3 (zl5 i f.types.length),λi=>f.params.toNat - i,λi=>(i:Int)<=f.params,[],0,by show ((0:Nat):Int)<=_;omega,Gd,⟨boq (by simp [y44,zl5];rfl),rwq (by simp [zl5,eInt];exact .inr rfl),Gc⟩,?_⟩
  intro i hi
  have hsl:=zu3 (k:=i) (n:=f.types.length) oM0
  refine z00 (λhc=>?_) λhc=>?_
  ·have hlt:(i:Int)<f.params:=Ao hc
   have hss:=j29 (k:=i) (n:=f.types.length) oM0
   exact ⟨rfl,VIdR.mk (i:=i) (by rw [A4];omega) rfl ⟨i,0,_,rfl,rfl,z02 (f:=eInt) (z3j (show i<(zl5 i f.types.length).length by omega)),by simp [eInt],z01 rfl oM0,i+1,(by show f.params.toNat - (i+1)<f.params.toNat - i;omega),(by show ((i+1:Nat):Int)<=f.params;omega),Gd,⟨boq (by rw [<- hss];simp [y44]),rwq (by rw [<- hss];simp [eInt,C5]),Gc⟩,rfl,rfl,rfl,rfl⟩⟩
  ·have hge:¬ (i:Int)<f.params:=Am hc
   have hi2:i=f.params.toNat:=by omega
   subst hi2
   have hL:=j1v u f hg f.body 1 ⟨by decide,by decide⟩ z2z (zl5 f.params.toNat f.types.length) oM0 hb
   exact ⟨[],hL,SubA.same (SubA.same (SubA.cons (sP (z0e _)) (SubA.same SubA.nil))),Ge,rfl,sI,Gc⟩
 ·exact ⟨[],hT,SubA.same sFn,Gc,rfl,sI,Gc⟩
theorem j1u (u:Un) (hW:z0g u<=34359738368):SC Tryz.prog 39 [.pv u.enc] [] (λ_=>False) (iBool (z8q u)) []:=by
 refine SC.anyR (SC.vc tb {} [] Tryz.func39 rfl rfl ?_)
 have hw1:u.arrays.length<=z0g u:=by unfold z0g;omega
 have hw2:u.flows.length<=z0g u:=by unfold z0g;omega
 refine ⟨Nat × List (Value × PV),λ(k,_)=>[(13,iInt k)],λ(_,es)=>[(109,.map es)],λ(k,_)=>u.arrays.length - k,λ(k,es)=>k<=u.arrays.length/\u.arrays.all zv2=(u.arrays.drop k).all zv2/\zy2 [] u.arrays=zy2 es (u.arrays.drop k)/\Cnt es,[],(0,[]),⟨A8 _,rfl,rfl,Cnt.nil⟩,Gd,Gd,?_⟩
 rintro ⟨k,es⟩ ⟨hk,hA,hC,hes⟩
 refine z00 (λhc=>?_) λhc=>?_
 ·have hlt:=z0x (f:=Ar.enc) rfl hc
  obtain ⟨a,ha,_,hd,_⟩:=z0m hlt
  rw [hd] at hA hC
  rw [D4] at hA
  obtain ⟨n,hn⟩:=hes.find (.string a.name)
  have bad:zv2 a=false->SubI (iBool false) (iBool (z8q u)):=λh=>sE (by unfold z8q;rw [hA,h];rfl)
  have hNm:=z7i a.name
  cases hN:z0i a.name with
  | false =>
   rw [hN] at hNm
   exact ⟨z02 (f:=Ar.enc) ha,rfl,VAsk.mk (p:=vInt n) (b:=(z1f (.string a.name) es).isSome) rfl hes.1 (E4 hn rfl) ⟨rfl,rfl,hes.1,[],hNm,sR,Gc,rfl,bad (by unfold zv2;rw [hN];rfl),Gc⟩⟩
  | true =>
   rw [hN] at hNm
   refine ⟨z02 (f:=Ar.enc) ha,rfl,VAsk.mk (p:=vInt n) (b:=(z1f (.string a.name) es).isSome) rfl hes.1 (E4 hn rfl) ⟨rfl,rfl,hes.1,[],hNm,sR,Gc,rfl,z00 (λh1=>⟨bad (by unfold zv2;rw [hN,show decide (a.size<1)=true from h1];rfl),Gc⟩) λh1=>z00 (λh2=>⟨bad (by unfold zv2;rw [hN,show decide (a.size<1)=false from h1,show decide (a.size > 1000)=true from h2];rfl),Gc⟩) λh2=>?_⟩⟩
   have good:zv2 a=true:=by unfold zv2;rw [hN,show decide (a.size<1)=false from h1,show decide (a.size > 1000)=false from h2];rfl
   exact ⟨z01 rfl oM0,(k+1,bump a.name es),z04 hlt,⟨hlt,by rw [hA,good];rfl,hC,hes.bump _⟩,Gd,⟨mpq (zf4 hn).symm,Gc⟩,rfl,rfl,rfl,rfl⟩
 ·have hge:=z0y (f:=Ar.enc) rfl hc
  rw [A6 hge] at hA hC
  refine ⟨Nat × List (Value × PV),λ(k,_)=>[(40,iInt k)],λ(_,es)=>[(109,.map es)],λ(k,_)=>u.flows.length - k,λ(k,es)=>k<=u.flows.length/\u.flows.all zl6=(u.flows.drop k).all zl6/\y2h (zy2 [] u.arrays) u.flows=y2h es (u.flows.drop k)/\Cnt es,[],(0,es),⟨A8 _,rfl,by rw [hC];rfl,hes⟩,Gd,Gd,?_⟩
  rintro ⟨k,es⟩ ⟨hk,hF,hC,hes⟩
  refine z00 (λhc=>?_) λhc=>?_
  ·have hlt:=z0x (f:=Fl.enc) rfl hc
   obtain ⟨f,hf,_,hd,hm⟩:=z0m hlt
   rw [hd] at hF hC
   rw [D4] at hF
   obtain ⟨n,hn⟩:=hes.find (.string f.name)
   have bad:zl6 f=false->SubI (iBool false) (iBool (z8q u)):=λh=>sE (by unfold z8q;rw [hA,hF,h];rfl)
   have hNm:=z7i f.name
   cases hN:z0i f.name with
   | false =>
    rw [hN] at hNm
    exact ⟨z02 (f:=Fl.enc) hf,rfl,VAsk.mk (p:=vInt n) (b:=(z1f (.string f.name) es).isSome) rfl hes.1 (E4 hn rfl) ⟨rfl,rfl,hes.1,[],hNm,sR,Gc,rfl,bad (by unfold zl6;rw [hN];rfl),Gc⟩⟩
   | true =>
    rw [hN] at hNm
    have hT:=j1f f.ty
    cases hty:isTy f.ty with
    | false =>
     rw [hty] at hT
     exact ⟨z02 (f:=Fl.enc) hf,rfl,VAsk.mk (p:=vInt n) (b:=(z1f (.string f.name) es).isSome) rfl hes.1 (E4 hn rfl) ⟨rfl,rfl,hes.1,[],hNm,sR,Gc,rfl,[],hT,sR,Gc,rfl,bad (by unfold zl6;rw [hN,hty];rfl),Gc⟩⟩
    | true =>
     rw [hty] at hT
     refine ⟨z02 (f:=Fl.enc) hf,rfl,VAsk.mk (p:=vInt n) (b:=(z1f (.string f.name) es).isSome) rfl hes.1 (E4 hn rfl) ⟨rfl,rfl,hes.1,[],hNm,sR,Gc,rfl,[],hT,sR,Gc,rfl,z00 (λh1=>⟨bad (by unfold zl6;rw [hN,hty,show decide (f.params<0)=true from h1];rfl),Gc⟩) λh1=>z00 (λh2=>⟨bad (by unfold zl6;rw [hN,hty,show decide (f.params<0)=false from h1,show decide (f.params > f.types.length)=true by simpa using h2];rfl),Gc⟩) λh2=>?_⟩⟩
     have good:zl6 f=true:=by unfold zl6;rw [hN,hty,show decide (f.params<0)=false from h1,show decide (f.params > f.types.length)=false by simpa using h2];rfl
     exact ⟨z01 rfl oM0,(k+1,bump f.name es),z04 hlt,⟨hlt,by rw [hF,good];rfl,hC,hes.bump _⟩,Gd,⟨mpq (zf4 hn).symm,Gc⟩,rfl,rfl,rfl,rfl⟩
  ·have hge:=z0y (f:=Fl.enc) rfl hc
   rw [A6 hge] at hF hC
   have hG:z8q u=((es.length:Int)==u.arrays.length+u.flows.length&&z9m u):=by unfold z8q;rw [hA,hF,hC];rfl
   rw [hG]
   have N:∀ {P:Prop} {b:Bool},b=true->b=false->P:=λh g=>by rw [h] at g;cases g
   cases hb:((es.length:Int)==u.arrays.length+u.flows.length) with
   | false=>exact ⟨[],zd4 u z0v,sR,Gc,rfl,z01 rfl (by simp;omega),z00 (λh=>N (show ((es.length:Int)==u.arrays.length+u.flows.length)=true by simpa using h) hb) λ_=>⟨sI,Gc⟩⟩
   | true =>
    cases hp:decide (z05 z0v u.flows 0 ≥ 0) with
    | false=>exact ⟨[],zd4 u z0v,sR,Gc,rfl,z01 rfl (by simp;omega),z00 (λ_=>z00 (λh=>N h hp) λ_=>⟨sE (by unfold z9m;rw [hp];rfl),Gc⟩) λh=>N hb (by simpa using h)⟩
    | true =>
     have h0:z05 z0v u.flows 0 ≥ 0:=by simpa using hp
     obtain ⟨g,hg,_⟩:=zc9 h0
     have hD:u.flows.getD (z05 z0v u.flows 0).toNat y6d=g:=by rw [Ay,hg];rfl
     have hi:=z02 (f:=Fl.enc) hg
     refine ⟨[],zd4 u z0v,sR,Gc,rfl,z01 rfl (by simp;omega),z00 (λ_=>z00 (λ_=>⟨hi,by omega,z00 (λh1=>⟨hi,by omega,sE ?_,Gc⟩) λh1=>⟨sE ?_,Gc⟩⟩) λh=>N hp h) λh=>N hb (by simpa using h)⟩
     ·unfold z9m;rw [hp,hD,show (g.ty==1)=true from h1];rfl
     ·unfold z9m;rw [hp,hD,show (g.ty==1)=false from h1];rfl
theorem flow_leW {u:Un} {f:Fl} (hf:f∈u.flows):lsW f.body<=z0g u:=by
 have h1:=ye8 hf
 have h2:=y6s f.body
 unfold z0g z18 at *
 omega
theorem y8b (u:Un) (l:List Fl) (i:Nat) {f:Fl} (h:l.drop i=f::l.drop (i+1)):z9d u (l.drop i) i=if y1g u f then z9d u (l.drop (i+1)) ((i+1:Nat):Int) else (80,(i:Int)):=by
 rw [h,z9d];rfl
theorem y3o (u:Un) (hW:z0g u<=34359738368):SC Tryz.prog 19 [.pv u.enc] [] (λ_=>False) (.tup [iInt (z4k u).1,iInt (z4k u).2]) []:=by
 refine SC.anyR (SC.vc tb { pb:=[101,105] } [] Tryz.func19 rfl rfl ?_)
 have hH:=j1u u hW
 have hw2:u.flows.length<=z0g u:=by unfold z0g;omega
 unfold z4k
 cases hh:z8q u
 ·rw [hh] at hH
  exact ⟨[],hH,sR,Gc,rfl,sI,Gc⟩
 rw [hh] at hH
 have hg:=y5p hh
 rw [if_pos rfl]
 refine ⟨[],hH,sR,Gc,rfl,Nat,λi=>[(12,iInt ((i:Nat):Int))],λ_=>[],λi=>u.flows.length - i,λi=>i<=u.flows.length/\z9d u u.flows 0=z9d u (u.flows.drop i) i,[],0,⟨A8 _,rfl⟩,Gd,Gc,?_⟩
 rintro i ⟨i1,i2⟩
 refine z00 (λhc=>?_) λhc=>?_
 ·have hlt:i<u.flows.length:=z0x (f:=Fl.enc) rfl hc
  obtain ⟨x,x1,x2,x3,x4⟩:=z0m hlt
  have hF:=j1s u x hg (hg x x4) (Bm (flow_leW x4) hW)
  rw [y8b u u.flows i x3] at i2
  generalize y1g u x=b at hF i2
  cases b
  ·rw [if_neg dC0] at i2
   rw [i2]
   exact ⟨z02 (f:=Fl.enc) x1,rfl,[],hF,sR,Gc,rfl,sI,Gc⟩
  ·rw [if_pos rfl] at i2
   exact ⟨z02 (f:=Fl.enc) x1,rfl,[],hF,sR,Gc,rfl,z01 rfl oM0,i+1,z04 hlt,⟨hlt,i2⟩,Gd,Gc,rfl,rfl,rfl,rfl⟩
 ·have hge:u.flows.length<=i:=z0y (f:=Fl.enc) rfl hc
  rw [i2,A6 hge]
  exact ⟨sI,Gc⟩
theorem yb4 (x:Nd):SC Tryz.prog 89 [.pv (ndv x)] [] (λk=>k∈[]) (iBool (z1u x)) []:=by
 refine SC.vc tb { pb:=[101] } [] Tryz.func89 rfl rfl ?_
 obtain ⟨kind,op,n,name,args,outs,params,kids⟩:=x
 rcases (show kind=1∨kind=2∨kind=3∨kind=4∨(kind≠1/\kind≠2/\kind≠3/\kind≠4) by omega) with rfl | rfl | rfl | rfl | ⟨k1,k2,k3,k4⟩
 ·exact ⟨sI,Gc⟩
 ·exact ⟨sI,Gc⟩
 ·exact ⟨sI,Gc⟩
 ·refine z00 (λh=>?_) λh=>?_
  ·have h:(op != 4)=true:=h
   exact ⟨sE (A7 iBool (show (op != 5)=((op != 4)&&(op != 5)) by rw [h];rfl)),Gc⟩
  ·have h:(op != 4)=false:=h
   exact ⟨sE (A7 iBool (show false=((op != 4)&&(op != 5)) by rw [h];rfl)),Gc⟩
 ·have no:∀ {i:Int},kind≠i->(kind==i)=true->False:=λh e=>h (eq_of_beq e)
  exact z00 (λh=>(no k1 h).elim) λ_=>z00 (λh=>(no k2 h).elim) λ_=>z00 (λh=>(no k3 h).elim) λ_=>z00 (λh=>(no k4 h).elim) λ_=>⟨sE (A7 iBool (by simp [z1u,Nd.kind,k1,k2,k3,k4])),Gc⟩
theorem yb3 (n:Nat) (h0:0<n) (hn:n<=34359738368):SC Tryz.prog 140 [.pv (.val (.slice none 0 0)),iInt n] [] (λ_=>False) (.sl 122 0) [(122,.row ⟨46,8⟩ [])]:=by
 refine SC.of Tryz.func140 rfl (Av rfl) λF ρ w=>?_
 refine Tr.seq ?_
 refine Tr.region rfl ?_
 refine WL.consV rfl rfl rfl (z1o rfl rfl) ?_
 refine WL.nil ?_
 refine Tr.seq ?_
 refine Tr.seq ?_
 refine Tr.region rfl ?_
 refine WL.consV rfl rfl rfl (z11 rfl rfl) ?_
 refine WL.consV rfl rfl rfl (z4d rfl rfl rfl rfl) ?_
 refine WL.nil ?_
 refine Tr.cond rfl (λhc6=>?_) (λhc6=>?_)
 ·skip
  exfalso
  simp at hc6
  omega
 ·skip
  refine tSk ?_
  refine Tr.seq ?_
  refine Tr.seq ?_
  refine Tr.region rfl ?_
  refine WL.consV rfl rfl rfl (z11 rfl rfl) ?_
  refine WL.consV rfl rfl rfl (z11 rfl rfl) ?_
  refine WL.consV rfl rfl rfl (zp0 rfl rfl Tryz.underlying47) ?_
  refine WL.consV rfl rfl rfl (z11 rfl rfl) ?_
  refine WL.consV rfl rfl rfl (zp1 rfl rfl Tryz.underlying47) ?_
  refine WL.consV rfl rfl rfl (by first | exact z4d rfl rfl rfl (z3k rfl oM0) | exact z4d rfl rfl rfl rfl) ?_
  refine WL.consV rfl rfl rfl (by first | exact z4d rfl rfl rfl (z3k rfl oM0) | exact z4d rfl rfl rfl rfl) ?_
  refine WL.consV rfl rfl rfl (z1o rfl rfl) ?_
  refine WL.nil ?_
  refine Tr.seq ?_
  refine Tr.sub (Sub.of (fr':=[(1,iInt n),(0,.pv (.val (.slice none 0 0)))]) ⟨A7 (λz=>some (iInt z)) (by first | omega | (simp;done)),rfl,Gc⟩) ?_
  refine Tr.region rfl ?_
  refine WL.consV rfl rfl rfl (z11 rfl rfl) ?_
  refine WL.consV rfl rfl rfl (z4d rfl rfl rfl rfl) ?_
  refine WL.nil ?_
  refine Tr.cond rfl (λhc16=>?_) (λhc16=>?_)
  ·skip
   refine Tr.region rfl ?_
   refine WL.consV rfl rfl rfl (z11 rfl rfl) ?_
   refine WL.consV rfl rfl rfl (z11 rfl rfl) ?_
   refine WL.consV rfl rfl rfl (zp0 rfl rfl Tryz.underlying47) ?_
   refine WL.consV rfl rfl rfl (y76 rfl rfl rfl Tryz.underlying47 tS46) ?_
   refine WL.consV rfl rfl rfl (z11 rfl rfl) ?_
   refine WL.cons rfl rfl rfl (y0a (k:=122) (s:=⟨46,8⟩) rfl rfl rfl Tryz.underlying47 Tryz.underlying3 tZ46 tC46 rfl dC0 oM0 (by simp [maxLen];omega) oM0 rfl rfl rfl rfl) ?_
   refine WL.consV rfl rfl rfl (z11 rfl rfl) ?_
   refine WL.consV rfl rfl rfl (zp1 rfl rfl Tryz.underlying47) ?_
   refine WL.sliceZero (fr':=[]) rfl rfl rfl rfl rfl rfl rfl sI0 h0 rfl Tryz.underlying47 tS46 (Sub.of trivial) rfl rfl ?_
   refine WL.consV rfl rfl rfl (z1o rfl rfl) ?_
   refine WL.nil ?_
   refine Tr.seq ?_
   refine Tr.region rfl ?_
   refine WL.consV rfl rfl rfl (z11 rfl rfl) ?_
   refine WL.consV rfl rfl rfl (z1o rfl rfl) ?_
   refine WL.nil ?_
   refine tRt ?_
   refine rOk rfl ?_ (y9z (And.intro rfl (trivial)))
   rfl
  ·skip
   exfalso
   simp at hc16
   omega
theorem y5b (ks:List (List Nd)) (h0:0<tot ks) (hn:tot ks<=34359738368):SC Tryz.prog 90 [.pv (kids ks)] [] (λk=>k∈[]) (.pv (z1n ks.flatten)) []:=by
 refine SC.vc tb { gh:=[(0,[.len 0]),(15,[.fz 6 122])] } [] Tryz.func90 rfl rfl ?_
 intro hl
 simp only [A4] at hl
 have hl:ks.length<=9223372036854775807:=hl
 refine ⟨Nat,λi=>[(11,iInt ((i:Nat):Int)),(3,iInt ((tot (ks.take i):Nat):Int))],λ_=>[],λi=>ks.length - i,λi=>i<=ks.length,[],0,A8 _,Ge,Gc,?_⟩
 intro i hi
 have ht:∀ a b:List (List Nd),tot (a++b)=tot a+tot b:=λa b=>by induction a with | nil=>simp [tot] | cons x r ih=>simp only [B8,tot,ih];omega
 have hle:∀ i,tot (ks.take i)<=tot ks:=λi=>by
  have:=ht (ks.take i) (ks.drop i)
  rw [Co] at this
  omega
 refine z00 (λhc=>?_) λhc=>?_
 ·have hlt:i<ks.length:=z0x (f:=eKid) rfl hc
  obtain ⟨x,x1,x2,x3,x4⟩:=z0m hlt
  have h1:tot (ks.take (i+1))=tot (ks.take i)+x.length:=by rw [x2,ht];simp [tot]
  have h2:=hle (i+1)
  refine ⟨z02 (f:=eKid) x1,rfl,z01 rfl (by rw [A4];omega),?_⟩
  exact ⟨z01 rfl oM0,i+1,z04 hlt,hlt,⟨rfl,ivq (by rw [h1,A4];omega),Gc⟩,Gc,rfl,rfl,rfl,rfl⟩
 have hge:ks.length<=i:=z0y (f:=eKid) rfl hc
 rw [Al hge]
 refine ⟨[],yb3 (tot ks) h0 hn,sR,Gc,rfl,Nat,λi=>[(27,iInt ((i:Nat):Int)),(6,.sl 122 (ks.take i).flatten.length)],λi=>[(122,.row ⟨46,8⟩ ((ks.take i).flatten.map Nd.enc))],λi=>ks.length - i,λi=>i<=ks.length,[],0,A8 _,Ge,Gd,?_⟩
 intro i hi
 have hL:((ks.take i).flatten.map Nd.enc).length=(ks.take i).flatten.length:=A4 _
 refine z00 (λhc=>?_) λhc=>?_
 ·have hlt:i<ks.length:=z0x (f:=eKid) rfl hc
  obtain ⟨x,x1,x2,x3,x4⟩:=z0m hlt
  have h1:tot (ks.take (i+1))=tot (ks.take i)+x.length:=by rw [x2,ht];simp [tot]
  have h2:=hle (i+1)
  have h3:=y1s (ks.take i)
  exact ⟨z02 (f:=eKid) x1,rfl,hL,zd8 (λy _=>⟨Nd.enc_len y,Nd.enc_one y⟩),by rw [A4];omega,z01 rfl oM0,i+1,z04 hlt,hlt,⟨rfl,slq (by rw [x2,A4];simp),Gc⟩,⟨rwq (by rw [x2];simp),Gc⟩,rfl,rfl,rfl,rfl⟩
 ·have hge:ks.length<=i:=z0y (f:=eKid) rfl hc
  rw [Al hge] at hL ⊢
  exact ⟨hL,sI,Gc⟩
def ptH (vs:List Int):List (Nat × HO):=[(106,.box [.mp 111]),(111,.map (vsOf vs))]
theorem j1j (vs:List Int) (v:Int):SC Tryz.prog 91 [iInt v,.ptr 106 0] [(106,.box [.mp 111]),(111,.map (vsOf vs))] (λk=>k=106∨k=111) (iBool (vs.contains v)) [(106,.box [.mp 111]),(111,.map (vsOf vs))]:=by
 refine SC.of Tryz.func91 rfl (Av rfl) λF ρ w=>?_
 have hV:=VSet.of vs
 have hes:=hV.1
 have hzv:((Tryz.prog.info? 165).bind (·.zero))=some (.agg #[]):=tZ165
 refine Tr.seq ?_
 refine Tr.region rfl ?_
 refine WL.consV rfl rfl rfl (z1o rfl rfl) ?_
 refine WL.nil ?_
 refine Tr.seq ?_
 refine Tr.region rfl ?_
 refine WL.consV rfl rfl rfl ((by first | exact zg3 rfl rfl Tryz.underlying164 rfl rfl | exact zg2 rfl rfl rfl Tryz.underlying164 rfl rfl trivial | exact lRw rfl rfl rfl rfl (Cf _).symm (by assumption) rfl Tryz.underlying164 rfl trivial)) ?_
 refine WL.consV rfl rfl rfl (z11 rfl rfl) ?_
 refine WL.consV rfl rfl rfl (y32 (kv:=vKey v) rfl rfl rfl rfl Tryz.underlying164 Tryz.underlying3 rfl hes hzv trivial) ?_
 refine WL.consV rfl rfl rfl (z11 rfl rfl) ?_
 refine WL.consV rfl rfl rfl (z5w rfl rfl rfl) ?_
 refine WL.sub (Sub.cons2 (λ_ _ _ _ h=>unit_sub hV h) Sub.rfl') ?_
 refine WL.consV rfl rfl rfl (z5w rfl rfl rfl) ?_
 refine WL.cons rfl rfl rfl (aLc (k:=104) rfl tZ165 rfl rfl rfl rfl) ?_
 refine WL.cons0 rfl rfl (sBA rfl rfl rfl rfl rfl (by first | exact (λh=>h) | exact (List.contains_eq_false.1 rfl) | simp) tS165 (flk rfl) (Av rfl)) ?_
 refine WL.consV rfl rfl rfl (z1o rfl rfl) ?_
 refine WL.nil ?_
 refine Tr.seq ?_
 refine Tr.region rfl ?_
 refine WL.consV rfl rfl rfl (z11 rfl rfl) ?_
 refine WL.consV rfl rfl rfl (z1o rfl rfl) ?_
 refine WL.nil ?_
 refine tRt ?_
 refine rOk rfl ?_ (y9z (And.intro rfl (And.intro rfl trivial)))
 rw [vsOf_has]
theorem sc_part1 (vs:List Int) (v:Int):SC Tryz.prog 91 [iInt v,.ptr 106 0] (ptH vs) (λk=>k∈[106,111]) (iBool (vs.contains v)) (ptH vs):=SC.sameR (j1j vs v) λk _ h=>by
 simp only [Ag,Bx,Fm] at h
 exact h
theorem sc_idxPt (vs l:List Int):SC Tryz.prog 124 [.pv (ints l),.fn (.func 91) [] [.ptr 106 0]] (ptH vs) (λk=>k∈[106,111]) (iInt (idxP (λv=>vs.contains v) l 0)) (ptH vs):=by
 refine SC.vc tb { gh:=[(0,[.len 0])] } [106,111] Tryz.func124 rfl rfl ?_
 intro hl
 simp only [A4] at hl
 have hl:l.length<=9223372036854775807:=hl
 refine ⟨Nat,λi=>[(8,iInt ((i:Nat):Int))],λ_=>ptH vs,λi=>l.length - i,λi=>i<=l.length/\∀ x∈l.take i,vs.contains x=false,[],0,⟨A8 _,λx hx=>by simp at hx⟩,Gd,Ge,?_⟩
 rintro i ⟨i1,i2⟩
 refine z00 (λhc=>?_) λhc=>?_
 ·have hlt:i<l.length:=z0x (f:=eInt) rfl hc
  obtain ⟨x,x1,x2,x3,x4⟩:=z0m hlt
  refine ⟨z02 (f:=eInt) x1,rfl,sc_part1 vs x,sR,⟨rfl,by simp,rfl,by simp,Gc⟩,λk hk=>hk,rfl,rfl,z00 (λc=>?_) λc=>?_⟩
  ·exact ⟨sE (by rw [z14 (λv=>vs.contains v) l 0 i2,x3,idxP,if_pos c,Di]),rfl,rfl,Gc⟩
  ·exact ⟨z01 rfl oM0,i+1,z04 hlt,⟨hlt,λy hy=>by rw [x2] at hy;rcases Au.1 hy with g | g;exact i2 y g;rw [Ai.1 g];exact c⟩,Gd,Ge,rfl,rfl,rfl,rfl⟩
 ·have hge:l.length<=i:=z0y (f:=eInt) rfl hc
  exact ⟨sE (by rw [z14 (λv=>vs.contains v) l 0 i2,A6 hge];rfl),rfl,rfl,Gc⟩
theorem sc_hasPt (vs l:List Int):SC Tryz.prog 70 [.pv (ints l),.fn (.func 91) [] [.ptr 106 0]] (ptH vs) (λk=>k∈[106,111]) (iBool (l.any λv=>vs.contains v)) (ptH vs):=by
 refine SC.vc tb {} [106,111] Tryz.func70 rfl rfl ?_
 exact ⟨[],sc_idxPt vs l,sR,⟨rfl,by simp,rfl,by simp,Gc⟩,rfl,sE (A7 iBool (z5e (λv=>vs.contains v) l 0 dC0)),rfl,rfl,Gc⟩
theorem sc_part (l:List Nd) (ps:List Int) (hl:∀ x∈l,z1u x=true->x.outs≠[]) (hb:l.length<=34359738368):SC Tryz.prog 49 [.pv (z1n l),.pv (ints ps)] [] (λk=>k∈[]) (.tup [.pv (z1n (z0r ps l).1),.pv (z1n (z0r ps l).2)]) []:=by
 refine SC.vc tb { pb:=[110],an:=[5002,13005],gh:=[(0,[.len 1]),(2,[.grow 4 104 46 8,.grow 5 105 46 8]),(11,[.fz 4 104,.fz 5 105]),(17,[.fz 4 104,.fz 5 105])] } [] Tryz.func49 rfl rfl ?_
 intro hp
 simp only [A4] at hp
 have hp:ps.length<=9223372036854775807:=hp
 have hr:∀ k,k∈[106,111]->k∈[106,111]:=λ_ h=>h
 refine ⟨Nat,λi=>[(14,iInt ((i:Nat):Int))],λi=>[(111,.map (vsOf (ps.take i)))],λi=>ps.length - i,λi=>i<=ps.length,[],0,A8 _,Gd,Gd,?_⟩
 intro i hi
 refine z00 (λhc=>?_) λhc=>?_
 ·have hlt:i<ps.length:=z0x (f:=eInt) rfl hc
  obtain ⟨x,x1,x2,x3,x4⟩:=z0m hlt
  exact ⟨z02 (f:=eInt) x1,rfl,y4t rfl,rfl,(VSet.of _).1,z01 rfl oM0,i+1,z04 hlt,hlt,Gd,⟨mpq (by rw [x2,<- y8m];rfl),Gc⟩,rfl,rfl,rfl,rfl⟩
 have hge:ps.length<=i:=z0y (f:=eInt) rfl hc
 rw [Al hge]
 clear hc hge
 refine ⟨Nat × List Int × List Nd × List Nd,λq=>[(24,iInt ((q.1:Nat):Int)),(4,.sl 104 q.2.2.1.length),(5,.sl 105 q.2.2.2.length)],λq=>[(104,.row ⟨46,8⟩ (q.2.2.1.map Nd.enc)),(105,.row ⟨46,8⟩ (q.2.2.2.map Nd.enc)),(111,.map (vsOf q.2.1))],λq=>l.length - q.1,λq=>q.1<=l.length/\q.2.2.1.length+q.2.2.2.length=q.1/\z0r ps l=(q.2.2.1++(z0r q.2.1 (l.drop q.1)).1,q.2.2.2++(z0r q.2.1 (l.drop q.1)).2),[],(0,ps,[],[]),⟨A8 _,rfl,rfl⟩,Gf,Gf,?_⟩
 rintro ⟨k,vs,A,B⟩ ⟨k1,k2,k3⟩
 dsimp only at k1 k2 k3
 refine z00 (λhc=>?_) λhc=>?_
 ·have hlt:k<l.length:=z0x (f:=Nd.enc) rfl hc
  obtain ⟨x,x1,x2,x3,x4⟩:=z0m hlt
  rw [x3,z0r] at k3
  have hH:=yb4 x
  have hA:(A.map Nd.enc).length=A.length:=A4 _
  have hB:(B.map Nd.enc).length=B.length:=A4 _
  cases hm:z1u x
  ·rw [hm] at hH
   rw [hm,if_neg dC0] at k3
   exact ⟨z08 x1,rfl,[],hH,sR,Gc,rfl,hA,hB,k,rfl,by rw [A4];omega,by simp,hw_node,[],y5b [B,l.drop k] (by simp [tot];omega) (by simp [tot];omega),SubA.cons (sE (by simp [kids,eKid,z1n,List.map_drop,Al])) SubA.nil,Gc,rfl,sE (by rw [k3,x3];simp [z1n]),Gc⟩
  ·rw [hm] at hH
   rw [hm,if_pos rfl] at k3
   obtain ⟨o0,ors,hos⟩:=Bs (hl x x4 hm)
   have ho0:(x.outs.map eInt)[0]? = some [vInt o0]:=by rw [hos];rfl
   rw [show x.outs.headD 0=o0 by rw [hos];rfl] at k3
   have hP:=sc_hasPt vs x.args
   generalize x.args.any (λv=>vs.contains v)=c at hP k3
   cases c
   ·rw [if_neg dC0] at k3
    exact ⟨z08 x1,rfl,[],hH,sR,Gc,rfl,[106,111],hP,sR,Gg,rfl,hA,z3x rfl,by simp;omega,z01 rfl oM0,(k+1,vs,A++[x],B),z04 hlt,⟨hlt,by simp;omega,by rw [k3];simp⟩,⟨rfl,slq sI0,rfl,Gc⟩,⟨rwq (by simp;rw [Nd.enc_eq,Nd.cells_eta]),rfl,rfl,Gc⟩,rfl,rfl,rfl,rfl⟩
   ·rw [if_pos rfl] at k3
    exact ⟨z08 x1,rfl,[],hH,sR,Gc,rfl,[106,111],hP,sR,Gg,rfl,ho0,rfl,y4t rfl,rfl,(VSet.of _).1,hB,z3x rfl,by simp;omega,z01 rfl oM0,(k+1,vs++[o0],A,B++[x]),z04 hlt,⟨hlt,by simp;omega,by rw [k3];simp⟩,⟨rfl,rfl,slq sI0,Gc⟩,⟨rfl,rwq (by simp;rw [Nd.enc_eq,Nd.cells_eta]),mpq (by rw [<- y8m];rfl),Gc⟩,rfl,rfl,rfl,rfl⟩
 ·have hge:l.length<=k:=z0y (f:=Nd.enc) rfl hc
  rw [A6 hge,z0r] at k3
  exact ⟨by simp,by simp,sE (by rw [k3];simp [z1n]),Gc⟩
theorem y9h:∀ l:List Nd,l.length<=lsW l
 | []=>Ab _
 | x::r=>by have:=y9h r;have:=z9l x;simp only [lsW,Ah];omega
theorem hOut_len (x:Nd):z4m x=if x.kind==11 then (match z3z x.kids with | b::r=>(z0r x.params b).1++[.mk x.kind x.op x.n x.name x.args x.outs x.params ((z0r x.params b).2::r)] | []=>[.mk x.kind x.op x.n x.name x.args x.outs x.params []]) else [.mk x.kind x.op x.n x.name x.args x.outs x.params (z3z x.kids)]:=by rw [zw0];rfl
theorem zt9:∀ (N:Nat) (l:List Nd),hOkL l=true->lsW l<=34359738368->SizeOf.sizeOf l<N->SC Tryz.prog 26 [.pv (z1n l)] [] (λk=>k∈[]) (.pv (z1n (z0w l))) []
 | 0,_,_,_,h=>absurd h (Ae _)
 | N+1,l,hok,hb,hN=>by
  refine SC.vc tb { gh:=[(1,[.grow 2 102 46 8]),(5,[.grow 5 105 47 1]),(15,[.fzC 104 7 105]),(17,[.fz 2 102])] } [] Tryz.func26 rfl rfl ?_
  have hlen1:=zj1 l
  have hle:=y9h l
  refine ⟨Nat × List Nd,λq=>[(12,iInt ((q.1:Nat):Int)),(2,.sl 102 q.2.length)],λq=>[(102,.row ⟨46,8⟩ (q.2.map Nd.enc))],λq=>l.length - q.1,λq=>q.1<=l.length/\q.2++z0w (l.drop q.1)=z0w l,[],(0,[]),⟨A8 _,rfl⟩,Ge,Gd,?_⟩
  rintro ⟨k,out⟩ ⟨k1,k2⟩
  dsimp only at k1 k2
  refine z00 (λhc=>?_) λhc=>?_
  ·have hlt:k<l.length:=z0x (f:=Nd.enc) rfl hc
   obtain ⟨x,x1,x2,x3,x4⟩:=z0m hlt
   have hxok:=yg2 hok x4
   rw [hOkN_eq] at hxok
   simp only [A0] at hxok
   have hWx:=z9l x
   have hWl:=y4k x4
   have hkl:=yg5 x.kids
   rw [x3,show z0w (x::l.drop (k+1))=z4m x++z0w (l.drop (k+1)) from rfl,<- C8] at k2
   have hol:=A7 List.length k2
   simp only [Az] at hol
   have hO:(out.map Nd.enc).length=out.length:=A4 _
   refine ⟨z08 x1,rfl,Nat,λj=>[(19,iInt ((j:Nat):Int)),(5,.sl 105 j)],λj=>[(105,.row ⟨47,1⟩ (((x.kids.take j).map z0w).map eKid))],λj=>x.kids.length - j,λj=>j<=x.kids.length,[],0,A8 _,Ge,Gd,?_⟩
   intro j hj
   refine z00 (λhc2=>?_) λhc2=>?_
   ·have hlt2:j<x.kids.length:=z0x (f:=eKid) rfl hc2
    obtain ⟨q,q1,q2,q3,q4⟩:=z0m hlt2
    have hqW:=z86 q4
    have hQ:=zt9 N q (y4b hxok.2 q4) oM0 (Ba (z9i x4 rfl q4) (C2 hN))
    exact ⟨z02 (f:=eKid) q1,rfl,[],hQ,sR,Gc,rfl,by simp;omega,z3x rfl,by simp;omega,z01 rfl oM0,j+1,z04 hlt2,hlt2,⟨rfl,slq sI0,Gc⟩,⟨rwq (by rw [q2];simp [eKid]),Gc⟩,rfl,rfl,rfl,rfl⟩
   have hge2:x.kids.length<=j:=z0y (f:=eKid) rfl hc2
   obtain rfl:j=x.kids.length:=by omega
   rw [Al (Ab _),<- zz4]
   have hks:(z3z x.kids).length=x.kids.length:=by rw [zz4,A4]
   have hkm:((z3z x.kids).map eKid).length=x.kids.length:=by rw [A4,hks]
   have hnode:=hOut_len x
   by_cases h11:x.kind=11
   ·have hne:x.kids≠[]:=by
     have:=hxok.1.2
     rw [h11] at this
     intro e
     rw [e] at this
     exact absurd this dC0
    obtain ⟨b,r,hbr⟩:=Bs hne
    have hbm:b∈x.kids:=by rw [hbr];exact .head _
    have hbW:=z86 hbm
    have hbL:=zj1 b
    have hkr:z3z x.kids=z0w b::z3z r:=by rw [hbr];rfl
    rw [hkr,if_pos (As.2 h11)] at hnode
    dsimp only at hnode
    have hP:=sc_part (z0w b) x.params (zo0 b (y4b hxok.2 hbm)) oM0
    have hpl:=z9w (z0w b) x.params
    rw [hkr] at hkm ⊢
    generalize z0r x.params (z0w b)=P at hP hpl hnode
    obtain ⟨A,B⟩:=P
    dsimp only at hP hpl hnode
    have hn1:=A7 List.length hnode
    simp only [Az,Ah,Ax] at hn1
    refine ⟨hkm,z00 (λ_=>?_) λh=>absurd (As.2 h11) (by rw [show (x.kind==11)=false from h];decide)⟩
    refine ⟨hkm,VIdR.mk (i:=0) (by rw [hbr];simp) rfl (VRow.mk (i:=0) (j:=0) hkm rfl rfl rfl ⟨[],hP,sR,Gc,rfl,hO,zd8 (λy _=>⟨Nd.enc_len y,Nd.enc_one y⟩),by simp;omega,hkm,VIdR.mk (i:=0) (by rw [hbr];simp) rfl ⟨0,0,_,hkm,rfl,rfl,by simp [eKid],by rw [Do];exact hkm,by simp,z3x rfl,by simp;omega,z01 rfl oM0,(k+1,out++z4m x),z04 hlt,⟨hlt,k2⟩,⟨rfl,slq (by simp;omega),Gc⟩,⟨rwq (by rw [hnode];simp [Nd.enc_eq,Nd.cells_eta,kids,Nd.kind,Nd.op,Nd.n,Nd.name,Nd.args,Nd.outs,Nd.params,Nd.kids,eKid]),Gc⟩,rfl,rfl,rfl,rfl⟩⟩)⟩
   ·rw [if_neg (by simpa using h11)] at hnode
    have hn1:=A7 List.length hnode
    simp only [Ah,Ax] at hn1
    refine ⟨hkm,z00 (λh=>absurd (eq_of_beq h) h11) λ_=>?_⟩
    exact ⟨hkm,hO,z3x rfl,by simp;omega,z01 rfl oM0,(k+1,out++z4m x),z04 hlt,⟨hlt,k2⟩,⟨rfl,slq (by simp;omega),Gc⟩,⟨rwq (by rw [hnode];simp [Nd.enc_eq,Nd.cells_eta,kids,Nd.kind,Nd.op,Nd.n,Nd.name,Nd.args,Nd.outs,Nd.params,Nd.kids]),Gc⟩,rfl,rfl,rfl,rfl⟩
  ·have hge:l.length<=k:=z0y (f:=Nd.enc) rfl hc
   rw [A6 hge,show z0w []=[] from rfl,Cl] at k2
   subst k2
   exact ⟨A4 _,sI,Gc⟩
theorem sc_hList (l:List Nd) (hok:hOkL l=true) (hb:lsW l<=34359738368):SC Tryz.prog 26 [.pv (z1n l)] [] (λk=>k∈[]) (.pv (z1n (z0w l))) []:=zt9 _ l hok hb (A5 _)
theorem y58 (u:Un) (hW:z0g u<=34000000000) (hok:(z4k u).1=0->∀ f∈u.flows,hOkL f.body=true):SC Tryz.prog 10 [.pv u.enc] [] (λ_=>False) (.tup [.pv (z6f u).1.enc,iInt (z6f u).2]) []:=by
 have hK:=y3o u oM0
 have hw2:u.flows.length<=z0g u:=by unfold z0g;omega
 have hres:z6f u=if (z4k u).1=0 then (z3n u,0) else (⟨[],[]⟩,1):=by unfold z6f;by_cases h:(z4k u).1=0<;>simp [h]
 rw [hres]
 clear hres
 generalize z4k u=c at hK hok ⊢
 obtain ⟨c1,c2⟩:=c
 dsimp only at hK hok ⊢
 by_cases h:c1=0
 case neg =>
  rw [if_neg h]
  refine SC.anyR (SC.vc tb { pb:=[101] } [] Tryz.func10 rfl rfl ?_)
  exact ⟨[],hK,sR,Gc,rfl,z00 (λ_=>⟨sT2 (sP (z0e _)),Gc⟩) λh2=>absurd h2 (by simp [h])⟩
 rw [if_pos h]
 subst h
 refine SC.anyR (SC.vc tb { pb:=[101],gh:=[(5,[.growC 106 1 9 59 5]),(11,[.fzC 106 1 9])] } [] Tryz.func10 rfl rfl ?_)
 refine ⟨[],hK,sR,Gc,rfl,?_⟩
 refine ⟨Nat,λi=>[(23,iInt ((i:Nat):Int))],λi=>[(106,.box [.pv (arrs u.arrays),.sl 9 i]),(9,.row ⟨59,5⟩ ((u.flows.take i).map λf=>(z5d f).enc))],λi=>u.flows.length - i,λi=>i<=u.flows.length,[],0,A8 _,Gd,Ge,?_⟩
 intro i hi
 have hl:((u.flows.take i).map λf=>(z5d f).enc).length=i:=by rw [A4,De];omega
 refine z00 (λhc=>?_) λhc=>?_
 ·have hlt:i<u.flows.length:=z0x (f:=Fl.enc) rfl hc
  obtain ⟨x,x1,x2,x3,x4⟩:=z0m hlt
  have hx:=zc3 x4
  have hL:=sc_hList x.body (hok rfl x x4) oM0
  exact ⟨z02 (f:=Fl.enc) x1,rfl,[],hL,sR,Gc,rfl,hl,z3x rfl,by simp;omega,by simp;omega,z01 rfl oM0,i+1,z04 hlt,hlt,Gd,⟨boq rfl,rwq (by rw [x2];simp [z5d,Fl.enc]),Gc⟩,rfl,rfl,rfl,rfl⟩
 ·have hge:u.flows.length<=i:=z0y (f:=Fl.enc) rfl hc
  rw [Al hge]
  have he:(z3n u).enc = .agg [arrs u.arrays,.seq (u.flows.map λf=>(z5d f).enc)]:=by simp [z3n,Un.enc,flws]
  rw [he]
  rw [Al hge] at hl
  exact ⟨hl,sI,Gc⟩
theorem y98 {u:Un} (h:(z1g u).1≠0):z6f u=(⟨[],[]⟩,1):=by
 have:((z4k u).1==0)=false:=by rw [zd6];simpa using h
 simp [z6f,this]
theorem z7r {u:Un} (h:(z1g u).1=0):z6f u=(z3n u,0):=by
 have:((z4k u).1==0)=true:=by rw [zd6];simpa using h
 simp [z6f,this]
def y91 (x:Nd):Bool:=decide (x.kind<=3)||(x.kind==4&&x.op != 4&&x.op != 5)
def fAny (l m:List Int):Bool:=l.any λv=>m.any λw=>v==w
def y1z (x:Nd):Bool:=x.kind==11&&(match x.kids with
 | [y::_]=>y91 y && !fAny y.args x.params
 | _=>false)
mutual
def yx2:Nd->Bool
 | .mk kind op n name args outs params ks=>!y1z (.mk kind op n name args outs params ks)&&zn7 ks
def z4v:List Nd->Bool
 | []=>true
 | x::r=>yx2 x&&z4v r
def zn7:List (List Nd)->Bool
 | []=>true
 | l::r=>z4v l&&zn7 r
end
theorem fineN_eq (x:Nd):yx2 x=(!y1z x&&zn7 x.kids):=by cases x;simp [yx2,Nd.kids]
def y2k (u:Un):Bool:=u.flows.all λf=>z4v f.body
theorem sc_idle (x:Nd):SC Tryz.prog 50 [.pv (ndv x)] [] (λk=>k∈[]) (iBool (y91 x)) []:=by
 refine SC.vc tb { pb:=[101] } [] Tryz.func50 rfl rfl ?_
 have e:y91 x=(decide (x.kind<=3)||(x.kind==4&&x.op != 4&&x.op != 5)):=rfl
 refine z00 (λh1=>?_) λh1=>?_
 ·exact ⟨sE (by rw [e,show decide (x.kind<=3)=true from h1];rfl),Gc⟩
 ·refine z00 (λh2=>?_) λh2=>?_
  ·refine z00 (λh3=>?_) λh3=>?_
   ·exact ⟨sE (by rw [e,show decide (x.kind<=3)=false from h1,show (x.kind==4)=true from h2,show (x.op != 4)=true from h3];rfl),Gc⟩
   ·exact ⟨sE (by rw [e,show decide (x.kind<=3)=false from h1,show (x.kind==4)=true from h2,show (x.op != 4)=false from h3];rfl),Gc⟩
  ·exact ⟨sE (by rw [e,show decide (x.kind<=3)=false from h1,show (x.kind==4)=false from h2];rfl),Gc⟩
theorem sc_any (l m:List Int):SC Tryz.prog 51 [.pv (ints l),.pv (ints m)] [] (λk=>k∈[]) (iBool (fAny l m)) []:=by
 refine SC.vc tb { gh:=[(0,[.len 0,.len 1])] } [] Tryz.func51 rfl rfl ?_
 intro hl hm
 simp only [A4] at hl hm
 have hl:l.length<=9223372036854775807:=hl
 have hm:m.length<=9223372036854775807:=hm
 refine ⟨Nat,λi=>[(5,iInt ((i:Nat):Int))],λ_=>[],λi=>l.length - i,λi=>i<=l.length/\fAny l m=fAny (l.drop i) m,[],0,⟨A8 _,rfl⟩,Gd,Gc,?_⟩
 rintro i ⟨i1,i2⟩
 refine z00 (λhc=>?_) λhc=>?_
 ·have hlt:i<l.length:=z0x (f:=eInt) rfl hc
  obtain ⟨x,x1,x2,x3,x4⟩:=z0m hlt
  rw [x3,show fAny (x::l.drop (i+1)) m=((m.any λw=>x==w)||fAny (l.drop (i+1)) m) from rfl] at i2
  refine ⟨Nat,λj=>[(6,iInt ((j:Nat):Int))],λ_=>[],λj=>m.length - j,λj=>j<=m.length/\(m.any λw=>x==w)=((m.drop j).any λw=>x==w),[],0,⟨A8 _,rfl⟩,Gd,Gc,?_⟩
  rintro j ⟨j1,j2⟩
  refine z00 (λhc2=>?_) λhc2=>?_
  ·have hlt2:j<m.length:=z0x (f:=eInt) rfl hc2
   obtain ⟨y,y1,y2,y3,y4⟩:=z0m hlt2
   rw [y3,G9] at j2
   refine ⟨z02 (f:=eInt) x1,rfl,z02 (f:=eInt) y1,rfl,z00 (λh=>?_) λh=>?_⟩
   ·have h:(x==y)=true:=h
    rw [h] at j2
    rw [j2] at i2
    exact ⟨sE (by rw [i2];rfl),Gc⟩
   ·have h:(x==y)=false:=h
    rw [h] at j2
    exact ⟨z01 rfl oM0,j+1,z04 hlt2,⟨hlt2,j2⟩,Gd,Gc,rfl,rfl,rfl,rfl⟩
  ·have hge:m.length<=j:=z0y (f:=eInt) rfl hc2
   rw [A6 hge] at j2
   rw [j2] at i2
   exact ⟨z01 rfl oM0,i+1,z04 hlt,⟨hlt,i2⟩,Gd,Gc,rfl,rfl,rfl,rfl⟩
 ·have hge:l.length<=i:=z0y (f:=eInt) rfl hc
  rw [A6 hge] at i2
  exact ⟨sE (by rw [i2];rfl),Gc⟩
def run0 (ins:List Int) (fuel:Int):Rs:={ ins:=ins,ar:=[],st:=0,code:=0,out:=[],cost:=0,fuel:=if fuel<0 then 0 else fuel,spent:=false }
def mEnd (r:Int × Rs):Rs:=if z13 r.2 then r.2 else { r.2 with st:=1,code:=r.1 }
def runv (s:Rs):PV:=.agg [vInt s.st,vInt s.code,ints s.out,vInt s.cost,vInt s.fuel]
theorem j2n (fs:List Fl) (hW:z0g ⟨[],fs⟩<=34000000000) (hz:(z1g ⟨[],fs⟩).1=0) (ins:List Int) (fuel:Int) (d:Nat) (r:Int × Rs) (h:z4c ⟨[],fs⟩ d (z05 z0v fs 0) [] { run0 ins fuel with ar:=[] }=some r):SC Tryz.prog 16 [.pv (Un.enc ⟨[],fs⟩),.pv (ints ins),iInt fuel] [] (λ_=>False) (.pv (runv (mEnd r))) []:=by
 refine SC.anyR (SC.vc tb { gh:=[(5,[.growC 1001 6 1002 3 1]),(12,[.fzC 1001 6 1002])],ids:=[(26,1001),(45,1004),(47,1003)] } [] Tryz.func16 rfl rfl ?_)
 have hub:∀ f∈fs,lsW f.body<=34359738368:=λf hf=>Bm (zc3 (u:=⟨[],fs⟩) hf) (Bm hW oM0)
 have hcall:=(zr1 ⟨[],fs⟩ hub (d+1)).1 d (A5 d) _ _ _ _ h sI0
 have hal:=yu9 h
 have hC:=zq3 ⟨[],fs⟩ hW
 rw [hz] at hC
 have hP:=z55 ⟨[],fs⟩ z0v
 obtain ⟨n,ins',ar',st',code',out',cost',fuel',spent'⟩:=r
 obtain rfl:ar'=[]:=At hal
 have hO:=z4y ⟨[],fs⟩ ⟨ins',[],st',code',out',cost',fuel',spent'⟩
 obtain ⟨ov,hov⟩:∃ b,z13 ⟨ins',[],st',code',out',cost',fuel',spent'⟩=b:=⟨_,rfl⟩
 rw [hov] at hO
 have hend:mEnd (n,⟨ins',[],st',code',out',cost',fuel',spent'⟩)=if ov then (⟨ins',[],st',code',out',cost',fuel',spent'⟩:Rs) else ⟨ins',[],1,n,out',cost',fuel',spent'⟩:=by unfold mEnd;rw [hov]
 rw [hend]
 clear hend
 refine ⟨[],hC,sR,Gc,rfl,Unit,λ_=>[(10,iInt 0)],λ_=>[],λ_=>0,λ_=>True,[],(),Gc,Gd,Gc,λ_ _=>⟨[],hP,sR,Gc,rfl,[],hcall,SubA.same (SubA.same (SubA.cons sN sR)),Ge,rfl,[],hO,sR,Ge,rfl,?_⟩⟩
 cases ov with
 | true=>exact ⟨rfl,sI,Gc⟩
 | false=>exact ⟨rfl,sI,Gc⟩
theorem sr_run1 (fs:List Fl) (A:Ar) (hW:z0g ⟨[A],fs⟩<=34000000000) (hz:(z1g ⟨[A],fs⟩).1=0) (ins:List Int) (fuel:Int) (d:Nat) (r:Int × Rs) (h:z4c ⟨[A],fs⟩ d (z05 z0v fs 0) [] { run0 ins fuel with ar:=[List.replicate A.size.toNat 0] }=some r) (hsz:0<=A.size/\A.size<=1000):SC Tryz.prog 16 [.pv (Un.enc ⟨[A],fs⟩),.pv (ints ins),iInt fuel] [] (λ_=>False) (.pv (runv (mEnd r))) []:=by
 refine SC.anyR (SC.vc tb { gh:=[(5,[.growC 1001 6 1002 3 1]),(12,[.fzC 1001 6 1002])],ids:=[(26,1001),(45,1004),(47,1003)] } [] Tryz.func16 rfl rfl ?_)
 have hub:∀ f∈fs,lsW f.body<=34359738368:=λf hf=>Bm (zc3 (u:=⟨[A],fs⟩) hf) (Bm hW oM0)
 have hcall:=(zr1 ⟨[A],fs⟩ hub (d+1)).1 d (A5 d) _ _ _ _ h sI0
 have hal:=yu9 h
 have hC:=zq3 ⟨[A],fs⟩ hW
 rw [hz] at hC
 have hP:=z55 ⟨[A],fs⟩ z0v
 obtain ⟨n,ins',ar',st',code',out',cost',fuel',spent'⟩:=r
 obtain ⟨q2,rfl⟩:∃ q2,ar'=[q2]:=Ca.1 hal
 have hO:=z4y ⟨[A],fs⟩ ⟨ins',[q2],st',code',out',cost',fuel',spent'⟩
 obtain ⟨ov,hov⟩:∃ b,z13 ⟨ins',[q2],st',code',out',cost',fuel',spent'⟩=b:=⟨_,rfl⟩
 rw [hov] at hO
 have hend:mEnd (n,⟨ins',[q2],st',code',out',cost',fuel',spent'⟩)=if ov then (⟨ins',[q2],st',code',out',cost',fuel',spent'⟩:Rs) else ⟨ins',[q2],1,n,out',cost',fuel',spent'⟩:=by unfold mEnd;rw [hov]
 rw [hend]
 clear hend
 have hTl:((A.size:Int))=(A.size.toNat:Nat):=by omega
 refine ⟨[],hC,sR,Gc,rfl,Bool,λb=>[(10,iInt (if b then 1 else 0))],λb=>if b then [(1001,rBox ⟨[A],fs⟩ { run0 ins fuel with ar:=[List.replicate A.size.toNat 0] }),(1003,.box [.sl 1004 ((List.replicate A.size.toNat (0:Int)).map eInt).length]),(1004,rowI (List.replicate A.size.toNat 0))] else [(1001,rBox ⟨[A],fs⟩ { run0 ins fuel with ar:=[] })],λb=>if b then 0 else 1,λ_=>True,[],false,Gc,Gd,Gd,λb _=>?_⟩
 cases b with
 | false =>
  exact ⟨at0 (a:=Ar.enc A),rfl,rfl,hTl,by omega,by simp,rfl,By,by decide,z01 (m:=0) (n:=1) rfl dC0,true,By,Gc,Gd,⟨rfl,boq (show [IV.sl 1004 A.size.toNat]=_ by simp),rwq (by simp [eInt];exact .inr rfl),Gc⟩,rfl,rfl,rfl,rfl⟩
 | true =>
  refine ⟨[],hP,sR,Gc,rfl,[],hcall,SubA.same (SubA.same (SubA.cons sN sR)),Gg,rfl,[],hO,sR,Gg,rfl,?_⟩
  cases ov with
  | true=>exact ⟨rfl,sI,Gc⟩
  | false=>exact ⟨rfl,sI,Gc⟩
end Go.Proofs.YtcnjamphfjnflaaGreatDoor
