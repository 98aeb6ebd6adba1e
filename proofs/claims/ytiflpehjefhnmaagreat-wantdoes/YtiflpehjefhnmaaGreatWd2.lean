/- PART 2 of 7 of a proof: see the last part. -/
import Derived.Test.YtiflpehjefhnmaaGreatWd1
set_option maxRecDepth 8000
set_option maxHeartbeats 2000000
set_option linter.unusedSimpArgs false
set_option linter.unusedVariables false
set_option linter.unusedSectionVars false
namespace Go.Proofs.YtiflpehjefhnmaaGreat
open Go
def andT (r:Bool × List Bool) (k:List Bool->Bool × List Bool):Bool × List Bool:=if r.1 then k r.2 else (false,r.2)
def ne (l:List Nd) (r:Bool × List Bool):Bool × List Bool:=if l.isEmpty then (false,r.2) else r
mutual
def ndW:Nd->Nat
  | .mk _ _ _ _ args outs params kids=>1+args.length+outs.length+params.length+kdW kids
def lsW:List Nd->Nat
  | []=>0
  | x::r=>ndW x+lsW r
def kdW:List (List Nd)->Nat
  | []=>0
  | l::r=>1+lsW l+kdW r
end
def z9w (f:Fl) (x:Nd) (set:List Bool):Bool × List Bool :=
  andS ((x.outs.length:Int)==0 || !z04 x) set (z1p f.types set x.outs (List.replicate x.outs.length 0))
mutual
def z2w (u:Un) (f:Fl) (deep:Int) (w:Wh) (seen:List Int) (set:List Bool):Nd->Bool × List Bool
  | .mk kind op n name args outs params kids =>
    if !z0z (.mk kind op n name args outs params kids) then (false,set)
    else if kind==10 then
      if z01 f.types seen args [2] then
        match kids with
        | a::b::_ =>
          andT (ne a (r8go u f (deep+1) ⟨true,w.Loop,r8of f.types outs,w.Next,w.Left⟩ seen set a)) fun s1 =>
          andT (ne b (r8go u f (deep+1) ⟨true,w.Loop,r8of f.types outs,w.Next,w.Left⟩ seen s1 b)) fun s2 =>
          z9w f (.mk kind op n name args outs params kids) s2
        | _=>(false,set)
      else (false,set)
    else if kind==11 then
      if z01 f.types seen args (r8of f.types params) then
        andT (z1p f.types set params (List.replicate params.length 0)) fun s1 =>
        match kids with
        | a::_ =>
          andT (ne a (r8go u f (deep+1) ⟨false,true,[],r8of f.types params,r8of f.types outs⟩ (seen++params) s1 a)) fun s2 =>
          z9w f (.mk kind op n name args outs params kids) s2
        | _=>(false,s1)
      else (false,set)
    else z1a u f set (.mk kind op n name args outs params kids) seen w
def r8go (u:Un) (f:Fl) (deep:Int) (w:Wh) (all:List Int) (set:List Bool):List Nd->Bool × List Bool
  | []=>(true,set)
  | x::r =>
    if deep > 100 then (false,set)
    else andT (z2w u f deep w all set x) fun s1 =>
      if z04 x != r.isEmpty then (false,s1)
      else r8go u f deep w (all++x.outs) s1 r
end
def z1o (u:Un) (f:Fl) (deep:Int) (w:Wh) (all:List Int) (set:List Bool) (l:List Nd):Bool × List Bool:=ne l (r8go u f deep w all set l)
theorem zo9 {b:Bool} {set:List Bool} {r:Bool × List Bool} {n:Nat} (h1:set.length=n) (h2:r.2.length=n):(andS b set r).2.length=n:=by unfold andS;split<;>assumption
theorem z63 {r:Bool × List Bool} {k:List Bool->Bool × List Bool} {n:Nat} (h1:r.2.length=n) (h2:∀ s,s.length=n->(k s).2.length=n):(andT r k).2.length=n:=by
  unfold andT;split
  ·exact h2 _ h1
  exact h1
theorem ze6 {l:List Nd} {r:Bool × List Bool} {n:Nat} (h:r.2.length=n):(ne l r).2.length=n:=by unfold ne;split<;>exact h
theorem y7p {p:Prop} [Decidable p] {a b:Bool × List Bool} {n:Nat} (h1:a.2.length=n) (h2:b.2.length=n):(if p then a else b).2.length=n:=by split<;>assumption
theorem zt3 (u:Un) (f:Fl) (set:List Bool) (x:Nd) (seen:List Int) (w:Wh):(z1a u f set x seen w).2.length=set.length:=by
  have hS:∀ b l t,(andS b set (z1p f.types set l t)).2.length=set.length:=fun b l t=>zo9 rfl (z5u ..)
  unfold z1a z90
  repeat' (first | exact hS _ _ _ | exact rfl | refine y7p ?_ ?_ | split)
theorem zl8 {f:Fl} {x:Nd} {set:List Bool} {n:Nat} (h:set.length=n):(z9w f x set).2.length=n:=zo9 h ((z5u ..).trans h)
mutual
theorem z7u (u:Un) (f:Fl):∀ (x:Nd) (deep:Int) (w:Wh) (seen:List Int) (set:List Bool),(z2w u f deep w seen set x).2.length=set.length
  | .mk kind op n name args outs params kids,deep,w,seen,set=>by
    unfold z2w
    split
    ·rfl
    split
    ·split
     ·match kids with
      | []=>rfl
      | [_]=>rfl
      | a::b::_ =>
        refine z63 (ze6 (z6h u f a ..)) fun s hs=>z63 (ze6 ((z6h u f b ..).trans hs)) fun s hs=>zl8 hs
     rfl
    split
    ·split
     ·refine z63 (z5u ..) fun s hs=>?_
      match kids with
      | []=>exact hs
      | a::_=>exact z63 (ze6 ((z6h u f a ..).trans hs)) fun s hs=>zl8 hs
     rfl
    exact zt3 ..
theorem z6h (u:Un) (f:Fl):∀ (l:List Nd) (deep:Int) (w:Wh) (all:List Int) (set:List Bool),(r8go u f deep w all set l).2.length=set.length
  | [],_,_,_,_=>by simp [r8go]
  | x::r,deep,w,all,set=>by
    unfold r8go
    split
    ·rfl
    refine z63 (z7u u f x ..) fun s hs=>?_
    split
    ·exact hs
    exact (z6h u f r ..).trans hs
end
theorem z5t (u:Un) (f:Fl) (deep:Int) (w:Wh) (all:List Int) (set:List Bool) (l:List Nd):(z1o u f deep w all set l).2.length=set.length:=ze6 (z6h ..)
theorem y9h {u:Un} {f:Fl} {bt:TypeId} {set set':List Bool} (h:set'.length=set.length):∀ k ob,look (up (ckHp u f bt set')) k=some ob->zs5 ob=true∨(k=3/\look (up (ckHp u f bt set)) k=some ob):=by
  intro k ob hk
  have hm:=z15 hk
  simp only [ckHp,List.mem_cons,List.not_mem_nil,or_false,Prod.mk.injEq] at hm
  rcases hm with ⟨rfl,rfl⟩ | ⟨rfl,rfl⟩
  ·exact .inr ⟨rfl,by simp [ckHp,up,look,h]⟩
  refine .inl ?_
  simp [zs5,z9u,y6p]
theorem zb7 {x:Nd} (h:z0z x=true):(x.kids.length:Int)=r8kn x:=by
  simp only [z0z,Bool.and_eq_true,beq_iff_eq] at h
  exact h.1.2
theorem z36 {x:Nd} (h:z0z x=true) (hk:x.kind=10):∃ a b,x.kids=[a,b]:=by
  have:=zb7 h
  simp [r8kn,hk] at this
  match hx:x.kids with
  | []=>simp [hx] at this
  | [a]=>simp [hx] at this
  | [a,b]=>exact ⟨a,b,rfl⟩
  | a::b::c::r=>simp [hx] at this;omega
theorem z1t {x:Nd} (h:z0z x=true) (hk:x.kind=11):∃ a,x.kids=[a]:=by
  have:=zb7 h
  simp [r8kn,hk] at this
  match hx:x.kids with
  | []=>simp [hx] at this
  | [a]=>exact ⟨a,rfl⟩
  | a::b::r=>simp [hx] at this;omega
theorem zb8 (u:Un) (f:Fl) (deep:Int) (w:Wh) (seen:List Int) (set:List Bool) {x:Nd} (h:z0z x=false):z2w u f deep w seen set x=(false,set):=by
  cases x;unfold z2w;simp [h]
theorem zt2 (u:Un) (f:Fl) (deep:Int) (w:Wh) (seen:List Int) (set:List Bool) {x:Nd} {a b:List Nd} (h:z0z x=true) (hk:x.kind=10) (hx:x.kids=[a,b]) :
    z2w u f deep w seen set x=if z01 f.types seen x.args [2] then
        andT (z1o u f (deep+1) ⟨true,w.Loop,r8of f.types x.outs,w.Next,w.Left⟩ seen set a) fun s1 =>
        andT (z1o u f (deep+1) ⟨true,w.Loop,r8of f.types x.outs,w.Next,w.Left⟩ seen s1 b) fun s2=>z9w f x s2
      else (false,set):=by
  cases x;simp only [Nd.kind,Nd.kids,Nd.args,Nd.outs] at *;subst hk hx;unfold z2w;simp [h,z1o];rfl
theorem zb9 (u:Un) (f:Fl) (deep:Int) (w:Wh) (seen:List Int) (set:List Bool) {x:Nd} {a:List Nd} (h:z0z x=true) (hk:x.kind=11) (hx:x.kids=[a]) :
    z2w u f deep w seen set x=if z01 f.types seen x.args (r8of f.types x.params) then
        andT (z1p f.types set x.params (List.replicate x.params.length 0)) fun s1 =>
        andT (z1o u f (deep+1) ⟨false,true,[],r8of f.types x.params,r8of f.types x.outs⟩ (seen++x.params) s1 a) fun s2=>z9w f x s2
      else (false,set):=by
  cases x;simp only [Nd.kind,Nd.kids,Nd.args,Nd.outs,Nd.params] at *;subst hk hx;unfold z2w;simp [h,z1o];rfl
theorem z7v (u:Un) (f:Fl) (deep:Int) (w:Wh) (seen:List Int) (set:List Bool) {x:Nd} (h:z0z x=true) (h1:(x.kind==10)=false) (h2:(x.kind==11)=false) :
    z2w u f deep w seen set x=z1a u f set x seen w:=by
  cases x;simp only [Nd.kind] at *;unfold z2w;simp [h,h1,h2]
theorem z8s (x:Nd):ndW x=1+x.args.length+x.outs.length+x.params.length+kdW x.kids:=by cases x;simp [ndW,Nd.args,Nd.outs,Nd.params,Nd.kids]
theorem ck_row {u:Un} {f:Fl} {bt:TypeId} {s s':List Bool} {k:Nat} {o o2:Option HO}:look ((k,o)::(up (ckHp u f bt s')++((k,o2)::up (ckHp u f bt s))))=look ((k,o)::up (ckHp u f bt s')):=by
  funext j
  simp only [look]
  cases hkj:Nat.beq k j with
  | true=>rfl
  | false =>
    simp only [cond_false]
    rw [z2b]
    simp only [look,hkj,cond_false,ckHp,up,List.map_cons,List.map_nil]
    cases Nat.beq 3 j<;>cases Nat.beq 4 j<;>rfl
theorem ck_row' {u:Un} {f:Fl} {bt:TypeId} {s s':List Bool} {k:Nat} {t:RT} {al l:List Int} {o2:Option HO}:look ((k,some (.row t (al.map eInt++l.map eInt)))::(up (ckHp u f bt s')++((k,o2)::up (ckHp u f bt s))))=look ((k,some (.row t ((al++l).map eInt)))::up (ckHp u f bt s')):=by
  rw [ck_row,List.map_append]
theorem zt0 {u:Un} {f:Fl} {deep:Int} {w:Wh} {all:List Int} {set:List Bool} {l:List Nd} {k:Nat} (h:k<l.length):z1o u f deep w all set l=r8go u f deep w all set l:=by
  unfold z1o ne
  rw [if_neg]
  simp
  intro e;subst e;simp at h
theorem z6o {l:List Nd} {k:Nat} (h:k<l.length):(l.drop (k+1)).isEmpty=((k:Int)==(l.length:Int) - 1):=by
  by_cases e:k+1=l.length
  ·rw [List.drop_eq_nil_of_le oM0]
   have:(k:Int)=(l.length:Int) - 1:=by omega
   simp [this]
  have h1:l.drop (k+1)≠[]:=fun h0=>by have:=congrArg List.length h0;simp at this;omega
  have h2:¬ (k:Int)=(l.length:Int) - 1:=by omega
  rw [beq_eq_false_iff_ne.2 h2]
  cases hq:l.drop (k+1) with
  | nil=>exact absurd hq h1
  | cons=>rfl
theorem ba_sz (s:ByteArray):s.data.toList.length=s.size:=rfl
theorem y97 (s:ByteArray):∀ (n i:Nat) (acc:List UInt8),s.size - i=n->ByteArray.toList.loop s i acc=acc.reverse++s.data.toList.drop i
  | 0,i,acc,h=>by
    rw [ByteArray.toList.loop]
    have:¬ i<s.size:=by omega
    rw [if_neg this,List.drop_eq_nil_of_le (by rw [ba_sz];omega)]
    simp
  | n+1,i,acc,h=>by
    rw [ByteArray.toList.loop]
    have hi:i<s.size:=by omega
    rw [if_pos hi,y97 s n (i+1) _ oM0]
    have hi2:i<s.data.toList.length:=by rw [ba_sz];exact hi
    rw [List.drop_eq_getElem_cons hi2]
    have hget:s.get! i=s.data.toList[i]:=by
      show s.data[i]! = _
      rw [getElem!_pos s.data i hi]
      rfl
    simp [hget]
theorem z65 (s:ByteArray):s.toList=s.data.toList:=by
  rw [ByteArray.toList,y97 s _ 0 [] rfl];simp
theorem z9z (s:ByteArray):s.toList.length=s.size:=by rw [z65];rfl
theorem y66 {s:ByteArray} {i:Nat} (h:i<s.toList.length):s[i]? = some (s.toList[i]):=by
  have h2:i<s.size:=by rwa [z9z] at h
  rw [getElem?_pos s i h2]
  congr 1
  simp only [z65]
  rfl
def z6q (n:Int):Bool:=(decide (n ≥ 97)&&decide (n<=122))||(decide (n ≥ 65)&&decide (n<=90))||n==95
def zb2 (n:Int):Bool:=decide (n ≥ 48)&&decide (n<=57)
def isLD (b:UInt8):Bool:=z6q b.toNat||zb2 b.toNat
def z1c (s:ByteArray):Bool:=s.toList==ByteArray.toList ⟨#[105,110,116]⟩||s.toList==ByteArray.toList ⟨#[98,111,111,108]⟩||s.toList==ByteArray.toList ⟨#[105,102]⟩||s.toList==ByteArray.toList ⟨#[101,108,115,101]⟩||s.toList==ByteArray.toList ⟨#[119,104,105,108,101]⟩||s.toList==ByteArray.toList ⟨#[98,114,101,97,107]⟩||s.toList==ByteArray.toList ⟨#[99,111,110,116,105,110,117,101]⟩||s.toList==ByteArray.toList ⟨#[114,101,116,117,114,110]⟩||s.toList==ByteArray.toList ⟨#[112,114,105,110,116]⟩||s.toList==ByteArray.toList ⟨#[114,101,97,100]⟩||s.toList==ByteArray.toList ⟨#[116,114,117,101]⟩||s.toList==ByteArray.toList ⟨#[102,97,108,115,101]⟩||s.toList==ByteArray.toList ⟨#[105,56]⟩||s.toList==ByteArray.toList ⟨#[105,49,54]⟩||s.toList==ByteArray.toList ⟨#[105,51,50]⟩||s.toList==ByteArray.toList ⟨#[117,56]⟩||s.toList==ByteArray.toList ⟨#[117,49,54]⟩||s.toList==ByteArray.toList ⟨#[117,51,50]⟩
def z3c (s:ByteArray):Bool:=!(s.toList==[])&&decide ((s.size:Int)<=20)&&z6q (s.toList.headD 0).toNat && !z1c s&&s.toList.all isLD
mutual
def wtN:Nd->Nat
  | .mk _ _ _ name args outs params kids=>args.length+outs.length+params.length+name.size+wtK kids
def wtL:List Nd->Nat
  | []=>0
  | x::r=>wtN x+wtL r
def wtK:List (List Nd)->Nat
  | []=>0
  | l::r=>1+(l.length+wtL l)+wtK r
end
theorem wtN_eq (x:Nd):wtN x=x.args.length+x.outs.length+x.params.length+x.name.size+wtK x.kids:=by cases x;simp [wtN,Nd.args,Nd.outs,Nd.params,Nd.kids,Nd.name]
def z4b (l:List Nd):Nat:=l.length+wtL l
def wtA:List Ar->Nat
  | []=>0
  | a::r=>a.name.size+wtA r
def wtF:List Fl->Nat
  | []=>0
  | f::r=>f.name.size+f.types.length+z4b f.body+wtF r
def z0r (u:Un):Nat:=u.arrays.length+u.flows.length+wtA u.arrays+wtF u.flows
def z0b:ByteArray:=⟨#[109,97,105,110]⟩
def gArr (u:Un) (a:Ar) (i:Int):Bool:=z3c a.name && !decide (a.size<1) && !decide (a.size > 1000)&&(z0g a.name u.arrays 0==i) && !decide (z03 a.name u.flows 0 ≥ 0)
def r8gA (u:Un):List Ar->Int->Bool
  | [],_=>true
  | a::r,i=>gArr u a i&&r8gA u r (i+1)
def gFlw (u:Un) (f:Fl) (i:Int):Bool:=z3c f.name&&(z03 f.name u.flows 0==i)&&(f.ty==1||f.ty==2) && !decide (f.params<0) && !decide (f.params > f.types.length)
def r8gF (u:Un):List Fl->Int->Bool
  | [],_=>true
  | f::r,i=>gFlw u f i&&r8gF u r (i+1)
def y27:Fl:=⟨⟨#[]⟩,0,0,[],[]⟩
def z6u (u:Un):Bool:=decide (z03 z0b u.flows 0 ≥ 0)&&(u.flows.getD (z03 z0b u.flows 0).toNat y27).ty==1&&(u.flows.getD (z03 z0b u.flows 0).toNat y27).params==0
def z13 (u:Un):Bool:=r8gA u u.arrays 0&&r8gF u u.flows 0&&z6u u
theorem zj5 (name:ByteArray):∀ (l:List Fl) (i:Int),0<=i->z03 name l i ≥ 0->∃ k:Nat,z03 name l i=i+k/\k<l.length
  | [],i,_,h=>by simp [z03] at h
  | f::r,i,hi,h=>by
    unfold z03 at h ⊢
    split
    · exact ⟨0,by simp,by simp⟩
    · rename_i hne
      rw [if_neg hne] at h
      obtain ⟨k,h1,h2⟩:=zj5 name r (i+1) oM0 h
      exact ⟨k+1,by omega,by simpa using h2⟩
theorem y6r {u:Un}:∀ {l:List Fl} {i:Int},r8gF u l i=true->∀ g∈l,0<=g.params/\g.params<=g.types.length
  | [],_,_,g,hg=>by simp at hg
  | f::r,i,h,g,hg=>by
    simp only [r8gF,Bool.and_eq_true] at h
    rcases List.mem_cons.1 hg with rfl | hg
    · have:=h.1
      simp only [gFlw,Bool.and_eq_true,Bool.not_eq_true',decide_eq_false_iff_not] at this
      omega
    · exact y6r h.2 g hg
theorem z5e {u:Un} (h:z13 u=true):∀ g∈u.flows,0<=g.params/\g.params<=g.types.length:=by
  simp only [z13,Bool.and_eq_true] at h
  exact y6r h.1.2
def z1l:Wh:=⟨false,false,[],[],[]⟩
def iota (n:Nat):List Int:=(List.range n).map fun (i:Nat)=>(i:Int)
def z3f (k n:Nat):List Bool:=List.replicate k true++List.replicate (n - k) false
def z2v (u:Un) (f:Fl):Bool:=!decide (f.params<0) && !decide (f.params > 8) && !decide (f.params > f.types.length) && !decide ((f.types.length:Int) > 20000)&&f.types.all (fun t=>t==1||t==2) &&
  (z1o u f 1 z1l (iota f.params.toNat) (z3f f.params.toNat f.types.length) f.body).1
theorem yb2 (n:Nat):iota n++[(n:Int)]=iota (n+1):=by simp [iota,List.range_succ]
theorem zb1 (n:Nat):(iota n).length=n:=by simp [iota]
theorem z2z {k n:Nat} (h:k<=n):(z3f k n).length=n:=by simp [z3f];omega
theorem y7h {k n:Nat} (h:k<n):(z3f k n).set k true=z3f (k+1) n:=by
  unfold z3f
  rw [List.set_append_right _ _ sI0,List.length_replicate,Nat.sub_self]
  have:n - k=(n - (k+1))+1:=by omega
  rw [this,List.replicate_succ,List.set_cons_zero,List.replicate_succ',List.append_assoc]
  rfl
def z4p (u:Un):List Fl->Int->Int × Int
  | [],_=>(0,0)
  | f::r,i=>if z2v u f then z4p u r (i+1) else (80,i)
def z18 (u:Un):Int × Int:=if z13 u then z4p u u.flows 0 else (1,0)
mutual
theorem ndW_le:∀ x:Nd,ndW x<=1+wtN x
  | .mk k o n s a t p ks=>by
    have:=kdW_le ks
    simp only [ndW,wtN]
    omega
theorem y6i:∀ l:List Nd,lsW l<=l.length+wtL l
  | []=>by simp [lsW]
  | x::r=>by
    have h1:=ndW_le x
    have h2:=y6i r
    simp only [lsW,wtL,List.length_cons]
    omega
theorem kdW_le:∀ l:List (List Nd),kdW l<=wtK l
  | []=>by simp [kdW]
  | x::r=>by
    have h1:=y6i x
    have h2:=kdW_le r
    simp only [kdW,wtK]
    omega
end
theorem ym4:∀ {l:List Fl} {f:Fl},f∈l->z4b f.body<=wtF l
  | g::r,f,h=>by
    rcases List.mem_cons.1 h with rfl | h
    · simp only [wtF];omega
    · have:=ym4 h;simp only [wtF];omega
theorem zh9 {u:Un} (h:z0r u<=536870912) {f:Fl} (hf:f∈u.flows):lsW f.body<=536870912:=by
  have h1:=ym4 hf
  have h2:=y6i f.body
  unfold z0r z4b at *
  omega
section
variable {P:Program} {c:Cx} {R1:Nat->Prop} {o:Oper} {fr:Fr} {hp:Hp}
theorem ze9 {t:TypeId} {x:Operand} {k:Nat} {cs:List IV} (ho:o.op = .box t x) (hx:fr.ev x=some (.agg cs)) (hσ:look hp k=none) (hc:c.σ k=none) (hfr:nmFr k fr=false) (hhp:nmHp k hp=false) (hcs:nm.nms k cs=false) :
    Ok P c o fr (look hp) (.ptr k 0) (look ((k,some (.box cs))::hp)):=by
  intro ρ w a K Q h hK
  obtain ⟨vs,u,hv,hl,hvu,hr⟩:=(h.ev hx).inv_agg
  have hrun:(execOp a.eval o).run P w = .ok (.value (.pointer (some ⟨w.heap.size,0,none⟩))) (w.alloc (.cells vs t)):=by
    have hn:(newVar t (.agg vs)).run P w = .ok ⟨w.heap.size,0,none⟩ (w.alloc (.cells vs t)):=rfl
    simp only [execOp,ho,hv,Instr.box,Sem.run_bind,hn,Result.andThen_ok]
    rfl
  unfold Oper.wp
  rw [hrun]
  refine hK (z1r ρ k (some (w.heap.size,1))) _ _ (h.alloc hσ hc hfr hhp 1 _ _ fun keep _=>?_) (.ptr _ _ _ fun cs' _=>⟨w.heap.size,1,z0f,rfl⟩)
  exact .box _ t vs u (z3b w _) (Nat.le_of_eq hl.symm) hvu fun j x hj=>keep _ _ (hr j x hj) (z5d hcs (List.mem_of_getElem? hj))
def firm1 (hp:Hp):IV->Prop
  | .pv (.agg _)=>True
  | .pv p=>p.one=true
  | .agg _=>True
  | .fn ..=>True
  | .sl k len=>∃ s els,look hp k=some (.row s els)/\els.length=len
  | .ptr k _=>∃ cs,look hp k=some (.box cs)
  | .mp k=>∃ es,look hp k=some (.map es)
  | .bs k _=>∃ cs,look hp k=some (.box cs)
  | _=>False
def y68 (hp:Hp):List (Nat × IV)->Prop
  | []=>True
  | (_,x)::r=>firm1 hp x/\y68 hp r
theorem zd3:∀ {xs:List (Nat × IV)},y68 hp xs->z42 (look hp) xs
  | (i,x)::r,h,p,hq,hn=>by
    rcases List.mem_cons.1 hq with rfl | hq
    ·have h1:=h.1
     cases x with
     | pv q=>cases q<;>first | exact h1 | (simp [IV.parts] at hn)
     | agg=>simp [IV.parts] at hn
     | fn=>trivial
     | tup=>exact h1.elim
     | rpt=>exact h1.elim
     | _=>exact h1
    exact zd3 h.2 p hq hn
def keyB:Value->Value->Bool
  | .int _ a,.int _ b=>a==b
  | .string a,.string b=>a.toList==b.toList
  | _,_=>false
def z2a:TypeDesc->Value->Bool
  | .int k,.int k' _=>k'==k
  | .string,.string _=>true
  | _,_=>false
theorem z5x {d:TypeDesc} {v:Value} (h:z2a d v=true):MapKept.IsKey d v:=by
  cases d<;>cases v<;>simp_all [z2a,MapKept.IsKey]
theorem y6c {d:TypeDesc} {a b:Value} (ha:z2a d a=true) (hb:z2a d b=true):keyB a b=true↔a=b:=by
  cases d<;>cases a<;>cases b<;>first
    | (simp_all [z2a,keyB];done)
    | (simp only [keyB,beq_iff_eq,Value.string.injEq]
       exact ⟨fun h=>MapKept.bytes_beq _ _ |>.1 (by rw [beq_toListBytes];simpa using h),fun h=>by rw [h]⟩)
def z3a (k:Value):List (Value × PV)->Option PV
  | []=>none
  | (a,p)::r=>if keyB k a then some p else z3a k r
def mput (k:Value) (v:PV):List (Value × PV)->List (Value × PV)
  | []=>[(k,v)]
  | (a,p)::r=>if keyB k a then (k,v)::r else (a,p)::mput k v r
theorem zn1 {d:TypeDesc} {k:Value} (hk:z2a d k=true):∀ (es:List (Value × PV)) (l:List MapEntry) (i:Nat),l.length=es.length->(∀ e∈es,z2a d e.1=true)->(∀ (j:Nat) (a:Value) (p:PV),es[j]? = some (a,p)->∃ m:MapEntry,l[j]? = some m/\m.key=a) ->
    (Instr.findNow d k l i=some none/\z3a k es=none/\∀ v,mput k v es=es++[(k,v)])∨∃ j m p,Instr.findNow d k l i=some (some (i+j,m.val))/\l[j]? = some m/\m.key=k/\es[j]? = some (k,p)/\z3a k es=some p/\∀ v,mput k v es=es.set j (k,v)
  | [],[],_,_,_,_=>.inl ⟨rfl,rfl,fun _=>rfl⟩
  | (a,p)::es,m::l,i,hl,he,h=>by
    have h0:m.key=a:=by obtain ⟨m',hm',e⟩:=h 0 a p rfl;cases hm';exact e
    have ha:=he (a,p) (.head _)
    obtain ⟨r,hr,hiff⟩:=MapKept.sameNow_of_keys (z5x hk) (z5x ha)
    rw [<- h0] at hr
    cases r with
    | true =>
      have hka:k=a:=hiff.1 rfl
      have hb:keyB k a=true:=(y6c hk ha).2 hka
      exact .inr ⟨0,m,p,by simp [Instr.findNow,hr],rfl,h0.trans hka.symm,by simp [hka],by simp [z3a,hb],fun v=>by simp [mput,hb]⟩
    | false =>
      have hb:keyB k a=false:=by
        cases hb:keyB k a with
        | false=>rfl
        | true=>have:=hiff.2 ((y6c hk ha).1 hb);cases this
      rcases zn1 hk es l (i+1) (by simpa using hl) (fun e h'=>he e (.tail _ h')) (fun j a p hj=>by simpa using h (j+1) a p (by simpa using hj)) with ⟨h1,h2,h3⟩ | ⟨j,m',p',h1,h2,h3,h4,h5,h6⟩
      ·exact .inl ⟨by simp [Instr.findNow,hr,h1],by simp [z3a,hb,h2],fun v=>by simp [mput,hb,h3]⟩
      exact .inr ⟨j+1,m',p',by simp [Instr.findNow,hr,h1];omega,by simpa using h2,h3,by simpa using h4,by simp [z3a,hb,h5],fun v=>by simp [mput,hb,h6]⟩
theorem RepO.inv_map {F:Nat->Prop} {ρ:Loc} {σ:Heap'} {w:World} {b cc:Nat} {es:List (Value × PV)} (h:RepO F ρ σ w b cc (.map es)) :
    ∃ (a:Array MapEntry) (t:Nat) (u:Nat->Value),w.heap[b]? = some (.map a t)/\a.size=es.length/\(∀ i k p,es[i]? = some (k,p)->∃ m:MapEntry,a[i]? = some m/\m.key=k/\m.val=u i)/\∀ i k p,es[i]? = some (k,p)->RepP (owned F ρ) w p (u i):=by
  cases h with
  | map _ a t u h hl hv hr=>exact ⟨a,t,u,h,hl,hv,hr⟩
theorem All.mapAt {ρ:Loc} {w:World} {a:Act} (h:All c ρ (look hp) w fr a) {x:Operand} {k:Nat} {es:List (Value × PV)} (hx:fr.ev x=some (.mp k)) (hk:look hp k=some (.map es)) :
    ∃ (b cc:Nat) (r:Array MapEntry) (t:Nat) (u:Nat->Value),a.eval x = .map (some b) /\ ρ k=some (b,cc)/\w.heap[b]? = some (.map r t)/\r.size=es.length/\(∀ i k p,es[i]? = some (k,p)->∃ m:MapEntry,r[i]? = some m/\m.key=k/\m.val=u i)/\∀ i k p,es[i]? = some (k,p)->RepP (owned c.F ρ) w p (u i):=by
  have hr:=h.ev hx
  generalize hv:a.eval x=v at hr
  cases hr with
  | mp _ _ hh =>
    obtain ⟨b,cc,hρ,rfl⟩:=hh es hk
    obtain ⟨o1,h1,h2⟩:=h.rel.obj k b cc hρ
    rw [hk] at h1;cases h1
    obtain ⟨r,t,u,h3,h4,h5,h6⟩:=h2.inv_map
    exact ⟨b,cc,r,t,u,rfl,hρ,h3,h4,h5,h6⟩
theorem zz4 {t:TypeId} {k:Nat} (ho:o.op = .makeMap t none) (hσ:look hp k=none) (hc:c.σ k=none) (hfr:nmFr k fr=false) (hhp:nmHp k hp=false) :
    Ok P c o fr (look hp) (.mp k) (look ((k,some (.map []))::hp)):=by
  intro ρ w a K Q h hK
  have hrun:(execOp a.eval o).run P w = .ok (.value (.map (some w.heap.size))) (w.alloc (.map #[] 0)):=by
    have hn:(newObj (.map #[] 0)).run P w = .ok w.heap.size (w.alloc (.map #[] 0)):=rfl
    simp [execOp,ho,Instr.makeMap,Sem.run_bind,hn]
  unfold Oper.wp
  rw [hrun]
  refine hK (z1r ρ k (some (w.heap.size,1))) _ _ (h.alloc hσ hc hfr hhp 1 _ _ fun keep _=>?_) (.mp _ _ fun es' _=>⟨w.heap.size,1,z0f,rfl⟩)
  exact .map [] #[] 0 (fun _=>undef) (z3b w _) rfl (fun i k p hi=>by simp at hi) fun i k p hi=>by simp at hi
theorem zl4 {t kt et:TypeId} {d:TypeDesc} {x y z:Operand} {k:Nat} {es:List (Value × PV)} {kv:Value} {p:PV} (ho:o.op = .mapUpdate t x y z) (hx:fr.ev x=some (.mp k)) (hy:fr.ev y=some (.pv (.val kv))) (hz:fr.ev z=some (.pv p)) (hk:look hp k=some (.map es))
    (hR:¬ c.R k) (hu:P.underlying t=some (.map kt et)) (hd:P.underlying kt=some d) (hkv:z2a d kv=true) (hes:∀ e∈es,z2a d e.1=true):Ok P c o fr (look hp) (.pv (.val undef)) (look ((k,some (.map (mput kv p es)))::hp)):=by
  refine zs2 fun ρ w a h=>?_
  obtain ⟨b,cc,r,ck,u,hv,hρ,h3,h4,h5,h6⟩:=h.mapAt hx hk
  have hzr:RepP (owned c.F ρ) w p (a.eval z):=by
    have:=h.ev hz
    generalize a.eval z=vz at this
    cases this with
    | pv _ _ hp=>exact hp
  have hkey:=MapKept.run_checkKey (w:=w) hd (z5x hkv) false 9999
  have hset:∀ o',(setObj b o').run P w = .ok () { w with heap:=w.heap.setIfInBounds b o' }:=fun o'=>MapKept.run_setObj_map o' h3
  have hb:b<w.heap.size:=(Array.getElem?_eq_some_iff.1 h3).1
  have hsame:∀ v:Value,z2a d v=true->Instr.sameBits 10000 v v=true:=by
    intro v hv
    cases d<;>cases v<;>simp_all [z2a,Instr.sameBits,MapKept.bytes_beq]
  rcases zn1 hkv es r.toList 0 (by simpa using h4) hes (fun j a p hj=>by obtain ⟨m,hm,e,_⟩:=h5 j a p hj;exact ⟨m,by simpa using hm,e⟩) with ⟨h1,h2,h7⟩ | ⟨j,m,q,h1,h2,h3',h4',h5',h7⟩
  ·have hfind:=MapKept.run_findKey (P:=P) (w:=w) (kt:=kt) hd h1
   refine ⟨ρ,{ w with heap:=w.heap.setIfInBounds b (.map (r.push ⟨kv,a.eval z,ck⟩) (ck+1)) },by simp [execOp,ho,hv,z0w h hy,Instr.mapUpdate,Sem.run_bind,run_underlying hu,MapKept.run_getObj_map h3,hkey,hfind,hset],?_⟩
   refine h.write hρ hk trivial hR rfl rfl rfl sI0 (fun j hj=>by simp [Ne.symm hj]) fun keep keepP=>?_
   refine .map _ (r.push ⟨kv,a.eval z,ck⟩) (ck+1) (fun i=>if i=es.length then a.eval z else u i) (by simp [hb]) (by simp [h7,h4]) (fun i k' p' hi=>?_) fun i k' p' hi=>?_
   ·rw [h7] at hi
    by_cases e:i=es.length
    ·subst e
     simp only [List.getElem?_concat_length,Option.some.injEq,Prod.mk.injEq] at hi
     obtain ⟨rfl,rfl⟩:=hi
     exact ⟨⟨kv,a.eval z,ck⟩,by rw [<- h4];simp,rfl,by simp⟩
    have hlt:i<es.length:=by
      have:=(List.getElem?_eq_some_iff.1 hi).1
      simp at this;omega
    rw [List.getElem?_append_left hlt] at hi
    obtain ⟨m,hm,e1,e2⟩:=h5 i k' p' hi
    refine ⟨m,?_,e1,by simp [e,e2]⟩
    rw [Array.getElem?_push,if_neg oM0]
    exact hm
   rw [h7] at hi
   by_cases e:i=es.length
   ·subst e
    simp only [List.getElem?_concat_length,Option.some.injEq,Prod.mk.injEq] at hi
    obtain ⟨rfl,rfl⟩:=hi
    simpa using keepP _ _ hzr
   have hlt:i<es.length:=by
     have:=(List.getElem?_eq_some_iff.1 hi).1
     simp at this;omega
   rw [List.getElem?_append_left hlt] at hi
   simpa [e] using keepP _ _ (h6 i k' p' hi)
  have hfind:=MapKept.run_findKey (P:=P) (w:=w) (kt:=kt) hd h1
  have hj:r[0+j]? = some m:=by simpa using h2
  have hstay:(Instr.keyThatStays kv kv).run P w = .ok kv w:=by simp [Instr.keyThatStays,hsame kv hkv]
  refine ⟨ρ,{ w with heap:=w.heap.setIfInBounds b (.map (r.modify (0+j) fun e=>{ e with key:=kv,val:=a.eval z }) ck) },?_,?_⟩
  ·simp only [execOp,ho,hv,z0w h hy,Instr.mapUpdate,Sem.run_bind,run_underlying hu,MapKept.run_getObj_map h3,hkey,hfind,Result.andThen_ok,hj,Option.map_some,Option.getD_some,h3',hstay,hset]
   rfl
  refine h.write hρ hk trivial hR rfl rfl rfl sI0 (fun j hj=>by simp [Ne.symm hj]) fun keep keepP=>?_
  have hjl:j<es.length:=(List.getElem?_eq_some_iff.1 h4').1
  refine .map _ (r.modify (0+j) fun e=>{ e with key:=kv,val:=a.eval z }) ck (fun i=>if i=j then a.eval z else u i) (by simp [hb]) (by simp [h7,h4]) (fun i k' p' hi=>?_) fun i k' p' hi=>?_
  ·rw [h7] at hi
   by_cases e:i=j
   ·subst e
    rw [List.getElem?_set_self hjl] at hi
    cases hi
    refine ⟨{ m with key:=kv,val:=a.eval z },?_,rfl,by simp⟩
    simp only [Nat.zero_add,Array.getElem?_modify,if_true] at hj ⊢
    rw [hj];rfl
   rw [List.getElem?_set_ne (Ne.symm e)] at hi
   obtain ⟨m',hm',e1,e2⟩:=h5 i k' p' hi
   refine ⟨m',?_,e1,by simp [e,e2]⟩
   simp only [Nat.zero_add,Array.getElem?_modify,if_neg (Ne.symm e)]
   exact hm'
  rw [h7] at hi
  by_cases e:i=j
  ·subst e
   rw [List.getElem?_set_self hjl] at hi
   cases hi
   simpa using keepP _ _ hzr
  rw [List.getElem?_set_ne (Ne.symm e)] at hi
  simpa [e] using keepP _ _ (h6 i k' p' hi)
theorem yc7 {t kt et:TypeId} {d:TypeDesc} {x y z:Operand} {k:Nat} {es:List (Value × PV)} {kv:Value} {p:PV} (ho:o.op = .insert t x y z) (hx:fr.ev x=some (.mp k)) (hy:fr.ev y=some (.pv (.val kv))) (hz:fr.ev z=some (.pv p)) (hk:look hp k=some (.map es))
    (hR:¬ c.R k) (hu:P.underlying t=some (.map kt et)) (hd:P.underlying kt=some d) (hkv:z2a d kv=true) (hes:∀ e∈es,z2a d e.1=true):Ok P c o fr (look hp) (.pv (.val undef)) (look ((k,some (.map (mput kv p es)))::hp)):=by
  refine zs2 fun ρ w a h=>?_
  obtain ⟨b,cc,r,ck,u,hv,hρ,h3,h4,h5,h6⟩:=h.mapAt hx hk
  have hzr:RepP (owned c.F ρ) w p (a.eval z):=by
    have:=h.ev hz
    generalize a.eval z=vz at this
    cases this with
    | pv _ _ hp=>exact hp
  have hkey:=MapKept.run_checkKey (w:=w) hd (z5x hkv) false 9999
  have hset:∀ o',(setObj b o').run P w = .ok () { w with heap:=w.heap.setIfInBounds b o' }:=fun o'=>MapKept.run_setObj_map o' h3
  have hb:b<w.heap.size:=(Array.getElem?_eq_some_iff.1 h3).1
  have hsame:∀ v:Value,z2a d v=true->Instr.sameBits 10000 v v=true:=by
    intro v hv
    cases d<;>cases v<;>simp_all [z2a,Instr.sameBits,MapKept.bytes_beq]
  rcases zn1 hkv es r.toList 0 (by simpa using h4) hes (fun j a p hj=>by obtain ⟨m,hm,e,_⟩:=h5 j a p hj;exact ⟨m,by simpa using hm,e⟩) with ⟨h1,h2,h7⟩ | ⟨j,m,q,h1,h2,h3',h4',h5',h7⟩
  ·have hfind:=MapKept.run_findKey (P:=P) (w:=w) (kt:=kt) hd h1
   refine ⟨ρ,{ w with heap:=w.heap.setIfInBounds b (.map (r.push ⟨kv,a.eval z,ck⟩) (ck+1)) },by simp [execOp,ho,hv,z0w h hy,Instr.mapUpdate,Sem.run_bind,run_underlying hu,MapKept.run_getObj_map h3,hkey,hfind,hset],?_⟩
   refine h.write hρ hk trivial hR rfl rfl rfl sI0 (fun j hj=>by simp [Ne.symm hj]) fun keep keepP=>?_
   refine .map _ (r.push ⟨kv,a.eval z,ck⟩) (ck+1) (fun i=>if i=es.length then a.eval z else u i) (by simp [hb]) (by simp [h7,h4]) (fun i k' p' hi=>?_) fun i k' p' hi=>?_
   ·rw [h7] at hi
    by_cases e:i=es.length
    ·subst e
     simp only [List.getElem?_concat_length,Option.some.injEq,Prod.mk.injEq] at hi
     obtain ⟨rfl,rfl⟩:=hi
     exact ⟨⟨kv,a.eval z,ck⟩,by rw [<- h4];simp,rfl,by simp⟩
    have hlt:i<es.length:=by
      have:=(List.getElem?_eq_some_iff.1 hi).1
      simp at this;omega
    rw [List.getElem?_append_left hlt] at hi
    obtain ⟨m,hm,e1,e2⟩:=h5 i k' p' hi
    refine ⟨m,?_,e1,by simp [e,e2]⟩
    rw [Array.getElem?_push,if_neg oM0]
    exact hm
   rw [h7] at hi
   by_cases e:i=es.length
   ·subst e
    simp only [List.getElem?_concat_length,Option.some.injEq,Prod.mk.injEq] at hi
    obtain ⟨rfl,rfl⟩:=hi
    simpa using keepP _ _ hzr
   have hlt:i<es.length:=by
     have:=(List.getElem?_eq_some_iff.1 hi).1
     simp at this;omega
   rw [List.getElem?_append_left hlt] at hi
   simpa [e] using keepP _ _ (h6 i k' p' hi)
  have hfind:=MapKept.run_findKey (P:=P) (w:=w) (kt:=kt) hd h1
  have hj:r[0+j]? = some m:=by simpa using h2
  have hstay:(Instr.keyThatStays kv kv).run P w = .ok kv w:=by simp [Instr.keyThatStays,hsame kv hkv]
  refine ⟨ρ,{ w with heap:=w.heap.setIfInBounds b (.map (r.modify (0+j) fun e=>{ e with key:=kv,val:=a.eval z }) ck) },?_,?_⟩
  ·simp only [execOp,ho,hv,z0w h hy,Instr.mapUpdate,Sem.run_bind,run_underlying hu,MapKept.run_getObj_map h3,hkey,hfind,Result.andThen_ok,hj,Option.map_some,Option.getD_some,h3',hstay,hset]
   rfl
  refine h.write hρ hk trivial hR rfl rfl rfl sI0 (fun j hj=>by simp [Ne.symm hj]) fun keep keepP=>?_
  have hjl:j<es.length:=(List.getElem?_eq_some_iff.1 h4').1
  refine .map _ (r.modify (0+j) fun e=>{ e with key:=kv,val:=a.eval z }) ck (fun i=>if i=j then a.eval z else u i) (by simp [hb]) (by simp [h7,h4]) (fun i k' p' hi=>?_) fun i k' p' hi=>?_
  ·rw [h7] at hi
   by_cases e:i=j
   ·subst e
    rw [List.getElem?_set_self hjl] at hi
    cases hi
    refine ⟨{ m with key:=kv,val:=a.eval z },?_,rfl,by simp⟩
    simp only [Nat.zero_add,Array.getElem?_modify,if_true] at hj ⊢
    rw [hj];rfl
   rw [List.getElem?_set_ne (Ne.symm e)] at hi
   obtain ⟨m',hm',e1,e2⟩:=h5 i k' p' hi
   refine ⟨m',?_,e1,by simp [e,e2]⟩
   simp only [Nat.zero_add,Array.getElem?_modify,if_neg (Ne.symm e)]
   exact hm'
  rw [h7] at hi
  by_cases e:i=j
  ·subst e
   rw [List.getElem?_set_self hjl] at hi
   cases hi
   simpa using keepP _ _ hzr
  rw [List.getElem?_set_ne (Ne.symm e)] at hi
  simpa [e] using keepP _ _ (h6 i k' p' hi)
theorem zz7 {t kt et:TypeId} {d:TypeDesc} {b ck:Nat} {r:Array MapEntry} {kv z:Value} {es:List (Value × PV)} (commaOk:Bool) (hl:r.size=es.length) (h5:∀ (j:Nat) (a:Value) (p:PV),es[j]? = some (a,p)->∃ m:MapEntry,r[j]? = some m/\m.key=a)
    (hu:P.underlying t=some (.map kt et)) (hd:P.underlying kt=some d) (hkv:z2a d kv=true) (hes:∀ e∈es,z2a d e.1=true) (hzv:((P.info? et).bind (·.zero))=some z) :
    (z3a kv es=none/\∀ w:World,w.heap[b]? = some (.map r ck)->(Instr.lookup t (.map (some b)) kv commaOk).run P w = .ok (if commaOk then .tuple #[z,.bool false] else z) w) ∨
    ∃ (j:Nat) (m:MapEntry) (p:PV),r[j]? = some m/\es[j]? = some (kv,p)/\z3a kv es=some p/\∀ w:World,w.heap[b]? = some (.map r ck)->(Instr.lookup t (.map (some b)) kv commaOk).run P w = .ok (if commaOk then .tuple #[m.val,.bool true] else m.val) w:=by
  have hz:∀ w,(zeroValue et).run P w = .ok z w:=by
    intro w
    cases hq:P.info? et with
    | none=>simp [hq] at hzv
    | some i=>simp [hq] at hzv;simp [zeroValue,typeInfo,hq,hzv]
  rcases zn1 hkv es r.toList 0 (by simpa using hl) hes (fun j a p hj=>by obtain ⟨m,hm,e⟩:=h5 j a p hj;exact ⟨m,by simpa using hm,e⟩) with ⟨h1,h2,h7⟩ | ⟨j,m,q,h1,h2,h3',h4',h5',h7⟩
  ·refine .inl ⟨h2,fun w hb=>?_⟩
   have hkey:=MapKept.run_checkKey (w:=w) hd (z5x hkv) r.isEmpty 9999
   have hfind:=MapKept.run_findKey (P:=P) (w:=w) (kt:=kt) hd h1
   simp only [Instr.lookup,Sem.run_bind,run_underlying hu,MapKept.run_getObj_map hb,Sem.run_pure,hkey,hfind,hz,Result.andThen_ok]
  refine .inr ⟨j,m,q,by simpa using h2,h4',h5',fun w hb=>?_⟩
  have hkey:=MapKept.run_checkKey (w:=w) hd (z5x hkv) r.isEmpty 9999
  have hfind:=MapKept.run_findKey (P:=P) (w:=w) (kt:=kt) hd h1
  simp only [Instr.lookup,Sem.run_bind,run_underlying hu,MapKept.run_getObj_map hb,Sem.run_pure,hkey,hfind,hz,Result.andThen_ok]
theorem yc8 {t kt et:TypeId} {d:TypeDesc} {x y:Operand} {k:Nat} {es:List (Value × PV)} {kv z:Value} (ho:o.op = .lookup t x y false) (hx:fr.ev x=some (.mp k)) (hy:fr.ev y=some (.pv (.val kv))) (hk:look hp k=some (.map es))
    (hu:P.underlying t=some (.map kt et)) (hd:P.underlying kt=some d) (hkv:z2a d kv=true) (hes:∀ e∈es,z2a d e.1=true) (hzv:((P.info? et).bind (·.zero))=some z) (hR:R1 k):OkV P c R1 o fr (look hp) (.pv ((z3a kv es).getD (.val z))):=by
  intro ρ w a h
  obtain ⟨b,cc,r,ck,u,hv,hρ,h3,h4,h5,h6⟩:=h.mapAt hx hk
  have h3':∀ w2,SameFor c.F R1 ρ w w2->w2.heap[b]? = some (.map r ck):=fun w2 h2=>(h2 b (h.rel.lt hρ) (.inr ⟨k,cc,hR,hρ⟩)).trans h3
  rcases zz7 (b:=b) (ck:=ck) false h4 (fun j a p hj=>by obtain ⟨m,h1,h2,_⟩:=h5 j a p hj;exact ⟨m,h1,h2⟩) hu hd hkv hes hzv with ⟨h1,h2⟩ | ⟨j,m,p,h1,h2,h7,h8⟩
  ·refine ⟨z,fun w2 hw2=>?_,by rw [h1];exact z32 _⟩
   simp [execOp,ho,hv,z0w h hy,Sem.run_bind,h2 w2 (h3' w2 hw2)]
  obtain ⟨m',hm',_,e2⟩:=h5 j kv p h2
  rw [h1] at hm';cases hm'
  refine ⟨m.val,fun w2 hw2=>by simp [execOp,ho,hv,z0w h hy,Sem.run_bind,h8 w2 (h3' w2 hw2)],?_⟩
  rw [h7,e2]
  exact .pv _ _ (h6 j kv p h2)
theorem zi9 {t kt et:TypeId} {d:TypeDesc} {x y:Operand} {k:Nat} {es:List (Value × PV)} {kv z:Value} (ho:o.op = .lookup t x y true) (hx:fr.ev x=some (.mp k)) (hy:fr.ev y=some (.pv (.val kv))) (hk:look hp k=some (.map es))
    (hu:P.underlying t=some (.map kt et)) (hd:P.underlying kt=some d) (hkv:z2a d kv=true) (hes:∀ e∈es,z2a d e.1=true) (hzv:((P.info? et).bind (·.zero))=some z) (hR:R1 k):OkV P c R1 o fr (look hp) (.tup [.pv ((z3a kv es).getD (.val z)),iBool (z3a kv es).isSome]):=by
  intro ρ w a h
  obtain ⟨b,cc,r,ck,u,hv,hρ,h3,h4,h5,h6⟩:=h.mapAt hx hk
  have h3':∀ w2,SameFor c.F R1 ρ w w2->w2.heap[b]? = some (.map r ck):=fun w2 h2=>(h2 b (h.rel.lt hρ) (.inr ⟨k,cc,hR,hρ⟩)).trans h3
  have two:∀ {p:PV} {v:Value} {g:Bool},RepP (owned c.F ρ) w p v->RepI c.F ρ (look hp) w (.tup [.pv p,iBool g]) (.tuple #[v,.bool g]):=fun {p v g} hp=>.tup _ _ (fun j=>if j=0 then v else .bool g) rfl (fun j x hj=>by
      match j,hj with
      | 0,hj=>rfl
      | 1,hj=>rfl
      | j+2,hj=>simp at hj) fun j x hj=>by
      match j,hj with
      | 0,hj=>cases hj;exact .pv _ _ hp
      | 1,hj=>cases hj;exact z32 _
      | j+2,hj=>simp at hj
  rcases zz7 (b:=b) (ck:=ck) true h4 (fun j a p hj=>by obtain ⟨m,h1,h2,_⟩:=h5 j a p hj;exact ⟨m,h1,h2⟩) hu hd hkv hes hzv with ⟨h1,h2⟩ | ⟨j,m,p,h1,h2,h7,h8⟩
  ·refine ⟨.tuple #[z,.bool false],fun w2 hw2=>?_,by rw [h1];exact two (.val _)⟩
   simp [execOp,ho,hv,z0w h hy,Sem.run_bind,h2 w2 (h3' w2 hw2)]
  obtain ⟨m',hm',_,e2⟩:=h5 j kv p h2
  rw [h1] at hm';cases hm'
  refine ⟨.tuple #[m.val,.bool true],fun w2 hw2=>by simp [execOp,ho,hv,z0w h hy,Sem.run_bind,h8 w2 (h3' w2 hw2)],?_⟩
  rw [h7,e2]
  exact two (h6 j kv p h2)
theorem y7u {t kt et:TypeId} {x:Operand} {k:Nat} {es:List (Value × PV)} (ho:o.op = .call { callee:=.builtin .len,args:=#[x],argTypes:=#[t] }) (hx:fr.ev x=some (.mp k)) (hk:look hp k=some (.map es)) (hu:P.underlying t=some (.map kt et)) (hR:R1 k) :
    OkV P c R1 o fr (look hp) (.pv (vInt es.length)):=by
  intro ρ w a h
  obtain ⟨b,cc,r,ck,u,hv,hρ,h3,h4,h5,h6⟩:=h.mapAt hx hk
  refine ⟨_,fun w2 h2=>?_,z32 _⟩
  have h3':=(h2 b (h.rel.lt hρ) (.inr ⟨k,cc,hR,hρ⟩)).trans h3
  simp [execOp,ho,hv,resolve,Sem.run_bind,invoke,builtin,Builtin.len_,run_underlying hu,goInt,MapKept.run_getObj_map h3',h4]
end
section
variable {P:Program} {c:Cx} {R1:Nat->Prop} {o:Oper} {fr:Fr} {hp:Hp}
theorem y4s {t:TypeId} {x:Operand} {p:PV} {σ:Heap'} (ho:o.op = .box t x) (hx:fr.ev x=some (.pv p)) (h1:p.one=true):Ok P c o fr σ (.pv (.ept [p] 0)) σ:=by
  intro ρ w a K Q h hK
  have hr:=h.ev hx
  have hone:=RepI.one hr (show (IV.pv p).firm σ from h1)
  generalize hv:a.eval x=v at hr hone
  cases hr with
  | pv _ _ hr =>
    have hcells:v.cells = #[v]:=by cases v<;>first | rfl | cases hone
    have hrun:(execOp a.eval o).run P w = .ok (.value (.pointer (some ⟨w.heap.size,0,none⟩))) (w.alloc (.cells #[v] t)):=by
      have hn:(newVar t v).run P w = .ok ⟨w.heap.size,0,none⟩ (w.alloc (.cells v.cells t)):=rfl
      rw [hcells] at hn
      simp only [execOp,ho,hv,Instr.box,Sem.run_bind,hn,Result.andThen_ok]
      rfl
    unfold Oper.wp
    rw [hrun]
    obtain ⟨h3,keep⟩:=h.push (.cells #[v] t)
    refine hK ρ _ _ h3 (.pv _ _ (.ept [p] 0 w.heap.size 0 (fun _=>v) ⟨h.fresh,by simp⟩ (fun j z hj=>?_) fun j z hj=>?_))
    ·have h0:j=0:=by have:=(List.getElem?_eq_some_iff.1 hj).1;simp at this;exact this
     subst h0
     rw [z4l (z3b w _)];rfl
    have h0:j=0:=by have:=(List.getElem?_eq_some_iff.1 hj).1;simp at this;exact this
    subst h0
    simp only [List.getElem?_cons_zero,Option.some.injEq] at hj
    subst hj
    exact keep _ _ hr
theorem zi6 {t:TypeId} {x:Operand} {k:Nat} {z:IV} (ho:o.op = .box t x) (hx:fr.ev x=some z) (hz:z.firm (look hp)) (hσ:look hp k=none) (hc:c.σ k=none) (hfr:nmFr k fr=false) (hhp:nmHp k hp=false) (hcs:nm k z=false) :
    Ok P c o fr (look hp) (.ptr k 0) (look ((k,some (.box [z]))::hp)):=by
  intro ρ w a K Q h hK
  have hr:=h.ev hx
  have hone:=RepI.one hr hz
  generalize hv:a.eval x=v at hr hone
  have hcells:v.cells = #[v]:=by cases v<;>first | rfl | cases hone
  have hrun:(execOp a.eval o).run P w = .ok (.value (.pointer (some ⟨w.heap.size,0,none⟩))) (w.alloc (.cells #[v] t)):=by
    have hn:(newVar t v).run P w = .ok ⟨w.heap.size,0,none⟩ (w.alloc (.cells v.cells t)):=rfl
    rw [hcells] at hn
    simp only [execOp,ho,hv,Instr.box,Sem.run_bind,hn,Result.andThen_ok]
    rfl
  unfold Oper.wp
  rw [hrun]
  refine hK (z1r ρ k (some (w.heap.size,1))) _ _ (h.alloc hσ hc hfr hhp 1 _ _ fun keep _=>?_) (.ptr _ _ _ fun cs' _=>⟨w.heap.size,1,z0f,rfl⟩)
  refine .box _ t #[v] (fun _=>v) (z3b w _) (Nat.le_refl _) (fun j x hj=>?_) fun j x hj=>?_
  ·have h0:j=0:=by have:=(List.getElem?_eq_some_iff.1 hj).1;simp at this;exact this
   subst h0;rfl
  have h0:j=0:=by have:=(List.getElem?_eq_some_iff.1 hj).1;simp at this;exact this
  subst h0
  simp only [List.getElem?_cons_zero,Option.some.injEq] at hj
  subst hj
  exact keep _ _ hr hcs
theorem y6f {l r:Hp} {k:Nat}:look (l++r) k=if k∈l.map (·.1) then look l k else look r k:=by
  induction l with
  | nil=>simp
  | cons a l ih =>
    obtain ⟨j,q⟩:=a
    simp only [List.cons_append,look,ih]
    by_cases e:j=k
    ·subst e;simp
    have:(k∈List.map (fun (x:Nat × Option HO)=>x.1) ((j,q)::l))↔k∈List.map (fun (x:Nat × Option HO)=>x.1) l:=by simp [Ne.symm e]
    simp only [z0c e,cond_false,this]
theorem y2k {l:Hp} {k:Nat} (h:k∉l.map (·.1)):look l k=none:=by
  induction l with
  | nil=>rfl
  | cons a l ih =>
    obtain ⟨j,q⟩:=a
    simp only [List.map_cons,List.mem_cons,not_or] at h
    simp only [look,z0c (Ne.symm h.1),cond_false]
    exact ih h.2
theorem z26 {l r:List (Nat × HO)} (h:l.map (·.1)=r.map (·.1)):look (up l++up r)=look (up l):=by
  have hu:∀ l:List (Nat × HO),(up l).map (·.1)=l.map (·.1):=fun l=>by simp [up]
  funext k
  rw [y6f]
  split
  ·rfl
  rename_i hk
  rw [y2k (by rw [hu,<- h,<- hu];exact hk),y2k hk]
theorem z44 {l r:List (Nat × HO)} (h:l.map (·.1)=r.map (·.1)) (k:Nat) (o:HO) (hk:look (up l) k=some o):look (up l++up r) k=some o:=by
  rw [z26 h];exact hk
theorem zl3 {t e:TypeId} {x y:Operand} {k off n s i:Nat} {m:Int} {cs:List IV} {kk:IntKind} (ho:o.op = .indexAddr t x y) (hx:fr.ev x=some (.ptr k off)) (hy:fr.ev y=some (.pv (.val (.int kk m)))) (hk:look hp k=some (.box cs))
    (hu:P.underlying t=some (.array n e)) (hs:(P.info? e).map (·.size)=some s) (hm:m=i) (hi:i<n):OkV P c R1 o fr (look hp) (.ptr k (off+i*s)):=by
  subst hm
  intro ρ w a h
  obtain ⟨b,cc,e',r,u,hv,hρ,h3,h4,h5,h6⟩:=h.box hx hk
  refine ⟨.pointer (some ⟨b,off+i*s,none⟩),fun w2 _=>?_,.ptr _ _ _ fun cs' _=>⟨b,cc,hρ,rfl⟩⟩
  have hs':=z1q hs w2
  have h0:(0:Int)<=i/\(i:Int)<n:=by omega
  simp [execOp,ho,hv,z0w h hy,Instr.indexAt,Sem.run_bind,asIntOf,run_underlying hu,Instr.sureAddr,h0,hi,hs',Addr.add]
theorem zl1 {t e:TypeId} {n s:Nat} {parts:Array (Nat × Operand)} {xs:List (Nat × IV)} {z:Value} {out:List IV} {σ:Heap'} (ho:o.op = .build t parts) (hx:z3w fr parts.toList=some xs)
    (hz:((P.info? t).bind (·.zero))=some z) (hu:P.underlying t=some (.array n e)) (hs:(P.info? e).map (·.size)=some s) (hf:z55 (fun i=>some (i*s,s)) (z5j z) xs=some out) (hfirm:z42 σ xs):OkV P c R1 o fr σ (.agg out):=by
  intro ρ w a h
  have hzv:∀ w,(zeroValue t).run P w = .ok z w:=fun w=>by
    cases hq:P.info? t with
    | none=>simp [hq] at hz
    | some i=>simp [hq] at hz;simp [zeroValue,typeInfo,hq,hz]
  obtain ⟨hl,hv⟩:=z66 h hx
  obtain ⟨vs,h1,h2⟩:=zd2 (y44 c.F ρ σ w z) hl (fun j i x hj=>by
    obtain ⟨v,h3,h4⟩:=hv j i x hj
    exact ⟨v,h3,h4,hfirm _ (List.mem_of_getElem? hj)⟩) hf
  have hparts:(parts.map fun (i,x)=>(i,a.eval x)).toList=parts.toList.map fun p=>(p.1,a.eval p.2):=by simp
  refine ⟨.agg vs,fun w2 _=>?_,.agg _ _ (fun j=>vs.getD j undef) h2.1 (fun j x hj=>?_) fun j x hj=>?_⟩
  ·have hso:=z1q hs w2
   simp only [execOp,ho,Instr.build,Sem.run_bind,hzv,run_underlying hu,hso,Result.andThen_ok,hparts,h1]
   rfl
  ·obtain ⟨v,h3,_⟩:=h2.2 j x hj
   simp [h3,Array.getD_eq_getD_getElem?]
  obtain ⟨v,h3,h4⟩:=h2.2 j x hj
  simp only [Array.getD_eq_getD_getElem?,h3,Option.getD_some]
  exact h4
end
def idxP {α:Type} (p:α -> Bool):List α -> Int->Int
  | [],_=>-1
  | x::r,i=>if p x then i else idxP p r (i+1)
theorem zd7 {α:Type} (p:α -> Bool):∀ (l:List α) (i:Int),0<=i->decide (idxP p l i ≥ 0)=l.any p
  | [],_,_=>rfl
  | x::r,i,hi=>by
    unfold idxP
    cases hx:p x with
    | true=>simp [hx,hi]
    | false=>simp [hx,zd7 p r (i+1) oM0]
def eqGo {S:Type} (p:S->Int->Int->Bool × S):S->List Int->List Int->Bool × S
  | s,x::a,y::b=>if (p s x y).1 then eqGo p (p s x y).2 a b else (false,(p s x y).2)
  | s,_,_=>(true,s)
def eqf {S:Type} (p:S->Int->Int->Bool × S) (s:S) (a b:List Int):Bool × S:=if (a.length:Int)=b.length then eqGo p s a b else (false,s)
theorem zl6:∀ l:List Nd,z0h l=l.any z1w
  | []=>rfl
  | x::r=>by simp [z0h,zl6 r]
theorem z5s:∀ l:List (List Nd),z2d l=l.any z0h
  | []=>rfl
  | x::r=>by simp [z2d,z5s r]
def zo4 (l:List Nd):Bool:=match l.getLast? with
  | some x=>x.kind==12
  | none=>false
theorem z3o (l:List Nd):(z1b l != 12) = !zo4 l:=by
  unfold z1b zo4
  cases l.getLast? with
  | none=>rfl
  | some x =>
    simp only [z0p]
    by_cases h:x.kind=12
    ·simp [h]
    have hb:(x.kind==12)=false:=by simpa using h
    by_cases h2:(decide (x.kind ≥ 12)&&decide (x.kind<=15))=true
    ·simp only [h2,if_true,bne,hb]
    simp [h2,h]
theorem zy5 (name:ByteArray):∀ (l:List Fl) (i:Int),idxP (fun f:Fl=>f.name.toList==name.toList) l i=z03 name l i
  | [],_=>rfl
  | f::r,i=>by
    unfold idxP z03 eqS
    rw [zy5 name r]
theorem zs9 (name:ByteArray):∀ (l:List Ar) (i:Int),0<=i->decide (z0g name l i ≥ 0)=l.any (fun a:Ar=>a.name.toList==name.toList)
  | [],_,_=>rfl
  | f::r,i,hi=>by
    have ih:=zs9 name r (i+1) oM0
    rw [List.any_cons,<- ih]
    rw [show z0g name (f::r) i=if (f.name.toList==name.toList)=true then i else z0g name r (i+1) from rfl]
    by_cases h:(f.name.toList==name.toList)=true
    ·rw [if_pos h,h];simp [hi]
    rw [if_neg h,(by simpa using h:(f.name.toList==name.toList)=false)];simp
def isTy (t:Int):Bool:=t==1||t==2
def z09 (op:Int):Int × Int :=
  if op==22 then (2,2) else if op==16||op==17 then (0,2) else if decide (op ≥ 12)&&decide (op<=15) then (1,2) else (1,1)
def wSigns:List ByteArray:=[⟨#[]⟩,⟨#[43]⟩,⟨#[45]⟩,⟨#[42]⟩,⟨#[47]⟩,⟨#[37]⟩,⟨#[38]⟩,⟨#[124]⟩,⟨#[94]⟩,⟨#[60,60]⟩,⟨#[62,62]⟩,⟨#[62,62,62]⟩,⟨#[60]⟩,⟨#[60,61]⟩,⟨#[62]⟩,⟨#[62,61]⟩,⟨#[61,61]⟩,⟨#[33,61]⟩,⟨#[38,38]⟩,⟨#[124,124]⟩,⟨#[45]⟩,⟨#[126]⟩,⟨#[33]⟩,⟨#[105,56]⟩,⟨#[105,49,54]⟩,⟨#[105,51,50]⟩,⟨#[117,56]⟩,⟨#[117,49,54]⟩,⟨#[117,51,50]⟩]
def wSign (op:Int):ByteArray:=if op<0||op ≥ 29 then ⟨#[]⟩ else wSigns.getD op.toNat ⟨#[]⟩
def levelTab:List Int:=[0,9,9,10,10,10,5,3,4,8,8,8,7,7,7,7,6,6,2,1,0,0,0,0,0,0,0,0,0]
def za5 (op:Int):Int:=if op<0||op ≥ 29 then 0 else levelTab.getD op.toNat 0
theorem y9c {op:Int} (h0:0<=op) (h1:op<29):op=0∨op=1∨op=2∨op=3∨op=4∨op=5∨op=6∨op=7∨op=8∨op=9∨op=10∨op=11∨op=12∨op=13∨op=14∨op=15∨op=16∨op=17∨op=18∨op=19∨op=20∨op=21∨op=22∨op=23∨op=24∨op=25∨op=26∨op=27∨op=28:=by omega
def ckS (u:Un) (f:Fl) (it:TypeId) (st:List Int):List (Nat × HO):=[(3,.box (y7b u f (st.map eInt).length)),(4,.row ⟨it,1⟩ (st.map eInt))]
def z4h (tys:List Int) (v t:Int):Bool:=decide (0<=v)&&decide (v<tys.length)&&(t==0||tys.getD v.toNat 0==t)
def zk0 (tys:List Int) (st:List Int) (v t:Int):Bool × List Int:=(z4h tys v t&&st.getD v.toNat 0==1,st)
def z3n (tys:List Int) (st:List Int) (v t:Int):Bool × List Int:=if z4h tys v t&&st.getD v.toNat 0==0 then (true,st.set v.toNat 1) else (false,st)
def z10 (tys st l want:List Int):Bool:=(eqf (zk0 tys) st l want).1
def z1h (tys st l want:List Int):Bool × List Int:=eqf (z3n tys) st l want
def z3d (st l:List Int):List Int:=l.foldl (fun s v=>s.set v.toNat 2) st
theorem y3l (tys:List Int):∀ (a b st:List Int),(eqGo (zk0 tys) st a b).2=st
  | [],_,st=>by simp [eqGo]
  | _::_,[],st=>by simp [eqGo]
  | x::a,y::b,st=>by
    simp only [eqGo]
    split
    ·exact y3l tys a b st
    rfl
theorem y8i (tys st a b:List Int):(eqf (zk0 tys) st a b).2=st:=by
  unfold eqf
  split
  ·exact y3l tys a b st
  rfl
theorem z81 (tys st:List Int) (v t:Int):(z3n tys st v t).2.length=st.length:=by
  unfold z3n;split<;>simp
theorem za4 (tys:List Int):∀ (a b st:List Int),(eqGo (z3n tys) st a b).2.length=st.length
  | [],_,st=>by simp [eqGo]
  | _::_,[],st=>by simp [eqGo]
  | x::a,y::b,st=>by
    simp only [eqGo]
    split
    ·rw [za4 tys a b,z81]
    exact z81 ..
theorem z33 (tys st a b:List Int):(z1h tys st a b).2.length=st.length:=by
  unfold z1h eqf
  split
  ·exact za4 ..
  rfl
theorem z4s:∀ (l st:List Int),(z3d st l).length=st.length
  | [],st=>rfl
  | v::r,st=>by
    have:=z4s r (st.set v.toNat 2)
    simpa [z3d] using this
theorem y02 (tys:List Int):∀ (a b st:List Int),a.length=b.length->(eqGo (z3n tys) st a b).1=true->∀ v∈a,0<=v/\v<tys.length
  | [],_,st,_,_,v,hv=>by simp at hv
  | _::_,[],_,hl,_,_,_=>by simp at hl
  | x::a,y::b,st,hl,h,v,hv=>by
    simp only [eqGo] at h
    split at h
    ·rename_i h1
     rcases List.mem_cons.1 hv with rfl | hv
     ·unfold z3n at h1
      split at h1
      ·rename_i h2
       simp only [z4h,Bool.and_eq_true,decide_eq_true_eq] at h2
       exact ⟨h2.1.1.1,h2.1.1.2⟩
      cases h1
     exact y02 tys a b _ (by simpa using hl) h v hv
    cases h
theorem zu6 {tys st a b:List Int} (h:(z1h tys st a b).1=true):∀ v∈a,0<=v/\v<tys.length:=by
  unfold z1h eqf at h
  split at h
  ·exact y02 tys a b st oM0 h
  cases h
def ckSp (u:Un) (f:Fl) (it:TypeId) (q:Nat) (st:List Int):List (Nat × HO):=(q,.box [.ptr 3 0])::ckS u f it st
theorem y9g {u:Un} {f:Fl} {it:TypeId} {st:List Int} {i:Nat} {z:Int}:∀ k,look ((4,some (.row ⟨it,1⟩ ((st.map eInt).set i [vInt z])))::up (ckS u f it st)) k=look (up (ckS u f it (st.set i z))) k:=by
  intro k
  simp only [ckS,up,List.map_cons,List.map_nil,look,List.length_map,List.length_set]
  by_cases h4:4=k
  ·subst h4
   simp [List.map_set,eInt,show Nat.beq 3 4=false from rfl]
  by_cases h3:3=k
  ·subst h3;simp [show Nat.beq 4 3=false from rfl]
  simp [z0c h3,z0c h4]
theorem ckS_lend {u:Un} {f:Fl} {it:TypeId} {st st':List Int} (h:st'.length=st.length):∀ k ob,look (up (ckS u f it st')) k=some ob->zs5 ob=true∨(k=3/\look (up (ckS u f it st)) k=some ob):=by
  intro k ob hk
  have hm:=z15 hk
  simp only [ckS,List.mem_cons,List.not_mem_nil,or_false,Prod.mk.injEq] at hm
  rcases hm with ⟨rfl,rfl⟩ | ⟨rfl,rfl⟩
  ·exact .inr ⟨rfl,by simp [ckS,up,look,h]⟩
  refine .inl ?_
  simp [zs5,eInt,y6p]
theorem set3 {u:Un} {f:Fl} {st:List Int} {i:Nat} {z:Int} {x:Option HO} (h:x=some (.box (y7b u f (st.map eInt).length))):x=some (.box (y7b u f ((st.set i z).map eInt).length)):=by
  rw [h,show ((st.set i z).map eInt).length=(st.map eInt).length by simp]
theorem set4 {it:TypeId} {st:List Int} {i:Nat} {z:Int} {x:Option HO} (h:x=some (.row ⟨it,1⟩ ((st.map eInt).set i [vInt z]))):x=some (.row ⟨it,1⟩ ((st.set i z).map eInt)):=by
  rw [h,List.map_set];rfl
def andP {S:Type} (b:Bool) (s:S) (r:Bool × S):Bool × S:=if b then r else (false,s)
def andQ {S:Type} (r:Bool × S) (k:S->Bool × S):Bool × S:=if r.1 then k r.2 else (false,r.2)
theorem y8h {tys st a b:List Int} (h:z10 tys st a b=true):a.length=b.length:=by
  unfold z10 eqf at h
  split at h
  · omega
  · cases h
theorem y8j {tys st l:List Int} {t:Int} (h:z10 tys st l [t,t]=true):∃ a b,l=[a,b]/\a=(a.toNat:Int)/\a.toNat<tys.length/\b=(b.toNat:Int)/\b.toNat<tys.length:=by
  have hl:=y8h h
  match l,hl with
  | [a,b],_ =>
    unfold z10 eqf at h
    simp only [List.length_cons,List.length_nil,if_true,eqGo] at h
    split at h
    · rename_i h1
      split at h
      · rename_i h2
        simp only [zk0,z4h,Bool.and_eq_true,decide_eq_true_eq] at h1 h2
        exact ⟨a,b,rfl,by omega,by omega,by omega,by omega⟩
      · cases h
    · cases h
def z3t (f:Fl) (st:List Int) (x:Nd):Bool × List Int :=
  if x.kind==3 then andP (z2c x.op&&z10 f.types st x.args [(z09 x.op).1]) st (z1h f.types st x.outs [(z09 x.op).2])
  else andP (decide (za5 x.op > 0)&&decide (x.op<=17)&&z10 f.types st x.args [(z09 x.op).1,(z09 x.op).1]&&f.types.getD (x.args.getD 0 0).toNat 0==f.types.getD (x.args.getD 1 0).toNat 0) st (z1h f.types st x.outs [(z09 x.op).2])
def z8e (f:Fl) (st:List Int) (x:Nd) (w:Wh):Bool :=
  if x.kind==12 then (x.outs.length:Int)==0&&w.If&&z10 f.types st x.args w.Yield
  else if x.kind==13 then (x.outs.length:Int)==0&&w.Loop&&z10 f.types st x.args w.Next
  else if x.kind==14 then (x.outs.length:Int)==0&&w.Loop&&z10 f.types st x.args w.Left
  else (x.outs.length:Int)==0&&z10 f.types st x.args [f.ty]
def zm2 (u:Un) (f:Fl) (st:List Int) (x:Nd):Bool × List Int :=
  if z03 x.name u.flows 0<0 then (false,st) else
    match u.flows[(z03 x.name u.flows 0).toNat]? with
    | some g=>andP (z10 f.types st x.args (g.types.take g.params.toNat)) st (z1h f.types st x.outs [g.ty])
    | none=>(false,st)
def z27 (u:Un) (f:Fl) (st:List Int) (x:Nd):Bool × List Int :=
  if x.kind==1 then andP (z10 f.types st x.args []) st (z1h f.types st x.outs [1])
  else if x.kind==2 then andP ((x.n==0||x.n==1)&&z10 f.types st x.args []) st (z1h f.types st x.outs [2])
  else if x.kind==3||x.kind==4 then z3t f st x
  else if x.kind==5 then andP (decide (z0g x.name u.arrays 0 ≥ 0)&&z10 f.types st x.args [1]) st (z1h f.types st x.outs [1])
  else if x.kind==6 then andP (decide (z0g x.name u.arrays 0 ≥ 0)&&z10 f.types st x.args [1,1]) st (z1h f.types st x.outs [])
  else if x.kind==8 then andP (z10 f.types st x.args []) st (z1h f.types st x.outs [1])
  else if x.kind==9 then andP (z10 f.types st x.args [1]) st (z1h f.types st x.outs [])
  else if x.kind==7 then zm2 u f st x
  else (false,st)
theorem z7i {b:Bool} {st:List Int} {r:Bool × List Int} (h:r.2.length=st.length):(andP b st r).2.length=st.length:=by
  unfold andP;split
  · exact h
  · rfl
theorem y3k (f:Fl) (st:List Int) (x:Nd):(z3t f st x).2.length=st.length:=by
  unfold z3t;split<;>exact z7i (z33 ..)
theorem y1b (u:Un) (f:Fl) (st:List Int) (x:Nd):(zm2 u f st x).2.length=st.length:=by
  unfold zm2
  split
  · rfl
  · split
    · exact z7i (z33 ..)
    · rfl
theorem zu7 (u:Un) (f:Fl) (st:List Int) (x:Nd):(z27 u f st x).2.length=st.length:=by
  unfold z27
  repeat' split
  all_goals first
    | exact z7i (z33 ..)
    | exact y3k ..
    | exact y1b ..
    | rfl
def z46 (f:Fl) (x:Nd) (st:List Int):Bool × List Int:=andP ((x.outs.length:Int)==0 || !z04 x) st (z1h f.types st x.outs (List.replicate x.outs.length 0))
def z6l (st:List Int) (l:List Nd):List Int:=l.foldl (fun s x=>z3d s x.outs) st
def y3i (l:List Nd) (s:List Int):Bool × List Int:=(decide ((l.length:Int) > 0),z6l s l)
mutual
def z3m (u:Un) (f:Fl) (deep:Int) (w:Wh) (st:List Int):Nd->Bool × List Int
  | .mk kind op n name args outs params kids =>
    if !z0z (.mk kind op n name args outs params kids) then (false,st)
    else if kind==10 then
      match kids with
      | a::b::_ =>
        if z10 f.types st args [2] then
          andQ (andQ (shGo u f (deep+1) ⟨true,w.Loop,r8of f.types outs,w.Next,w.Left⟩ st a) (y3i a)) fun s1 =>
          andQ (andQ (shGo u f (deep+1) ⟨true,w.Loop,r8of f.types outs,w.Next,w.Left⟩ s1 b) (y3i b)) fun s2 =>
          z46 f (.mk kind op n name args outs params kids) s2
        else (false,st)
      | _=>(false,st)
    else if kind==11 then
      if z10 f.types st args (r8of f.types params) then
        andQ (z1h f.types st params (List.replicate params.length 0)) fun s1 =>
        match kids with
        | a::_ =>
          andQ (andQ (shGo u f (deep+1) ⟨false,true,[],r8of f.types params,r8of f.types outs⟩ s1 a) (y3i a)) fun s2 =>
          z46 f (.mk kind op n name args outs params kids) (z3d s2 params)
        | _=>(false,s1)
      else (false,st)
    else if z0p kind then (z8e f st (.mk kind op n name args outs params kids) w,st)
    else z27 u f st (.mk kind op n name args outs params kids)
def shGo (u:Un) (f:Fl) (deep:Int) (w:Wh) (st:List Int):List Nd->Bool × List Int
  | []=>(true,st)
  | x::r =>
    if deep > 100 then (false,st)
    else andQ (z3m u f deep w st x) fun s1 =>
      if z04 x != r.isEmpty then (false,s1)
      else shGo u f deep w s1 r
end
def z1g (u:Un) (f:Fl) (deep:Int) (w:Wh) (st:List Int) (l:List Nd):Bool × List Int:=andQ (shGo u f deep w st l) (y3i l)
theorem z2y {r:Bool × List Int} {k:List Int->Bool × List Int} {n:Nat} (h1:r.2.length=n) (h2:∀ s,s.length=n->(k s).2.length=n):(andQ r k).2.length=n:=by
  unfold andQ;split
  ·exact h2 _ h1
  exact h1
theorem z8b:∀ (l:List Nd) (st:List Int),(z6l st l).length=st.length
  | [],_=>rfl
  | x::r,st=>by
    have:=z8b r (z3d st x.outs)
    rw [z4s] at this
    simpa [z6l] using this
theorem zf9 {f:Fl} {x:Nd} {st:List Int} {n:Nat} (h:st.length=n):(z46 f x st).2.length=n:=(z7i (z33 ..)).trans h
theorem z6w {l:List Nd} {s:List Int} {n:Nat} (h:s.length=n):(y3i l s).2.length=n:=(z8b l s).trans h
mutual
theorem zf8 (u:Un) (f:Fl):∀ (x:Nd) (deep:Int) (w:Wh) (st:List Int),(z3m u f deep w st x).2.length=st.length
  | .mk kind op n name args outs params kids,deep,w,st=>by
    unfold z3m
    split
    ·rfl
    split
    ·match kids with
     | []=>rfl
     | [_]=>rfl
     | a::b::_ =>
       simp only
       split
       ·exact z2y (z2y (z6k u f a ..) fun s hs=>z6w hs) fun s hs=>z2y (z2y ((z6k u f b ..).trans hs) fun s hs=>z6w hs) fun s hs=>zf9 hs
       rfl
    split
    ·split
     ·refine z2y (z33 ..) fun s hs=>?_
      match kids with
      | []=>exact hs
      | a::_=>exact z2y (z2y ((z6k u f a ..).trans hs) fun s hs=>z6w hs) fun s hs=>zf9 ((z4s ..).trans hs)
     rfl
    split
    ·rfl
    exact zu7 ..
theorem z6k (u:Un) (f:Fl):∀ (l:List Nd) (deep:Int) (w:Wh) (st:List Int),(shGo u f deep w st l).2.length=st.length
  | [],_,_,_=>by simp [shGo]
  | x::r,deep,w,st=>by
    unfold shGo
    split
    ·rfl
    refine z2y (zf8 u f x ..) fun s hs=>?_
    split
    ·exact hs
    exact (z6k u f r ..).trans hs
end
theorem z7z (u:Un) (f:Fl) (deep:Int) (w:Wh) (st:List Int) (l:List Nd):(z1g u f deep w st l).2.length=st.length:=z2y (z6k ..) fun _ h=>z6w h
theorem zc5 (u:Un) (f:Fl) (deep:Int) (w:Wh) (st:List Int) {x:Nd} (h:z0z x=false):z3m u f deep w st x=(false,st):=by
  cases x;unfold z3m;simp [h]
theorem zu5 (u:Un) (f:Fl) (deep:Int) (w:Wh) (st:List Int) {x:Nd} {a b:List Nd} (h:z0z x=true) (hk:x.kind=10) (hx:x.kids=[a,b]) :
    z3m u f deep w st x=if z10 f.types st x.args [2] then andQ (z1g u f (deep+1) ⟨true,w.Loop,r8of f.types x.outs,w.Next,w.Left⟩ st a) (fun s1=>andQ (z1g u f (deep+1) ⟨true,w.Loop,r8of f.types x.outs,w.Next,w.Left⟩ s1 b) fun s2=>z46 f x s2) else (false,st):=by
  cases x
  simp only [Nd.kind,Nd.kids] at hk hx
  subst hk hx
  unfold z3m
  simp only [h,Bool.not_true,Bool.false_eq_true,if_false,Nd.args,Nd.outs]
  rfl
theorem zc6 (u:Un) (f:Fl) (deep:Int) (w:Wh) (st:List Int) {x:Nd} {a:List Nd} (h:z0z x=true) (hk:x.kind=11) (hx:x.kids=[a]) :
    z3m u f deep w st x=if z10 f.types st x.args (r8of f.types x.params) then andQ (z1h f.types st x.params (List.replicate x.params.length 0)) (fun s1=>andQ (z1g u f (deep+1) ⟨false,true,[],r8of f.types x.params,r8of f.types x.outs⟩ s1 a) fun s2=>z46 f x (z3d s2 x.params)) else (false,st):=by
  cases x
  simp only [Nd.kind,Nd.kids] at hk hx
  subst hk hx
  unfold z3m
  simp only [h,Bool.not_true,Bool.false_eq_true,if_false,Nd.args,Nd.outs,Nd.params]
  rfl
theorem zj9 (u:Un) (f:Fl) (deep:Int) (w:Wh) (st:List Int) {x:Nd} (h:z0z x=true) (h1:(x.kind==10)=false) (h2:(x.kind==11)=false) (h3:z0p x.kind=true):z3m u f deep w st x=(z8e f st x w,st):=by
  cases x
  simp only [Nd.kind] at h1 h2 h3
  unfold z3m
  simp [h,h1,h2,h3]
theorem z80 (u:Un) (f:Fl) (deep:Int) (w:Wh) (st:List Int) {x:Nd} (h:z0z x=true) (h1:(x.kind==10)=false) (h2:(x.kind==11)=false) (h3:z0p x.kind=false):z3m u f deep w st x=z27 u f st x:=by
  cases x
  simp only [Nd.kind] at h1 h2 h3
  unfold z3m
  simp [h,h1,h2,h3]
theorem y1u {S:Type} {b:Bool} {s:S} {r:Bool × S} (h:(andP b s r).1=true):b=true/\r.1=true:=by
  unfold andP at h;split at h
  ·rename_i hb;exact ⟨hb,h⟩
  cases h
theorem z8f {S:Type} {r:Bool × S} {k:S->Bool × S} (h:(andQ r k).1=true):r.1=true/\(k r.2).1=true:=by
  unfold andQ at h;split at h
  ·rename_i hb;exact ⟨hb,h⟩
  cases h
theorem zu8 {f:Fl} {x:Nd} {st:List Int} (h:(z46 f x st).1=true):∀ v∈x.outs,0<=v/\v<f.types.length:=zu6 (y1u h).2
theorem y1c {u:Un} {f:Fl} {st:List Int} {x:Nd} (h:(z27 u f st x).1=true):∀ v∈x.outs,0<=v/\v<f.types.length:=by
  unfold z27 z3t zm2 at h
  repeat' split at h
  all_goals first
    | exact zu6 (y1u h).2
    | cases h
theorem y8g {f:Fl} {st:List Int} {x:Nd} {w:Wh} (h:z8e f st x w=true):x.outs=[]:=by
  unfold z8e at h
  have key:∀ b:Bool,((x.outs.length:Int)==0&&b)=true->x.outs=[]:=fun b hb=>by
    simp only [Bool.and_eq_true,beq_iff_eq] at hb
    exact List.eq_nil_of_length_eq_zero oM0
  repeat' split at h
  all_goals first
    | exact key _ h
    | (rw [Bool.and_assoc] at h;exact key _ h)
theorem y5m {u:Un} {f:Fl} {deep:Int} {w:Wh} {st:List Int} {x:Nd} (h:(z3m u f deep w st x).1=true):∀ v∈x.outs,0<=v/\v<f.types.length:=by
  cases hb:z0z x with
  | false=>rw [zc5 _ _ _ _ _ hb] at h;cases h
  | true =>
    by_cases h10:x.kind=10
    ·obtain ⟨a,b,hk⟩:=z36 hb h10
     rw [zu5 _ _ _ _ _ hb h10 hk] at h
     split at h
     ·exact zu8 (z8f (z8f h).2).2
     cases h
    by_cases h11:x.kind=11
    ·obtain ⟨a,hk⟩:=z1t hb h11
     rw [zc6 _ _ _ _ _ hb h11 hk] at h
     split at h
     ·exact zu8 (z8f (z8f h).2).2
     cases h
    have e10:(x.kind==10)=false:=by simpa using h10
    have e11:(x.kind==11)=false:=by simpa using h11
    cases he:z0p x.kind with
    | true=>rw [zj9 _ _ _ _ _ hb e10 e11 he] at h;intro v hv;rw [y8g h] at hv;simp at hv
    | false=>rw [z80 _ _ _ _ _ hb e10 e11 he] at h;exact y1c h
theorem y3j {u:Un} {f:Fl} {deep:Int} {w:Wh}:∀ {l:List Nd} {st:List Int},(shGo u f deep w st l).1=true->∀ x∈l,∀ v∈x.outs,0<=v/\v<f.types.length
  | [],_,_,x,hx=>by simp at hx
  | y::r,st,h,x,hx=>by
    unfold shGo at h
    split at h
    ·cases h
    obtain ⟨h1,h2⟩:=z8f h
    split at h2
    ·cases h2
    rcases List.mem_cons.1 hx with rfl | hx
    ·exact y5m h1
    exact y3j h2 x hx
theorem y4o:∀ {l:List Nd} {x:Nd},x∈l->ndW x<=lsW l
  | y::r,x,h=>by
    rcases List.mem_cons.1 h with rfl | h
    ·simp only [lsW];omega
    have:=y4o h;simp only [lsW];omega
theorem z72:∀ {ks:List (List Nd)} {q:List Nd},q∈ks->lsW q<=kdW ks
  | y::r,x,h=>by
    rcases List.mem_cons.1 h with rfl | h
    ·simp only [kdW];omega
    have:=z72 h;simp only [kdW];omega
def z96 (k n:Nat):List Int:=List.replicate k 1++List.replicate (n - k) 0
def za3 (u:Un) (f:Fl):Bool:=!(decide (f.params > 8)||decide ((f.types.length:Int) > 20000)||f.types.any (fun t=>!isTy t))&&(z1g u f 1 z1l (z96 f.params.toNat f.types.length) f.body).1
theorem z97 {k n:Nat} (h:k<=n):(z96 k n).length=n:=by simp [z96];omega
theorem yg9 {k n:Nat} (h:k<n):(z96 k n).set k 1=z96 (k+1) n:=by
  unfold z96
  rw [List.set_append_right _ _ sI0,List.length_replicate,Nat.sub_self]
  have:n - k=(n - (k+1))+1:=by omega
  rw [this,List.replicate_succ,List.set_cons_zero,List.replicate_succ',List.append_assoc]
  rfl
def bump (s:ByteArray) (es:List (Value × PV)):List (Value × PV) :=
  mput (.string s) (match z3a (.string s) es with | some (.val (.int .i64 n))=>.val (.int .i64 (IntKind.i64.wrap (n+1))) | _=>.val (.int .i64 1)) es
def zm6 (a:Ar):Bool:=z3c a.name && !decide (a.size<1) && !decide (a.size > 1000)
def zf6 (f:Fl):Bool:=z3c f.name&&isTy f.ty && !decide (f.params<0) && !decide (f.params > f.types.length)
def zp6 (es:List (Value × PV)) (l:List Ar):List (Value × PV):=l.foldl (fun e a=>bump a.name e) es
def zx3 (es:List (Value × PV)) (l:List Fl):List (Value × PV):=l.foldl (fun e a=>bump a.name e) es
def z6x (u:Un):Bool:=u.arrays.all zm6&&u.flows.all zf6&&((zx3 (zp6 [] u.arrays) u.flows).length:Int)==u.arrays.length+u.flows.length&&z6u u
def z82 (u:Un):List Fl->Int->Int × Int
  | [],_=>(0,0)
  | f::r,i=>if za3 u f then z82 u r (i+1) else (80,i)
def z4r (u:Un):Int × Int:=if z6x u then z82 u u.flows 0 else (1,0)
theorem zf7 {u:Un} (h:z6x u=true):∀ g∈u.flows,0<=g.params/\g.params<=g.types.length:=by
  simp only [z6x,Bool.and_eq_true,List.all_eq_true] at h
  intro g hg
  have:=h.1.1.2 g hg
  simp only [zf6,Bool.and_eq_true,Bool.not_eq_true',decide_eq_false_iff_not] at this
  omega
section
variable {P:Program} {c:Cx} {R1:Nat->Prop} {o:Oper} {fr:Fr} {hp:Hp}
def ResC (P:Program) (fr:Fr) (σ:Heap') (a:Tmp) (t:TypeId) (x:IV):Prop:=∀ (c:Cx) (o:Oper),o.op = .load t (.tmp a)->OkV P c (fun _=>True) o fr σ x
theorem y0z {ρ:Loc} {σ:Heap'} {w:World} {a:Act} {q:Tmp} {t:TypeId} {x:IV} (h:All c ρ σ w fr a) (hr:ResC P fr σ q t x):∃ v ad,(asAddr ((a.tmps[q]?).getD undef)).run P w = .ok ad w/\(loadVar t ad).run P w = .ok v w/\RepI c.F ρ σ w x v:=by
  obtain ⟨v,h1,h2⟩:=hr c { (default:Oper) with op:=.load t (.tmp q) } rfl ρ w a h
  have h3:=h1 w (SameFor.refl _ _ _ _)
  simp only [execOp,Instr.loadAt,Sem.run_bind] at h3
  have hev:a.eval (.tmp q)=(a.tmps[q]?).getD undef:=by simp [Act.eval]
  rw [hev] at h3
  generalize (a.tmps[q]?).getD undef=p at h3 ⊢
  cases p with
  | pointer ad =>
    cases ad with
    | none=>simp [Instr.sureAddr] at h3
    | some ad =>
      refine ⟨v,ad,rfl,?_,h2⟩
      simp only [Instr.sureAddr,Sem.run_bind,Sem.run_pure,Result.andThen_ok] at h3
      generalize (loadVar t ad).run P w=res at h3 ⊢
      cases res with
      | ok v' w'=>simpa [Result.andThen] using h3
      | _=>simp [Result.andThen] at h3
  | _=>simp [Instr.sureAddr] at h3
theorem zw5 {α:Type} {k:Nat} {s:RT} {f:α -> List PV} {l:List α} {x:α} {q:Option HO} {pre:List (Nat × HO)} :
    look ((k,some (.row s (l.map f++[f x])))::(up pre++((k,q)::up pre)))=look ((k,some (.row s ((l++[x]).map f)))::up pre):=by
  funext j
  simp only [look,List.map_append,List.map_cons,List.map_nil]
  by_cases e:k=j
  ·subst e;simp
  simp only [z0c e,cond_false]
  rw [y6f]
  split
  ·rfl
  simp only [look,z0c e,cond_false]
theorem zi7 {t:TypeId} {x:Operand} {k:Nat} {ps:List PV} (ho:o.op = .box t x) (hx:fr.ev x=some (.pv (.agg ps))) (hσ:look hp k=none) (hc:c.σ k=none) (hfr:nmFr k fr=false) (hhp:nmHp k hp=false) :
    Ok P c o fr (look hp) (.ptr k 0) (look ((k,some (.box (ps.map .pv)))::hp)):=by
  intro ρ w a K Q h hK
  have hr:=h.ev hx
  generalize hv:a.eval x=v at hr
  cases hr with
  | pv _ _ hr =>
    cases hr with
    | agg _ vs u hl hvu hr =>
      have hrun:(execOp a.eval o).run P w = .ok (.value (.pointer (some ⟨w.heap.size,0,none⟩))) (w.alloc (.cells vs t)):=by
        have hn:(newVar t (.agg vs)).run P w = .ok ⟨w.heap.size,0,none⟩ (w.alloc (.cells vs t)):=rfl
        simp only [execOp,ho,hv,Instr.box,Sem.run_bind,hn,Result.andThen_ok]
        rfl
      unfold Oper.wp
      rw [hrun]
      refine hK (z1r ρ k (some (w.heap.size,1))) _ _ (h.alloc hσ hc hfr hhp 1 _ _ fun keep keepP=>?_) (.ptr _ _ _ fun cs' _=>⟨w.heap.size,1,z0f,rfl⟩)
      refine .box _ t vs u (z3b w _) (by simp [hl]) (fun j x hj=>?_) fun j x hj=>?_
      ·rw [List.getElem?_map] at hj
       obtain ⟨p,hp,rfl⟩:=Option.map_eq_some_iff.1 hj
       exact hvu j p hp
      rw [List.getElem?_map] at hj
      obtain ⟨p,hp,rfl⟩:=Option.map_eq_some_iff.1 hj
      exact .pv _ _ (keepP _ _ (hr j p hp))
theorem zf1 {t:TypeId} {x:Operand} {f:Nat} {ps:List PV} {p:PV} {fs:Array Field} {fd:Field} {d:TypeDesc} {σ:Heap'} (ho:o.op = .field t x f) (hx:fr.ev x=some (.pv (.agg ps)))
    (hu:P.underlying t=some (.struct fs)) (hf:fs[f]? = some fd) (hd:P.underlying fd.type=some d) (hrow:d.isRow=false) (hp:ps[fd.offset]? = some p):OkV P c R1 o fr σ (.pv p):=by
  intro ρ w a h
  have hr:=h.ev hx
  generalize hv:a.eval x=v at hr
  cases hr with
  | pv _ _ hr =>
    cases hr with
    | agg _ vs u hl hvu hr =>
      refine ⟨u fd.offset,fun w2 _=>?_,.pv _ _ (hr _ _ hp)⟩
      simp [execOp,ho,hv,Instr.field,Sem.run_bind,run_underlying hu,hf,part,asAgg,zf3 hd,hrow,hvu _ _ hp]
def retC (P:Program) (a:Tmp) (t:TypeId) (r:IV) (post:List (Nat × HO)):Exit->Fr->Heap'->Prop
  | .ret,fr,σ | .normal,fr,σ=>(∃ x,ResC P fr σ a t x/\∀ F ρ w v,RepI F ρ σ w x v->RepI F ρ σ w r v)/\∀ k o,look (up post) k=some o -> σ k=some o
  | _,_,_=>False
def retC2 (P:Program) (a:Tmp) (t:TypeId) (b:Tmp) (r:IV) (post:List (Nat × HO)):Exit->Fr->Heap'->Prop
  | .ret,fr,σ | .normal,fr,σ=>(∃ x y,ResC P fr σ a t x/\fr.get b=some y/\∀ F ρ w v,RepI F ρ σ w (.tup [x,y]) v->RepI F ρ σ w r v)/\∀ k o,look (up post) k=some o -> σ k=some o
  | _,_,_=>False
theorem SC.start {f:FuncId} {fn:Func} {code:Code} {args:List IV} {pre post:List (Nat × HO)} {R:Nat->Prop} {r:IV} {Q:Exit->Fr->Heap'->Prop} (hf:P.funcs[f]? = some fn) (hb:fn.body=some code) (hn:args.length<=fn.ntmps)
    (hQ:∀ (c:Cx) (e:Exit) (fr:Fr) (σ:Heap'),Q e fr σ -> (e = .ret∨e = .normal)/\(∀ k o,look (up post) k=some o -> σ k=some o)/\∀ ρ w a,All c ρ σ w fr a->∃ v,(results fn a.tmps).run P w = .ok v w/\RepI c.F ρ σ w r v)
    (h:∀ F ρ w,Tr P ⟨F,R,ρ,look (up pre),w,fn.ntmps⟩ code (frOf 0 args) (look (up pre)) Q):SC P f args pre R r post:=by
  intro F ρ w vs hrel hargs
  refine calls_of_wp hf hb ?_
  have ha:All ⟨F,R,ρ,look (up pre),w,fn.ntmps⟩ ρ (look (up pre)) w (frOf 0 args) { tmps:=vs.toArray++Array.replicate (fn.ntmps - vs.toArray.size) undef,defers:=[] }:=by
    refine ⟨hrel,fun t x hx=>?_,.refl _ _ _ _ _,rfl,?_⟩
    ·obtain ⟨v,hv,hr⟩:=hargs.2 t x (by simpa using (zn2 hx).2)
     refine ⟨v,?_,hr⟩
     rw [Array.getElem?_append_left (by simpa using (List.getElem?_eq_some_iff.1 hv).1)]
     simpa using hv
    have:=hargs.1
    simp;omega
  refine wp_mono (h F ρ w ρ w _ ha) fun e a' w' hq=>?_
  obtain ⟨ρ',σ',fr',ha',hq⟩:=hq
  obtain ⟨he,hσ,hres⟩:=hQ ⟨F,R,ρ,look (up pre),w,fn.ntmps⟩ e fr' σ' hq
  obtain ⟨v,hv,h1⟩:=hres ρ' w' a' ha'
  obtain ⟨ρ'',ha'',keep⟩:=ha'.restrict hσ
  rcases he with rfl | rfl
  ·exact ⟨ha'.df,v,hv,ρ'',v,rfl,keep _ _ h1,ha''.rel,ha''.tr⟩
  exact ⟨ha'.df,v,hv,ρ'',v,rfl,keep _ _ h1,ha''.rel,ha''.tr⟩
theorem SC.ofC {f:FuncId} {fn:Func} {code:Code} {args:List IV} {pre post:List (Nat × HO)} {R:Nat->Prop} {r:IV} {q:Tmp} {t:TypeId} (hf:P.funcs[f]? = some fn) (hb:fn.body=some code) (hn:args.length<=fn.ntmps) (hrs:fn.results = #[.cell q t])
    (h:∀ F ρ w,Tr P ⟨F,R,ρ,look (up pre),w,fn.ntmps⟩ code (frOf 0 args) (look (up pre)) (retC P q t r post)):SC P f args pre R r post:=by
  refine SC.start hf hb hn (fun c e fr σ hq=>?_) h
  have key:(∃ x,ResC P fr σ q t x/\∀ F ρ w v,RepI F ρ σ w x v->RepI F ρ σ w r v)->∀ ρ w a,All c ρ σ w fr a->∃ v,(results fn a.tmps).run P w = .ok v w/\RepI c.F ρ σ w r v:=by
    rintro ⟨x,hx,hs⟩ ρ w a ha
    obtain ⟨v,ad,hv,hv2,h1⟩:=y0z ha hx
    refine ⟨v,?_,hs _ _ _ _ h1⟩
    simp [results,hrs,hv,hv2,Sem.run_bind]
  cases e with
  | ret=>exact ⟨.inl rfl,hq.2,key hq.1⟩
  | normal=>exact ⟨.inr rfl,hq.2,key hq.1⟩
  | _=>exact hq.elim
theorem SC.ofC2 {f:FuncId} {fn:Func} {code:Code} {args:List IV} {pre post:List (Nat × HO)} {R:Nat->Prop} {r:IV} {q b:Tmp} {t:TypeId} (hf:P.funcs[f]? = some fn) (hb:fn.body=some code) (hn:args.length<=fn.ntmps) (hrs:fn.results = #[.cell q t,.tmp b])
    (h:∀ F ρ w,Tr P ⟨F,R,ρ,look (up pre),w,fn.ntmps⟩ code (frOf 0 args) (look (up pre)) (retC2 P q t b r post)):SC P f args pre R r post:=by
  refine SC.start hf hb hn (fun c e fr σ hq=>?_) h
  have key:(∃ x y,ResC P fr σ q t x/\fr.get b=some y/\∀ F ρ w v,RepI F ρ σ w (.tup [x,y]) v->RepI F ρ σ w r v)->∀ ρ w a,All c ρ σ w fr a->∃ v,(results fn a.tmps).run P w = .ok v w/\RepI c.F ρ σ w r v:=by
    rintro ⟨x,y,hx,hy,hs⟩ ρ w a ha
    obtain ⟨v,ad,hv,hv2,h1⟩:=y0z ha hx
    obtain ⟨v',hv',h1'⟩:=ha.fr b y hy
    refine ⟨.tuple #[v,v'],?_,hs _ _ _ _ (y5t h1 h1')⟩
    simp [results,hrs,hv,hv2,hv',Sem.run_bind]
  cases e with
  | ret=>exact ⟨.inl rfl,hq.2,key hq.1⟩
  | normal=>exact ⟨.inr rfl,hq.2,key hq.1⟩
  | _=>exact hq.elim
theorem rCk {q:Tmp} {t:TypeId} {x r:IV} {post:List (Nat × HO)} {σ:Heap'} {e:Exit} (he:e = .ret∨e = .normal) (hx:ResC P fr σ q t x) (hr:x=r) (hσ:∀ k o,look (up post) k=some o -> σ k=some o):retC P q t r post e fr σ:=by
  rcases he with rfl | rfl<;>exact ⟨⟨x,hx,fun _ _ _ _ h=>hr ▸ h⟩,hσ⟩
theorem retC2_ok {q b:Tmp} {t:TypeId} {x y r:IV} {post:List (Nat × HO)} {σ:Heap'} {e:Exit} (he:e = .ret∨e = .normal) (hx:ResC P fr σ q t x) (hy:fr.get b=some y) (hr:.tup [x,y]=r) (hσ:∀ k o,look (up post) k=some o -> σ k=some o):retC2 P q t b r post e fr σ:=by
  rcases he with rfl | rfl<;>exact ⟨⟨x,y,hx,hy,fun _ _ _ _ h=>hr ▸ h⟩,hσ⟩
end
section
variable {P:Program} {c:Cx} {R1:Nat->Prop} {o:Oper} {fr:Fr} {hp:Hp} {σ:Heap'} {Q:Exit->Fr->Heap'->Prop}
theorem RepP.keepIt {own:Nat->Prop} {w w':World} {b0:Nat} {p:PV} {v:Value} (h:RepP own w p v) (hs:w.heap.size<=w'.heap.size) (h0:∀ off sp,w.cell? ⟨b0,off,sp⟩=none)
    (hk:∀ b,b≠b0->w'.heap[b]? = w.heap[b]?):RepP own w' p v:=by
  have key:∀ (b off:Nat) (x:Value),w.cell? ⟨b,off,none⟩=some x->w'.cell? ⟨b,off,none⟩=some x:=by
    intro b off x hx
    by_cases e:b=b0
    ·subst e;rw [h0] at hx;cases hx
    rw [<- hx];exact World.cell?_of_block (a:=⟨b,off,none⟩) (hk b e)
  induction h with
  | val v=>exact .val v
  | seq els a cap b off u ha hb hl hm hc _ ih=>exact .seq els a cap b off u ha (fun hne=>⟨(hb hne).1,Nat.lt_of_lt_of_le (hb hne).2 hs⟩) hl hm (fun i el hi j c hj=>key _ _ _ (hc i el hi j c hj)) ih
  | agg cs vs u hl hv _ ih=>exact .agg cs vs u hl hv ih
  | ept cs off b o u hb hc _ ih=>exact .ept cs off b o u ⟨hb.1,Nat.lt_of_lt_of_le hb.2 hs⟩ (fun j c hj=>key _ _ _ (hc j c hj)) ih
theorem RepI.mapP {F:Nat->Prop} {ρ:Loc} {w w':World} {x:IV} {v:Value} (hk:∀ p v,RepP (owned F ρ) w p v->RepP (owned F ρ) w' p v) (h:RepI F ρ σ w x v):RepI F ρ σ w' x v:=by
  induction h with
  | pv p v h=>exact .pv p v (hk _ _ h)
  | ptr k off v h=>exact .ptr k off v h
  | sl k len v h=>exact .sl k len v h
  | rpt k len off v h=>exact .rpt k len off v h
  | bs k n v h=>exact .bs k n v h
  | mp k v h=>exact .mp k v h
  | agg cs vs u hl hv _ ih=>exact .agg cs vs u hl hv ih
  | tup cs vs u hl hv _ ih=>exact .tup cs vs u hl hv ih
  | fn f xs ys vs ws u t hl hv _ hl' hv' _ ih ih'=>exact .fn f xs ys vs ws u t hl hv ih hl' hv' ih'
theorem RepO.mapP {F:Nat->Prop} {ρ:Loc} {w w':World} {b cc:Nat} {o:HO} (hb:w'.heap[b]? = w.heap[b]?) (hk:∀ p v,RepP (owned F ρ) w p v->RepP (owned F ρ) w' p v) (h:RepO F ρ σ w b cc o):RepO F ρ σ w' b cc o:=by
  cases h with
  | box cs e a u h hl hv hr=>exact .box cs e a u (hb.trans h) hl hv fun j x hj=>(hr j x hj).mapP hk
  | row s els a u h hs hl hm hw hv hr=>exact .row s els a u (hb.trans h) hs hl hm hw hv fun i el hi j x hj=>hk _ _ (hr i el hi j x hj)
  | map es a t u h hl hv hr=>exact .map es a t u (hb.trans h) hl hv fun i k p hi=>hk _ _ (hr i k p hi)
theorem zk2 {w:World} {b0:Nat} {s:ByteArray} {k:Nat} (h:w.heap[b0]? = some (.stringIter s k)):∀ off sp,w.cell? ⟨b0,off,sp⟩=none:=by
  intro off sp
  simp [World.cell?,h]
theorem All.iterSet {ρ:Loc} {w:World} {a:Act} {b0 k k':Nat} {s:ByteArray} (h:All c ρ σ w fr a) (hit:w.heap[b0]? = some (.stringIter s k)) (hge:c.w.heap.size<=b0) (hun:∀ j cc,ρ j≠some (b0,cc)) :
    All c ρ σ { w with heap:=w.heap.setIfInBounds b0 (.stringIter s k') } fr a:=by
  have hlt:b0<w.heap.size:=(Array.getElem?_eq_some_iff.1 hit).1
  have hoth:∀ b,b≠b0->(w.heap.setIfInBounds b0 (Obj.stringIter s k'))[b]? = w.heap[b]?:=fun b hb=>by simp [Ne.symm hb]
  have hP:∀ p v,RepP (owned c.F ρ) w p v->RepP (owned c.F ρ) { w with heap:=w.heap.setIfInBounds b0 (.stringIter s k') } p v:=fun p v hp=>hp.keepIt sI0 (zk2 hit) hoth
  refine ⟨⟨h.rel.inj,h.rel.apart,fun b hb=>by simpa using h.rel.old b hb,fun j b cc hj=>?_,h.rel.real⟩,fun t x hx=>?_,?_,h.df,h.sz⟩
  ·obtain ⟨o,h1,h2⟩:=h.rel.obj j b cc hj
   exact ⟨o,h1,h2.mapP (hoth b fun e=>hun j cc (e ▸ hj)) hP⟩
  ·obtain ⟨v,hv,hr⟩:=h.fr t x hx
   exact ⟨v,hv,hr.mapP hP⟩
  have t:=h.tr
  exact { t with
    size:=by simpa using t.size
    blk:=fun b hb hall=>(hoth b oM0).trans (t.blk b hb hall) }
theorem All.rebase {ρ:Loc} {w:World} {a:Act} (h:All c ρ σ w fr a):All ⟨c.F,c.R,ρ,σ,w,c.n⟩ ρ σ w fr a:=⟨h.rel,h.fr,.refl _ _ _ _ _,h.df,h.sz⟩
theorem All.unbase {ρ ρ':Loc} {σ':Heap'} {w w':World} {fr':Fr} {a a':Act} (h:All c ρ σ w fr a) (h':All ⟨c.F,c.R,ρ,σ,w,c.n⟩ ρ' σ' w' fr' a') (hc:∀ k,σ k=none->c.σ k=none):All c ρ' σ' w' fr' a' :=
  ⟨h'.rel,h'.fr,h.tr.trans h'.tr (fun _ h=>h) (fun k h1 _=>hc k h1),h'.df,h'.sz⟩
abbrev itv (b0:Nat):IV:=.pv (.val (.pointer (some ⟨b0,0,none⟩)))
theorem y7d (s:ByteArray) (i:Nat):1<=(Utf8.decode s i).2:=by
  unfold Utf8.decode
  simp only
  repeat' split
  all_goals simp
def itPos (w:World) (b0:Nat):Nat:=match w.heap[b0]? with
  | some (.stringIter _ k)=>k
  | _=>0
theorem Sub.cons {fr':Fr} {d:Nat} {x:IV} (h:Sub σ fr fr'):Sub σ ((d,x)::fr) ((d,x)::fr'):=by
  intro t y hy
  simp only [Fr.get] at hy ⊢
  cases hb:Nat.beq d t with
  | true=>rw [hb] at hy;cases hy;exact ⟨_,rfl,fun _ _ _ _ h=>h⟩
  | false=>rw [hb] at hy;exact h t y hy
theorem Tr.strRange {id1 i2 bid:Nat} {ops1 ops2:Array Oper} {rest:Code} {m g nx ex:Oper} {d0 d1 e1 e2:Nat} {x0:Operand} {ty:TypeId} {s:ByteArray}
    (h1:ops1.toList=[m,g]) (hmo:m.op = .move x0) (hmd:m.dst=some d0) (hmg:m.guard=none) (hgo:g.op = .range ty (.tmp d0)) (hgd:g.dst=some d1) (hgg:g.guard=none)
    (hx0:fr.ev x0=some (iStr s)) (hty:P.underlying ty=some .string)
    (h2:ops2.toList=[nx,ex]) (hno:nx.op = .next (.tmp d1) true) (hnd:nx.dst=some e1) (hng:nx.guard=none) (heo:ex.op = .extract (.tmp e1) 0) (hed:ex.dst=some e2) (heg:ex.guard=none)
    (hb0:Nat.blt d0 c.n=true) (hb1:Nat.blt d1 c.n=true) (hb2:Nat.blt e1 c.n=true) (hb3:Nat.blt e2 c.n=true)
    (hcσ:∀ k,σ k=none->c.σ k=none)
    (I:Nat->Fr->Prop) (h0:∃ fr0,Sub σ ((d0,iStr s)::fr) fr0/\I 0 fr0)
    (hdone:∀ b0 k fr',s.size<=k->I k fr'->Q .normal ((e2,iBool false)::(e1,.tup [iBool false])::(d1,itv b0)::fr') σ)
    (round:∀ (ρ2:Loc) (w2:World) (b0 k:Nat) (fr':Fr),k<s.size->I k fr' ->
      Tr P ⟨c.F,c.R,ρ2,σ,w2,c.n⟩ rest ((e2,iBool true)::(e1,.tup [iBool true,iInt k,.pv (.val (.int .i32 (Utf8.decode s k).1))])::(d1,itv b0)::fr') σ (fun e fr1 σ1=>match e with
        | .normal=>σ1 = σ /\ ∃ fr'',Sub σ fr1 ((d1,itv b0)::fr'')/\I (k+(Utf8.decode s k).2) fr''
        | .exit _=>False
        | e=>Q e fr1 σ1)) :
    Tr P c (.seq (.region id1 ops1 false) (.block bid (.loop (.seq (.region i2 ops2 false) (.seq (.cond (.tmp e2) .skip (.exit bid)) rest))))) fr σ Q:=by
  obtain ⟨fr0,hs0,hI0⟩:=h0
  intro ρ w a ha
  refine wp_seq (wp_region_list ?_)
  rw [h1]
  refine wpList_plain hmg fun K hK=>?_
  obtain ⟨v1,hr1,hv1⟩:=(z6c (R1:=fun _=>True) hmo hx0) ρ w a ha
  unfold Oper.wp
  rw [hr1 w (.refl _ _ _ _),Oper.upon_value]
  refine hK _ _ ?_
  clear hK K
  have ha2:All c ρ σ w ((d0,iStr s)::fr) (a.put m.dst v1):=by
    have:=ha.put (d:=m.dst) hv1 (by rw [hmd];intro t ht;cases ht;simpa using hb0)
    rwa [hmd] at this ⊢
  generalize a.put m.dst v1=a2 at ha2 ⊢
  refine wpList_plain hgg fun K2 hK2=>?_
  have hevs:a2.eval (.tmp d0) = .string s:=z0w ha2 (show Fr.ev ((d0,iStr s)::fr) (.tmp d0)=_ by simp [Fr.ev,Fr.get])
  have hrun:(execOp a2.eval g).run P w = .ok (.value (.pointer (some ⟨w.heap.size,0,none⟩))) (w.iter s 0):=by
    simp [execOp,hgo,hevs,Sem.run_bind,run_range_string w ty s hty]
  unfold Oper.wp
  rw [hrun,Oper.upon_value]
  refine hK2 _ _ ?_
  obtain ⟨ha3,_⟩:=ha2.push (.stringIter s 0)
  have hfresh:=ha2.fresh
  have ha4:All c ρ σ (w.iter s 0) ((d1,itv w.heap.size)::(d0,iStr s)::fr) (a2.put g.dst (.pointer (some ⟨w.heap.size,0,none⟩))):=by
    have:=ha3.put (d:=g.dst) (z32 (.pointer (some ⟨w.heap.size,0,none⟩))) (by rw [hgd];intro t ht;cases ht;simpa using hb1)
    rwa [hgd] at this ⊢
  have hge:c.w.heap.size<=w.heap.size:=ha2.tr.size
  generalize hb:w.heap.size=b0 at *
  generalize a2.put g.dst (.pointer (some ⟨b0,0,none⟩))=a4 at ha4 ⊢
  show (Code.block _ _).wp P _ a4 (w.iter s 0)
  refine wp_block <| wp_loop (fun a' w'=>∃ k ρ' fr',All c ρ' σ w' ((d1,itv b0)::fr') a'/\I k fr'/\w'.heap[b0]? = some (.stringIter s k)/\∀ j cc,ρ' j≠some (b0,cc)) (fun _ w'=>s.size - itPos w' b0) ⟨0,ρ,fr0,ha4.sub (hs0.cons),hI0,by rw [<- hb];exact World.iter_heap w s 0,fun j cc hj=>hfresh (.inr ⟨j,cc,hj⟩)⟩ ?_
  rintro a5 w5 ⟨k,ρ5,fr',ha5,hI,hit,hun⟩
  refine wp_seq (wp_region_list ?_)
  rw [h2]
  have hevp:a5.eval (.tmp d1) = .pointer (some ⟨b0,0,none⟩):=z0w ha5 (show Fr.ev ((d1,itv b0)::fr') (.tmp d1)=_ by simp [Fr.ev,Fr.get])
  have hpos:itPos w5 b0=k:=by simp [itPos,hit]
  have hlt0:b0<w5.heap.size:=(Array.getElem?_eq_some_iff.1 hit).1
  by_cases hk:k<s.size
  ·have hrun5:(execOp a5.eval nx).run P w5 = .ok (.value (.tuple #[.bool true,.int .i64 k,.int .i32 (Utf8.decode s k).1])) { w5 with heap:=w5.heap.setIfInBounds b0 (.stringIter s (k+(Utf8.decode s k).2)) }:=by
     simp [execOp,hno,hevp,Instr.next,getObj,setObj,Sem.run_bind,Sem.run,hit,hk,goInt,Result.andThen]
   refine wpList_plain hng fun K3 hK3=>?_
   unfold Oper.wp
   rw [hrun5,Oper.upon_value]
   refine hK3 _ _ ?_
   have ha6:=ha5.iterSet (k':=k+(Utf8.decode s k).2) hit (by rw [<- hb] at hge ⊢;exact hge) hun
   have htup:RepI c.F ρ5 σ { w5 with heap:=w5.heap.setIfInBounds b0 (.stringIter s (k+(Utf8.decode s k).2)) } (.tup [iBool true,iInt k,.pv (.val (.int .i32 (Utf8.decode s k).1))]) (.tuple #[.bool true,.int .i64 k,.int .i32 (Utf8.decode s k).1]):=y3r (z32 _) (z32 _) (z32 _)
   have ha7:All c ρ5 σ { w5 with heap:=w5.heap.setIfInBounds b0 (.stringIter s (k+(Utf8.decode s k).2)) } ((e1,.tup [iBool true,iInt k,.pv (.val (.int .i32 (Utf8.decode s k).1))])::(d1,itv b0)::fr') (a5.put nx.dst (.tuple #[.bool true,.int .i64 k,.int .i32 (Utf8.decode s k).1])):=by
     have:=ha6.put (d:=nx.dst) htup (by rw [hnd];intro t ht;cases ht;simpa using hb2)
     rwa [hnd] at this ⊢
   generalize a5.put nx.dst (.tuple #[.bool true,.int .i64 k,.int .i32 (Utf8.decode s k).1])=a7 at ha7 ⊢
   generalize hw7:({ w5 with heap:=w5.heap.setIfInBounds b0 (.stringIter s (k+(Utf8.decode s k).2)) }:World)=w7 at ha7 ⊢
   have hit7:w7.heap[b0]? = some (.stringIter s (k+(Utf8.decode s k).2)):=by rw [<- hw7];simp [hlt0]
   refine wpList_plain heg fun K4 hK4=>?_
   obtain ⟨v8,hr8,hv8⟩:=(z1e (R1:=fun _=>True) (vs:=[iBool true,iInt k,.pv (.val (.int .i32 (Utf8.decode s k).1))]) (z:=iBool true) heo (show Fr.ev ((e1,_)::_) (.tmp e1)=_ by simp [Fr.ev,Fr.get]) rfl) ρ5 w7 a7 ha7
   unfold Oper.wp
   rw [hr8 w7 (.refl _ _ _ _),Oper.upon_value]
   refine hK4 _ _ ?_
   have ha8:All c ρ5 σ w7 ((e2,iBool true)::(e1,.tup [iBool true,iInt k,.pv (.val (.int .i32 (Utf8.decode s k).1))])::(d1,itv b0)::fr') (a7.put ex.dst v8):=by
     have:=ha7.put (d:=ex.dst) hv8 (by rw [hed];intro t ht;cases ht;simpa using hb3)
     rwa [hed] at this ⊢
   generalize a7.put ex.dst v8=a8 at ha8 ⊢
   show (Code.seq _ _).wp P _ a8 w7
   refine wp_seq <| wp_cond (t:=true) (z0w ha8 (show Fr.ev ((e2,iBool true)::_) (.tmp e2)=_ by simp [Fr.ev,Fr.get])) ?_
   rw [if_pos rfl]
   refine wp_skip ?_
   show rest.wp P _ a8 w7
   refine wp_mono (round ρ5 w7 b0 k fr' hk hI ρ5 w7 a8 ha8.rebase) ?_
   rintro e a9 w9 ⟨ρ9,σ9,fr9,ha9,hq⟩
   have hlt7:b0<w7.heap.size:=(Array.getElem?_eq_some_iff.1 hit7).1
   cases e with
   | normal =>
     obtain ⟨rfl,fr2,hsub,hI2⟩:=hq
     have hit9:w9.heap[b0]? = some (.stringIter s (k+(Utf8.decode s k).2)):=(ha9.tr.blk b0 hlt7 fun j cc hj=>absurd hj (hun j cc)).trans hit7
     refine ⟨⟨_,ρ9,fr2,(ha8.unbase ha9 hcσ).sub hsub,hI2,hit9,fun j cc hj=>hun j cc (ha9.tr.own j b0 cc hj hlt7)⟩,?_⟩
     have:=y7d s k
     rw [hpos]
     simp only [itPos,hit9]
     omega
   | exit id=>exact hq.elim
   | _=>exact ⟨ρ9,σ9,fr9,ha8.unbase ha9 hcσ,hq⟩
  have hrun5:(execOp a5.eval nx).run P w5 = .ok (.value (.tuple #[.bool false])) w5:=by
    simp [execOp,hno,hevp,Instr.next,getObj,Sem.run_bind,Sem.run,hit,hk,Result.andThen]
  refine wpList_plain hng fun K3 hK3=>?_
  unfold Oper.wp
  rw [hrun5,Oper.upon_value]
  refine hK3 _ _ ?_
  have htup:RepI c.F ρ5 σ w5 (.tup [iBool false]) (.tuple #[.bool false]):=.tup _ _ (fun _=>.bool false) rfl (fun j x hj=>by
    match j,hj with
    | 0,_=>rfl
    | j+1,hj=>simp at hj) fun j x hj=>by
    match j,hj with
    | 0,hj=>cases hj;exact z32 _
    | j+1,hj=>simp at hj
  have ha7:All c ρ5 σ w5 ((e1,.tup [iBool false])::(d1,itv b0)::fr') (a5.put nx.dst (.tuple #[.bool false])):=by
    have:=ha5.put (d:=nx.dst) htup (by rw [hnd];intro t ht;cases ht;simpa using hb2)
    rwa [hnd] at this ⊢
  generalize a5.put nx.dst (.tuple #[.bool false])=a7 at ha7 ⊢
  refine wpList_plain heg fun K4 hK4=>?_
  obtain ⟨v8,hr8,hv8⟩:=(z1e (R1:=fun _=>True) (vs:=[iBool false]) (z:=iBool false) heo (show Fr.ev ((e1,_)::_) (.tmp e1)=_ by simp [Fr.ev,Fr.get]) rfl) ρ5 w5 a7 ha7
  unfold Oper.wp
  rw [hr8 w5 (.refl _ _ _ _),Oper.upon_value]
  refine hK4 _ _ ?_
  have ha8:All c ρ5 σ w5 ((e2,iBool false)::(e1,.tup [iBool false])::(d1,itv b0)::fr') (a7.put ex.dst v8):=by
    have:=ha7.put (d:=ex.dst) hv8 (by rw [hed];intro t ht;cases ht;simpa using hb3)
    rwa [hed] at this ⊢
  generalize a7.put ex.dst v8=a8 at ha8 ⊢
  show (Code.seq _ _).wp P _ a8 w5
  refine wp_seq <| wp_cond (t:=false) (z0w ha8 (show Fr.ev ((e2,iBool false)::_) (.tmp e2)=_ by simp [Fr.ev,Fr.get])) ?_
  rw [if_neg sI0]
  refine wp_exit ?_
  show (if bid=bid then _ else _)
  rw [if_pos rfl]
  exact ⟨ρ5,σ,_,ha8,hdone b0 k fr' oM0 hI⟩
end
theorem zg1 {α:Type} {p:α -> Bool}:∀ {l:List α} {k:Nat} {x:α},(l.take k).all p=true->l[k]? = some x->p x=false->(l.takeWhile p).length=k/\l.all p=false
  | [],k,x,_,h,_=>by simp at h
  | a::r,0,x,_,h,hx=>by
    simp only [List.getElem?_cons_zero,Option.some.injEq] at h
    subst h
    simp [hx]
  | a::r,k+1,x,h,hg,hx=>by
    simp only [List.take_succ_cons,List.all_cons,Bool.and_eq_true] at h
    obtain ⟨h1,h2⟩:=zg1 h.2 (by simpa using hg) hx
    simp [h.1,h1,h2]
def y81 (s:ByteArray):ByteArray:=if s.toList.all isLD then s else s.extract 0 (s.toList.takeWhile isLD).length
theorem runOf_at {s:ByteArray} {k:Nat} {b:UInt8} (h:(s.toList.take k).all isLD=true) (hb:s.toList[k]? = some b) (hn:isLD b=false):y81 s=s.extract 0 k:=by
  obtain ⟨h1,h2⟩:=zg1 h hb hn
  simp [y81,h1,h2]
theorem runOf_eq (s:ByteArray):((y81 s).toList==s.toList)=s.toList.all isLD:=by
  unfold y81
  cases h:s.toList.all isLD with
  | true=>simp
  | false =>
    simp only [Bool.false_eq_true,if_false]
    have hlt:(s.toList.takeWhile isLD).length<s.toList.length:=by
      rcases Nat.lt_or_ge (s.toList.takeWhile isLD).length s.toList.length with h1 | h1
      ·exact h1
      have hp:=List.takeWhile_prefix (l:=s.toList) isLD
      have he:=hp.eq_of_length_le h1
      have:s.toList.all isLD=true:=by rw [<- he];exact List.all_takeWhile
      rw [h] at this;cases this
    have hne:(s.extract 0 (s.toList.takeWhile isLD).length).toList≠s.toList:=by
      intro he
      have:=congrArg List.length he
      rw [z9z,ByteArray.size_extract,z9z] at this
      rw [z9z] at hlt
      omega
    simpa using hne
theorem y7c {s:ByteArray} {k:Nat} (h:k<s.toList.length):((s.toList[k]).toNat<128->Utf8.decode s k=((s.toList[k]).toNat,1))/\(128<=(s.toList[k]).toNat->128<=(Utf8.decode s k).1):=by
  have hk:k<s.size:=by rwa [z9z] at h
  have e0:s.get! (k+0)=s.toList[k]:=by
    have h2:=y66 h
    rw [getElem?_pos s k hk] at h2
    rw [<- Option.some.inj h2]
    show s.get! k=_
    simp [ByteArray.get!,getElem!_pos,hk]
    rfl
  refine ⟨fun hb=>?_,fun hb=>?_⟩
  ·simp only [Utf8.decode,e0,hb,if_true]
  have hn:¬ (s.toList[k]).toNat<128:=by omega
  simp only [Utf8.decode,e0]
  rw [if_neg (by simpa using hn)]
  repeat' split
  all_goals first
    | (simp [Utf8.runeError];done)
    | (rename_i hc;simp only [ge_iff_le,Bool.and_eq_true,decide_eq_true_eq] at hc;simp only;omega)
def zw4 (r:Int):Bool:=z6q r||zb2 r
theorem y2h {r:Int} (h:zw4 r=true):r<128:=by
  simp only [zw4,z6q,zb2,Bool.or_eq_true,Bool.and_eq_true,decide_eq_true_eq,beq_iff_eq] at h
  omega
theorem zp8 {s:ByteArray} {k:Nat} (h:k<s.toList.length):(zw4 (Utf8.decode s k).1=true->(Utf8.decode s k).2=1/\isLD s.toList[k]=true)/\(zw4 (Utf8.decode s k).1=false->isLD s.toList[k]=false):=by
  obtain ⟨h1,h2⟩:=y7c h
  by_cases hb:(s.toList[k]).toNat<128
  ·rw [h1 hb]
   exact ⟨fun h=>⟨rfl,h⟩,fun h=>h⟩
  have h3:=h2 oM0
  refine ⟨fun hl=>?_,fun _=>?_⟩
  ·have:=y2h hl;omega
  cases hd:isLD s.toList[k] with
  | false=>rfl
  | true=>have:=y2h (r:=((s.toList[k]).toNat:Int)) hd;omega
def Cnt (es:List (Value × PV)):Prop:=(∀ e∈es,z2a .string e.1=true)/\∀ e∈es,∃ n,e.2=vInt n
theorem ze4 {k:Value} {v:PV}:∀ {es:List (Value × PV)} {e:Value × PV},e∈mput k v es->e=(k,v)∨e∈es
  | [],e,h=>by simp [mput] at h;exact .inl h
  | (a,p)::r,e,h=>by
    simp only [mput] at h
    split at h
    ·rcases List.mem_cons.1 h with rfl | h
     ·exact .inl rfl
     exact .inr (.tail _ h)
    rcases List.mem_cons.1 h with rfl | h
    ·exact .inr (.head _)
    rcases ze4 h with h | h
    ·exact .inl h
    exact .inr (.tail _ h)
theorem zr5 {k:Value} {p:PV}:∀ {es:List (Value × PV)},z3a k es=some p->∃ a,(a,p)∈es
  | (a,q)::r,h=>by
    simp only [z3a] at h
    split at h
    ·cases h;exact ⟨a,.head _⟩
    obtain ⟨b,hb⟩:=zr5 h;exact ⟨b,.tail _ hb⟩
theorem Cnt.find {es:List (Value × PV)} (h:Cnt es) (k:Value):∃ n,(z3a k es).getD (.val (.int .i64 0))=vInt n:=by
  cases hf:z3a k es with
  | none=>exact ⟨0,rfl⟩
  | some p=>obtain ⟨a,ha⟩:=zr5 hf;obtain ⟨n,hn⟩:=h.2 _ ha;exact ⟨n,hn⟩
theorem y0a {es:List (Value × PV)} {s:ByteArray} {n:Int} (h:(z3a (.string s) es).getD (.val (.int .i64 0))=vInt n):bump s es=mput (.string s) (vInt (IntKind.i64.wrap (n+1))) es:=by
  unfold bump
  cases hf:z3a (.string s) es with
  | none =>
    rw [hf] at h
    simp only [Option.getD_none,vInt,PV.val.injEq,Value.int.injEq,true_and] at h
    subst h
    rfl
  | some p =>
    rw [hf] at h
    simp only [Option.getD_some] at h
    subst h
    rfl
theorem Cnt.bump {es:List (Value × PV)} (h:Cnt es) (s:ByteArray):Cnt (bump s es):=by
  obtain ⟨n,hn⟩:=h.find (.string s)
  rw [y0a hn]
  refine ⟨fun e he=>?_,fun e he=>?_⟩
  ·rcases ze4 he with rfl | he
   ·rfl
   exact h.1 e he
  rcases ze4 he with rfl | he
  ·exact ⟨_,rfl⟩
  exact h.2 e he
theorem Cnt.nil:Cnt []:=⟨fun _ h=>by simp at h,fun _ h=>by simp at h⟩
structure Rl (n:Nat) (st:List Int) (set:List Bool) (seen:List Int):Prop where
  l1:st.length=n
  l2:set.length=n
  s:∀ v:Nat,v<n->set.getD v false = !(st.getD v 0==0)
  u:∀ v:Nat,v<n->seen.contains (v:Int)=(st.getD v 0==1)
theorem zd5 {α:Type} {l:List α} {i j:Nat} {a d:α}:(l.set i a).getD j d=if i=j/\i<l.length then a else l.getD j d:=by
  simp only [List.getD_eq_getElem?_getD,List.getElem?_set]
  by_cases h:i=j
  ·subst h
   by_cases h2:i<l.length
   ·simp [h2]
   simp [h2]
  simp [h]
theorem use_rl {tys st:List Int} {set:List Bool} {seen:List Int} (h:Rl tys.length st set seen) (v w:Int):z73 tys seen v w=(zk0 tys st v w).1:=by
  unfold z73 zk0 z4h
  by_cases h0:0<=v
  ·by_cases h1:v<tys.length
   ·have hv:v=(v.toNat:Int):=by omega
    have hu:=h.u v.toNat oM0
    rw [<- hv] at hu
    have e1:decide (v<0)=false:=by simpa using h0
    have e2:decide (v ≥ tys.length)=false:=by simpa using h1
    have e3:decide (0<=v)=true:=by simpa using h0
    have e4:decide (v<tys.length)=true:=by simpa using h1
    simp only [e1,e2,e3,e4,hu,Bool.false_or,Bool.true_and]
    clear hv e1 e2 e3 e4
    cases hw:(w==0)<;>cases ht:(tys.getD v.toNat 0==w)<;>cases hs:(st.getD v.toNat 0==1)<;>simp_all [bne]
   have e2:decide (v ≥ tys.length)=true:=by simp;omega
   have e4:decide (v<tys.length)=false:=by simp;omega
   simp [e2,e4]
  have e1:decide (v<0)=true:=by simp;omega
  have e3:decide (0<=v)=false:=by simp;omega
  simp [e1,e3]
theorem y3u {tys st:List Int} {set:List Bool} {seen:List Int} (h:Rl tys.length st set seen):∀ (a b:List Int),z0q tys seen a b=(eqGo (zk0 tys) st a b).1
  | [],_=>by simp [z0q,eqGo]
  | _::_,[]=>by simp [z0q,eqGo]
  | x::a,y::b=>by
    simp only [z0q,eqGo,use_rl h x y]
    have h2:(zk0 tys st x y).2=st:=rfl
    cases hx:(zk0 tys st x y).1 with
    | true=>simp [h2,y3u h a b]
    | false=>simp
theorem y5y {tys st:List Int} {set:List Bool} {seen:List Int} (h:Rl tys.length st set seen) (a b:List Int):z01 tys seen a b=z10 tys st a b:=by
  unfold z01 z10 eqf
  by_cases hl:(a.length:Int)=b.length
  ·rw [if_pos hl]
   have:((a.length:Int)==b.length)=true:=by simpa using hl
   rw [this,Bool.true_and,y3u h]
  rw [if_neg hl]
  have:((a.length:Int)==b.length)=false:=by simpa using hl
  rw [this,Bool.false_and]
theorem set1_rl {tys st:List Int} {set:List Bool} {seen:List Int} (h:Rl tys.length st set seen) (v w:Int) :
    z7t tys set v w = !(z3n tys st v w).1/\((z3n tys st v w).1=true->Rl tys.length (z3n tys st v w).2 (set.set v.toNat true) (seen++[v])/\0<=v/\v<tys.length/\seen.contains v=false):=by
  unfold z7t z3n z4h
  by_cases h0:0<=v
  ·by_cases h1:v<tys.length
   ·have hv:v=(v.toNat:Int):=by omega
    have hn:v.toNat<tys.length:=by omega
    have hs:=h.s v.toNat hn
    have hu:=h.u v.toNat hn
    rw [<- hv] at hu
    have e1:decide (v<0)=false:=by simpa using h0
    have e2:decide (v ≥ tys.length)=false:=by simpa using h1
    have e3:decide (0<=v)=true:=by simpa using h0
    have e4:decide (v<tys.length)=true:=by simpa using h1
    simp only [e1,e2,e3,e4,hs,Bool.false_or,Bool.true_and]
    refine ⟨by clear hv e1 e2 e3 e4;cases hw:(w==0)<;>cases ht:(tys.getD v.toNat 0==w)<;>cases hz:(st.getD v.toNat 0==0)<;>simp_all [bne],fun hc=>?_⟩
    split at hc
    ·rename_i hif
     rw [if_pos hif]
     simp only [Bool.and_eq_true] at hif
     have hz:st.getD v.toNat 0=0:=by simpa using hif.2
     refine ⟨⟨by simpa using h.l1,by simpa using h.l2,fun j hj=>?_,fun j hj=>?_⟩,h0,h1,by rw [hu,hz];rfl⟩
     ·rw [zd5,zd5]
      by_cases e:v.toNat=j
      ·subst e;simp [h.l1,h.l2,hn]
      simp only [e,false_and,if_false];exact h.s j hj
     rw [zd5]
     simp only [List.contains_append,List.contains_cons,List.contains_nil,Bool.or_false]
     by_cases e:v.toNat=j
     ·subst e
      have:((v.toNat:Int)==v)=true:=by simpa using hv.symm
      rw [this,Bool.or_true,if_pos ⟨rfl,by rw [h.l1];exact hn⟩];rfl
     have:((j:Int)==v)=false:=by simp;omega
     simp only [e,false_and,if_false,this,Bool.or_false]
     exact h.u j hj
    cases hc
   have e2:decide (v ≥ tys.length)=true:=by simp;omega
   have e4:decide (v<tys.length)=false:=by simp;omega
   simp [e2,e4]
  have e1:decide (v<0)=true:=by simp;omega
  have e3:decide (0<=v)=false:=by simp;omega
  simp [e1,e3]
theorem y3h {tys:List Int}:∀ (a b st:List Int) (set:List Bool) (seen:List Int),a.length=b.length->Rl tys.length st set seen ->
    (z1z tys set a b).1=(eqGo (z3n tys) st a b).1/\((eqGo (z3n tys) st a b).1=true->Rl tys.length (eqGo (z3n tys) st a b).2 (z1z tys set a b).2 (seen++a)/\∀ v∈a,0<=v/\v<tys.length/\seen.contains v=false)
  | [],_,st,set,seen,_,h=>by simp [z1z,eqGo];exact h
  | _::_,[],_,_,_,hl,_=>by simp at hl
  | x::a,y::b,st,set,seen,hl,h=>by
    obtain ⟨h1,h2⟩:=set1_rl h x y
    simp only [z1z,eqGo,h1]
    cases hx:(z3n tys st x y).1 with
    | false=>simp
    | true =>
      obtain ⟨h3,h4,h5,h6⟩:=h2 hx
      obtain ⟨ih1,ih2⟩:=y3h a b _ _ _ (by simpa using hl) h3
      simp only [Bool.not_true,Bool.false_eq_true,if_false,if_true]
      refine ⟨ih1,fun hc=>?_⟩
      obtain ⟨h7,h8⟩:=ih2 hc
      refine ⟨by simpa using h7,fun v hv=>?_⟩
      rcases List.mem_cons.1 hv with rfl | hv
      ·exact ⟨h4,h5,h6⟩
      obtain ⟨g1,g2,g3⟩:=h8 v hv
      refine ⟨g1,g2,?_⟩
      rw [List.contains_append,Bool.or_eq_false_iff] at g3
      exact g3.1
theorem yh2 {tys st:List Int} {set:List Bool} {seen:List Int} (h:Rl tys.length st set seen) (a b:List Int) :
    (z1p tys set a b).1=(z1h tys st a b).1/\((z1h tys st a b).1=true->Rl tys.length (z1h tys st a b).2 (z1p tys set a b).2 (seen++a)/\∀ v∈a,0<=v/\v<tys.length/\seen.contains v=false):=by
  unfold z1p z1h eqf
  by_cases hl:(a.length:Int)=b.length
  ·have e:((a.length:Int)==b.length)=true:=by simpa using hl
   rw [if_pos hl,if_pos e]
   exact y3h a b st set seen oM0 h
  have e:¬ ((a.length:Int)==b.length)=true:=by simpa using hl
  rw [if_neg hl,if_neg e]
  simp
theorem ya9 {n:Nat}:∀ (l st:List Int) (set:List Bool) (seen rest:List Int),(∀ v∈l,0<=v/\v<n/\rest.contains v=false)->(∀ v∈l,st.getD v.toNat 0≠0)->st.length=n->set.length=n ->
    (∀ v:Nat,v<n->set.getD v false = !(st.getD v 0==0))->(∀ v:Nat,v<n->l.contains (v:Int)=false->rest.contains (v:Int)=(st.getD v 0==1))->Rl n (z3d st l) set rest
  | [],st,set,_,rest,_,_,h1,h2,h3,h4=>⟨h1,h2,h3,fun v hv=>h4 v hv rfl⟩
  | x::l,st,set,seen,rest,hin,hnz,h1,h2,h3,h4=>by
    obtain ⟨hx0,hx1,hx2⟩:=hin x (.head _)
    have hxn:x.toNat<n:=by omega
    show Rl n (z3d (st.set x.toNat 2) l) set rest
    have hg:∀ j,(st.set x.toNat 2).getD j 0=if x.toNat=j then 2 else st.getD j 0:=fun j=>by
      rw [zd5];simp [h1,hxn]
    -- hidden values are no more among the seen
    have key:∀ v:Nat,v<n->l.contains (v:Int)=false->rest.contains (v:Int)=((st.set x.toNat 2).getD v 0==1):=by
      intro v hv hl
      rw [hg]
      by_cases e:x.toNat=v
      ·have hv2:(v:Int)=x:=by omega
       rw [if_pos e,hv2,hx2];rfl
      rw [if_neg e]
      refine h4 v hv ?_
      have:((v:Int)==x)=false:=by simp;omega
      rw [List.contains_cons,this,hl];rfl
    refine ya9 l (st.set x.toNat 2) set seen rest (fun v hv=>hin v (.tail _ hv)) (fun v hv=>?_) (by simpa using h1) h2 (fun v hv=>?_) key
    ·rw [hg];split
     ·decide
     exact hnz v (.tail _ hv)
    rw [hg,h3 v hv]
    split
    ·rename_i e
     have:=hnz x (.head _)
     rw [e] at this
     have hb:(st.getD v 0==0)=false:=by simpa using this
     rw [hb];rfl
    rfl
def PR (n:Nat) (seen outs:List Int) (r:Bool × List Int) (q:Bool × List Bool):Prop :=
  q.1=r.1/\(r.1=true->Rl n r.2 q.2 (seen++outs)/\∀ v∈outs,0<=v/\v<n/\seen.contains v=false)
theorem PR.no {n:Nat} {seen outs:List Int} {st:List Int} {set:List Bool}:PR n seen outs (false,st) (false,set):=⟨rfl,fun h=>by cases h⟩
theorem zk7 {tys st:List Int} {set:List Bool} {seen:List Int} (h:Rl tys.length st set seen) {b b':Bool} (hb:b=b') (outs want:List Int):PR tys.length seen outs (andP b st (z1h tys st outs want)) (andS b' set (z1p tys set outs want)):=by
  subst hb
  cases b with
  | false=>exact .no
  | true=>exact yh2 h outs want
theorem nil_rl {tys st:List Int} {set:List Bool} {seen:List Int} (h:Rl tys.length st set seen) {b b':Bool} (hb:b=b') (outs:List Int):PR tys.length seen outs (andP b st (z1h tys st outs [])) (b'&&(outs.length:Int)==0,set):=by
  subst hb
  cases b with
  | false=>exact .no
  | true =>
    cases outs with
    | nil=>exact ⟨rfl,fun _=>⟨by rw [List.append_nil];exact h,fun v hv=>by simp at hv⟩⟩
    | cons v r =>
      have e:¬ (((v::r).length:Int)=(([]:List Int).length:Int)):=by simp;omega
      have e2:(((v::r).length:Int)==0)=false:=by simp;omega
      simp only [andP,if_true,z1h,eqf,if_neg e,e2,Bool.and_false]
      exact .no
theorem y67 {n:Nat} {st:List Int} {set:List Bool} {seen:List Int} (h:Rl n st set seen) {b b':Bool} (hb:b=b') {outs:List Int} (ho:b=true->outs=[]):PR n seen outs (b,st) (b',set):=by
  subst hb
  refine ⟨rfl,fun hb=>?_⟩
  rw [ho hb]
  exact ⟨by simpa using h,fun v hv=>by simp at hv⟩
theorem y4x {op:Int} (h:z1v op=true):z09 op=z0a op:=by
  simp only [z1v,Bool.and_eq_true,decide_eq_true_eq] at h
  have h18:(op==18)=false:=by simp;omega
  have h19:(op==19)=false:=by simp;omega
  have h22:(op==22)=false:=by simp;omega
  simp only [z09,z0a,h18,h19,h22,Bool.or_false,Bool.false_eq_true,if_false]
theorem y4w {op:Int} (h:z2c op=true):z09 op=z0a op:=by
  simp only [z2c,Bool.and_eq_true,decide_eq_true_eq] at h
  have h18:(op==18)=false:=by simp;omega
  have h19:(op==19)=false:=by simp;omega
  simp only [z09,z0a,h18,h19,Bool.false_or]
theorem yb7 (op:Int):(decide (za5 op > 0)&&decide (op<=17))=z1v op:=by
  by_cases h0:op<0
  ·have:za5 op=0:=by simp [za5,h0]
   have h2:z1v op=false:=by simp [z1v];omega
   rw [this,h2];rfl
  by_cases h1:op ≥ 29
  ·have:za5 op=0:=by simp [za5,h1]
   have h2:z1v op=false:=by simp [z1v];omega
   rw [this,h2];rfl
  rcases y9c (op:=op) oM0 oM0 with rfl | rfl | rfl | rfl | rfl | rfl | rfl | rfl | rfl | rfl | rfl | rfl | rfl | rfl | rfl | rfl | rfl | rfl | rfl | rfl | rfl | rfl | rfl | rfl | rfl | rfl | rfl | rfl | rfl<;>rfl
theorem yh7 (u:Un) (f:Fl) {st:List Int} {set:List Bool} {seen:List Int} (h:Rl f.types.length st set seen) (x:Nd) (w:Wh) :
    PR f.types.length seen x.outs (if z0p x.kind then (z8e f st x w,st) else z27 u f st x) (z1a u f set x seen w):=by
  have U:=fun want=>(y5y h x.args want).symm
  have hlen:∀ b,z10 f.types st x.args []=b->((x.args.length:Int)==0)=b:=fun b hb=>by
    rw [<- hb]
    unfold z10 eqf
    cases x.args with
    | nil=>rfl
    | cons a r =>
      have e:¬ (((a::r).length:Int)=(([]:List Int).length:Int)):=by simp;omega
      have e2:(((a::r).length:Int)==0)=false:=by simp;omega
      rw [if_neg e,e2]
  unfold z1a z27 z8e z3t zm2 z90
  by_cases k1:x.kind=1
  ·simp only [k1,z0p];exact zk7 h (U _) _ _
  by_cases k2:x.kind=2
  ·simp only [k2,z0p];exact zk7 h (by rw [U]) _ _
  by_cases k3:x.kind=3
  ·simp only [k3,z0p]
   cases ho:z2c x.op with
   | false=>exact .no
   | true=>rw [y4w ho];exact zk7 h (by rw [U]) _ _
  by_cases k4:x.kind=4
  ·simp only [k4,z0p,yb7]
   cases ho:z1v x.op with
   | false=>exact .no
   | true=>rw [y4x ho];exact zk7 h (by rw [U]) _ _
  by_cases k5:x.kind=5
  ·simp only [k5,z0p];exact zk7 h (by rw [U]) _ _
  by_cases k6:x.kind=6
  ·simp only [k6,z0p];exact nil_rl h (by rw [U]) _
  by_cases k7:x.kind=7
  ·simp only [k7,z0p]
   by_cases hp:z03 x.name u.flows 0<0
   ·have e:¬ (decide (z03 x.name u.flows 0 ≥ 0))=true:=by simp;omega
    simp only [if_pos hp,if_neg e]
    exact .no
   have e:(decide (z03 x.name u.flows 0 ≥ 0))=true:=by simp;omega
   simp only [if_neg hp,if_pos e]
   cases u.flows[(z03 x.name u.flows 0).toNat]? with
   | none=>exact .no
   | some g=>exact zk7 h (U _) _ _
  by_cases k8:x.kind=8
  ·simp only [k8,z0p];exact zk7 h (hlen _ rfl).symm _ _
  by_cases k9:x.kind=9
  ·simp only [k9,z0p];exact nil_rl h (U _) _
  have out0:∀ c:Bool,((x.outs.length:Int)==0&&c)=true->x.outs=[]:=fun c hc=>by
    simp only [Bool.and_eq_true,beq_iff_eq] at hc
    exact List.eq_nil_of_length_eq_zero oM0
  by_cases k12:x.kind=12
  ·simp only [k12,z0p]
   show PR _ _ _ ((x.outs.length:Int)==0&&w.If&&z10 f.types st x.args w.Yield,st) (w.If&&z01 f.types seen x.args w.Yield&&(x.outs.length:Int)==0,set)
   exact y67 h (by rw [<- U];cases (w.If)<;>cases ((x.outs.length:Int)==0)<;>simp) (fun hb=>by rw [Bool.and_assoc] at hb;exact out0 _ hb)
  by_cases k13:x.kind=13
  ·simp only [k13,z0p]
   show PR _ _ _ ((x.outs.length:Int)==0&&w.Loop&&z10 f.types st x.args w.Next,st) (w.Loop&&z01 f.types seen x.args w.Next&&(x.outs.length:Int)==0,set)
   exact y67 h (by rw [<- U];cases (w.Loop)<;>cases ((x.outs.length:Int)==0)<;>simp) (fun hb=>by rw [Bool.and_assoc] at hb;exact out0 _ hb)
  by_cases k14:x.kind=14
  ·simp only [k14,z0p]
   show PR _ _ _ ((x.outs.length:Int)==0&&w.Loop&&z10 f.types st x.args w.Left,st) (w.Loop&&z01 f.types seen x.args w.Left&&(x.outs.length:Int)==0,set)
   exact y67 h (by rw [<- U];cases (w.Loop)<;>cases ((x.outs.length:Int)==0)<;>simp) (fun hb=>by rw [Bool.and_assoc] at hb;exact out0 _ hb)
  by_cases k15:x.kind=15
  ·simp only [k15,z0p]
   show PR _ _ _ ((x.outs.length:Int)==0&&z10 f.types st x.args [f.ty],st) (z01 f.types seen x.args [f.ty]&&(x.outs.length:Int)==0,set)
   exact y67 h (by rw [<- U];exact Bool.and_comm _ _) (fun hb=>out0 _ hb)
  have e1:(x.kind==1)=false:=by simpa using k1
  have e2:(x.kind==2)=false:=by simpa using k2
  have e3:(x.kind==3)=false:=by simpa using k3
  have e4:(x.kind==4)=false:=by simpa using k4
  have e5:(x.kind==5)=false:=by simpa using k5
  have e6:(x.kind==6)=false:=by simpa using k6
  have e7:(x.kind==7)=false:=by simpa using k7
  have e8:(x.kind==8)=false:=by simpa using k8
  have e9:(x.kind==9)=false:=by simpa using k9
  have e12:(x.kind==12)=false:=by simpa using k12
  have e13:(x.kind==13)=false:=by simpa using k13
  have e14:(x.kind==14)=false:=by simpa using k14
  have e15:(x.kind==15)=false:=by simpa using k15
  have ee:z0p x.kind=false:=by simp [z0p];omega
  simp only [e1,e2,e3,e4,e5,e6,e7,e8,e9,e12,e13,e14,e15,ee,Bool.false_eq_true,if_false,Bool.or_false]
  exact .no
theorem zy4:∀ (l:List Nd) (st:List Int),z6l st l=z3d st (l.flatMap Nd.outs)
  | [],_=>rfl
  | x::r,st=>by
    have:=zy4 r (z3d st x.outs)
    simp only [z6l,List.foldl_cons,List.flatMap_cons,z3d,List.foldl_append] at this ⊢
    exact this
theorem y2e {n:Nat} {st:List Int} {set:List Bool} {all l:List Int} (h:Rl n st set (all++l)) (hl:∀ v∈l,0<=v/\v<n/\all.contains v=false):Rl n (z3d st l) set all:=by
  refine ya9 l st set [] all hl (fun v hv=>?_) h.l1 h.l2 h.s (fun v hv hc=>?_)
  ·obtain ⟨h0,h1,_⟩:=hl v hv
   have hu:=h.u v.toNat oM0
   have hc:(all++l).contains ((v.toNat:Nat):Int)=true:=by
     rw [show ((v.toNat:Nat):Int)=v by omega]
     simp [hv]
   rw [hc] at hu
   have:st.getD v.toNat 0=1:=by simpa using hu.symm
   rw [this];decide
  have hu:=h.u v hv
  rw [List.contains_append,hc,Bool.or_false] at hu
  exact hu
def LR (u:Un) (f:Fl) (l:List Nd):Prop:=∀ (deep:Int) (w:Wh) (st:List Int) (set:List Bool) (seen:List Int),Rl f.types.length st set seen ->
  (z1o u f deep w seen set l).1=(z1g u f deep w st l).1/\((z1g u f deep w st l).1=true->Rl f.types.length (z1g u f deep w st l).2 (z1o u f deep w seen set l).2 seen)
theorem zp0 {n:Nat} {seen outs:List Int} {r:Bool × List Int} {q:Bool × List Bool} {k:List Int->Bool × List Int} {k':List Bool->Bool × List Bool} (h:q.1=r.1) (hk:r.1=true->PR n seen outs (k r.2) (k' q.2)):PR n seen outs (andQ r k) (andT q k'):=by
  unfold andQ andT
  rw [h]
  cases hr:r.1 with
  | false=>exact .no
  | true=>exact hk hr
theorem yi7 {f:Fl} {x:Nd} {st:List Int} {set:List Bool} {seen:List Int} (h:Rl f.types.length st set seen):PR f.types.length seen x.outs (z46 f x st) (z9w f x set):=zk7 h rfl _ _
theorem node_rl (u:Un) (f:Fl) (x:Nd) (ih:∀ q∈x.kids,LR u f q) (deep:Int) (w:Wh) {st:List Int} {set:List Bool} {seen:List Int} (h:Rl f.types.length st set seen) :
    PR f.types.length seen x.outs (z3m u f deep w st x) (z2w u f deep w seen set x):=by
  cases hb:z0z x with
  | false=>rw [zc5 _ _ _ _ _ hb,zb8 _ _ _ _ _ _ hb];exact .no
  | true =>
    by_cases h10:x.kind=10
    ·obtain ⟨a,b,hk⟩:=z36 hb h10
     rw [zu5 _ _ _ _ _ hb h10 hk,zt2 _ _ _ _ _ _ hb h10 hk,y5y h]
     split
     ·obtain ⟨h1,h2⟩:=ih a (by rw [hk];simp) (deep+1) ⟨true,w.Loop,r8of f.types x.outs,w.Next,w.Left⟩ st set seen h
      refine zp0 h1 fun ht=>?_
      obtain ⟨h3,h4⟩:=ih b (by rw [hk];simp) (deep+1) ⟨true,w.Loop,r8of f.types x.outs,w.Next,w.Left⟩ _ _ seen (h2 ht)
      exact zp0 h3 fun ht2=>yi7 (h4 ht2)
     exact .no
    by_cases h11:x.kind=11
    ·obtain ⟨a,hk⟩:=z1t hb h11
     rw [zc6 _ _ _ _ _ hb h11 hk,zb9 _ _ _ _ _ _ hb h11 hk,y5y h]
     split
     ·obtain ⟨h1,h2⟩:=yh2 h x.params (List.replicate x.params.length 0)
      refine zp0 h1 fun ht=>?_
      obtain ⟨h3,h4⟩:=h2 ht
      obtain ⟨h5,h6⟩:=ih a (by rw [hk];simp) (deep+1) ⟨false,true,[],r8of f.types x.params,r8of f.types x.outs⟩ _ _ _ h3
      exact zp0 h5 fun ht2=>yi7 (y2e (h6 ht2) h4)
     exact .no
    have e10:(x.kind==10)=false:=by simpa using h10
    have e11:(x.kind==11)=false:=by simpa using h11
    rw [z7v _ _ _ _ _ _ hb e10 e11]
    have hs:=yh7 u f h x w
    cases he:z0p x.kind with
    | true=>rw [zj9 _ _ _ _ _ hb e10 e11 he];rw [if_pos he] at hs;exact hs
    | false=>rw [z80 _ _ _ _ _ hb e10 e11 he];rw [if_neg (by simp [he])] at hs;exact hs
theorem go_rl (u:Un) (f:Fl) (deep:Int) (w:Wh):∀ (l:List Nd),(∀ x∈l,∀ q∈x.kids,LR u f q)->∀ (st:List Int) (set:List Bool) (all:List Int),Rl f.types.length st set all ->
    PR f.types.length all (l.flatMap Nd.outs) (shGo u f deep w st l) (r8go u f deep w all set l)
  | [],_,st,set,all,h=>by
    unfold shGo r8go
    exact ⟨rfl,fun _=>⟨by simpa using h,fun v hv=>by simp at hv⟩⟩
  | x::r,ih,st,set,all,h=>by
    unfold shGo r8go
    by_cases hd:deep > 100
    ·rw [if_pos hd,if_pos hd];exact .no
    rw [if_neg hd,if_neg hd]
    obtain ⟨h1,h2⟩:=node_rl u f x (ih x (.head _)) deep w h
    refine zp0 h1 fun ht=>?_
    obtain ⟨h3,h4⟩:=h2 ht
    by_cases hc:(z04 x != r.isEmpty)=true
    ·rw [if_pos hc,if_pos hc];exact .no
    rw [if_neg hc,if_neg hc]
    obtain ⟨h5,h6⟩:=go_rl u f deep w r (fun y hy=>ih y (.tail _ hy)) _ _ _ h3
    refine ⟨h5,fun ht2=>?_⟩
    obtain ⟨h7,h8⟩:=h6 ht2
    refine ⟨by simpa using h7,fun v hv=>?_⟩
    rw [List.flatMap_cons,List.mem_append] at hv
    rcases hv with hv | hv
    ·exact h4 v hv
    obtain ⟨g1,g2,g3⟩:=h8 v hv
    rw [List.contains_append,Bool.or_eq_false_iff] at g3
    exact ⟨g1,g2,g3.1⟩
theorem yb8 (u:Un) (f:Fl):∀ (N:Nat) (l:List Nd),SizeOf.sizeOf l<N->LR u f l
  | 0,_,h=>absurd h (Nat.not_lt_zero _)
  | N+1,l,hN=>by
    intro deep w st set seen h
    have ih:∀ x∈l,∀ q∈x.kids,LR u f q:=fun x hx q hq=>yb8 u f N q (Nat.lt_of_lt_of_le (z5l hx rfl hq) (Nat.le_of_lt_succ hN))
    obtain ⟨h1,h2⟩:=go_rl u f deep w l ih st set seen h
    unfold z1o z1g ne andQ
    cases l with
    | nil =>
      simp only [List.isEmpty_nil,if_true]
      unfold shGo
      simp [y3i]
    | cons x r =>
      simp only [List.isEmpty_cons,Bool.false_eq_true,if_false]
      rw [h1]
      cases hg:(shGo u f deep w st (x::r)).1 with
      | false=>simp [hg]
      | true =>
        obtain ⟨h3,h4⟩:=h2 hg
        simp only [if_true,y3i]
        refine ⟨by simp,fun _=>?_⟩
        rw [zy4]
        exact y2e h3 h4
theorem yh6 (u:Un) (f:Fl) (deep:Int) (w:Wh) {st:List Int} {set:List Bool} {seen:List Int} (h:Rl f.types.length st set seen) (l:List Nd):(z1g u f deep w st l).1=(z1o u f deep w seen set l).1 :=
  ((yb8 u f _ l (Nat.lt_succ_self _)) deep w st set seen h).1.symm
theorem start_rl {k n:Nat} (h:k<=n):Rl n (z96 k n) (z3f k n) (iota k):=by
  refine ⟨z97 h,z2z h,fun v hv=>?_,fun v hv=>?_⟩
  ·simp only [z3f,z96,List.getD_eq_getElem?_getD]
   by_cases e:v<k
   ·rw [List.getElem?_append_left (by simpa using e),List.getElem?_append_left (by simpa using e)]
    simp [List.getElem?_replicate,e]
   rw [List.getElem?_append_right (by simpa using e),List.getElem?_append_right (by simpa using e)]
   simp only [List.length_replicate,List.getElem?_replicate]
   rw [if_pos oM0,if_pos oM0]
   rfl
  have hc:(iota k).contains (v:Int)=decide (v<k):=by
    simp only [iota]
    by_cases e:v<k
    ·simp [e]
     exact ⟨v,e,rfl⟩
    simp [e]
    intro x hx;omega
  rw [hc]
  simp only [z96,List.getD_eq_getElem?_getD]
  by_cases e:v<k
  ·rw [List.getElem?_append_left (by simpa using e)]
   simp [List.getElem?_replicate,e]
  rw [List.getElem?_append_right (by simpa using e)]
  simp only [List.length_replicate,List.getElem?_replicate]
  rw [if_pos oM0]
  simp [e]
theorem y64:∀ l:List Int,l.any (fun t=>!isTy t) = !l.all (fun t=>t==1||t==2)
  | []=>rfl
  | t::r=>by rw [List.any_cons,List.all_cons,y64 r,Bool.not_and];rfl
theorem yh4 (u:Un) (f:Fl) (h0:0<=f.params) (h1:f.params<=f.types.length):za3 u f=z2v u f:=by
  unfold za3 z2v
  rw [yh6 u f 1 z1l (start_rl (k:=f.params.toNat) oM0) f.body]
  have e1:decide (f.params<0)=false:=by simp;omega
  have e2:decide (f.params > f.types.length)=false:=by simp;omega
  have e3:=y64 f.types
  rw [e1,e2,e3]
  cases decide (f.params > 8)<;>cases decide ((f.types.length:Int) > 20000)<;>cases f.types.all (fun t=>t==1||t==2)<;>simp
def nmA (l:List Ar):List (List UInt8):=l.map fun a=>a.name.toList
def nmF (l:List Fl):List (List UInt8):=l.map fun a=>a.name.toList
theorem zp1 (nm:ByteArray):∀ (pre l:List Ar) (i:Int),(nm.toList∈nmA pre->i<=z0g nm (pre++l) i/\z0g nm (pre++l) i<i+pre.length)/\(nm.toList∉nmA pre->z0g nm (pre++l) i=z0g nm l (i+pre.length))
  | [],l,i=>by simp [nmA]
  | a::pre,l,i=>by
    obtain ⟨h1,h2⟩:=zp1 nm pre l (i+1)
    rw [List.cons_append,show z0g nm (a::(pre++l)) i=if (a.name.toList==nm.toList)=true then i else z0g nm (pre++l) (i+1) from rfl]
    by_cases e:a.name.toList=nm.toList
    ·have eb:(a.name.toList==nm.toList)=true:=by simpa using e
     rw [if_pos eb]
     refine ⟨fun _=>⟨Int.le_refl _,by simp;omega⟩,fun h=>absurd (by simp [nmA,e]) h⟩
    have eb:¬ (a.name.toList==nm.toList)=true:=by simpa using e
    rw [if_neg eb]
    refine ⟨fun h=>?_,fun h=>?_⟩
    ·have:nm.toList∈nmA pre:=by
       simp only [nmA,List.map_cons,List.mem_cons] at h
       exact h.resolve_left fun h=>e h.symm
     have:=h1 this
     simp only [List.length_cons];omega
    have:nm.toList∉nmA pre:=fun hm=>h (by simp only [nmA,List.map_cons,List.mem_cons];exact .inr hm)
    rw [h2 this]
    congr 1
    simp only [List.length_cons];omega
theorem zb6 (nm:ByteArray):∀ (pre l:List Fl) (i:Int),(nm.toList∈nmF pre->i<=z03 nm (pre++l) i/\z03 nm (pre++l) i<i+pre.length)/\(nm.toList∉nmF pre->z03 nm (pre++l) i=z03 nm l (i+pre.length))
  | [],l,i=>by simp [nmF]
  | a::pre,l,i=>by
    obtain ⟨h1,h2⟩:=zb6 nm pre l (i+1)
    rw [List.cons_append,show z03 nm (a::(pre++l)) i=if (a.name.toList==nm.toList)=true then i else z03 nm (pre++l) (i+1) from rfl]
    by_cases e:a.name.toList=nm.toList
    ·have eb:(a.name.toList==nm.toList)=true:=by simpa using e
     rw [if_pos eb]
     refine ⟨fun _=>⟨Int.le_refl _,by simp;omega⟩,fun h=>absurd (by simp [nmF,e]) h⟩
    have eb:¬ (a.name.toList==nm.toList)=true:=by simpa using e
    rw [if_neg eb]
    refine ⟨fun h=>?_,fun h=>?_⟩
    ·have:nm.toList∈nmF pre:=by
       simp only [nmF,List.map_cons,List.mem_cons] at h
       exact h.resolve_left fun h=>e h.symm
     have:=h1 this
     simp only [List.length_cons];omega
    have:nm.toList∉nmF pre:=fun hm=>h (by simp only [nmF,List.map_cons,List.mem_cons];exact .inr hm)
    rw [h2 this]
    congr 1
    simp only [List.length_cons];omega
theorem yd3 (nm:ByteArray) (l:List Fl):z03 nm l 0 ≥ 0↔nm.toList∈nmF l:=by
  obtain ⟨h1,h2⟩:=zb6 nm l [] 0
  rw [List.append_nil] at h1 h2
  by_cases h:nm.toList∈nmF l
  ·exact ⟨fun _=>h,fun h=>(h1 h).1⟩
  refine ⟨fun h3=>?_,fun h4=>absurd h4 h⟩
  rw [h2 h] at h3
  simp [z03] at h3
theorem array_at (nm:ByteArray) (pre r:List Ar) (a:Ar) (h:a.name.toList=nm.toList):z0g nm (pre++a::r) 0=pre.length↔nm.toList∉nmA pre:=by
  obtain ⟨h1,h2⟩:=zp1 nm pre (a::r) 0
  by_cases e:nm.toList∈nmA pre
  ·have:=h1 e
   exact ⟨fun h=>by omega,fun h=>absurd e h⟩
  refine ⟨fun _=>e,fun _=>?_⟩
  rw [h2 e]
  have eb:(a.name.toList==nm.toList)=true:=by simpa using h
  rw [show z0g nm (a::r) (0+pre.length)=if (a.name.toList==nm.toList)=true then (0+pre.length:Int) else z0g nm r (0+pre.length+1) from rfl,if_pos eb]
  omega
theorem place_at (nm:ByteArray) (pre r:List Fl) (a:Fl) (h:a.name.toList=nm.toList):z03 nm (pre++a::r) 0=pre.length↔nm.toList∉nmF pre:=by
  obtain ⟨h1,h2⟩:=zb6 nm pre (a::r) 0
  by_cases e:nm.toList∈nmF pre
  ·have:=h1 e
   exact ⟨fun h=>by omega,fun h=>absurd e h⟩
  refine ⟨fun _=>e,fun _=>?_⟩
  rw [h2 e]
  have eb:(a.name.toList==nm.toList)=true:=by simpa using h
  rw [show z03 nm (a::r) (0+pre.length)=if (a.name.toList==nm.toList)=true then (0+pre.length:Int) else z03 nm r (0+pre.length+1) from rfl,if_pos eb]
  omega
theorem gA_iff (u:Un):∀ (pre l:List Ar),u.arrays=pre++l->(r8gA u l pre.length=true↔(∀ a∈l,zm6 a=true/\a.name.toList∉nmF u.flows/\a.name.toList∉nmA pre)/\(nmA l).Nodup)
  | pre,[],_=>by simp [r8gA,nmA]
  | pre,a::r,hu=>by
    have ih:=gA_iff u (pre++[a]) r (by simp [hu])
    have hlen:(((pre++[a]).length:Nat):Int)=(pre.length:Int)+1:=by simp
    rw [hlen] at ih
    rw [r8gA,Bool.and_eq_true,ih]
    have ha:gArr u a pre.length=true↔zm6 a=true/\a.name.toList∉nmA pre/\a.name.toList∉nmF u.flows:=by
      have h1:=array_at a.name pre r a rfl
      have h2:=yd3 a.name u.flows
      rw [<- hu] at h1
      unfold gArr zm6
      simp only [Bool.and_eq_true,Bool.not_eq_true',decide_eq_false_iff_not,beq_iff_eq,h1,h2]
      constructor
      ·rintro ⟨⟨⟨⟨a1,a2⟩,a3⟩,a4⟩,a5⟩;exact ⟨⟨⟨a1,a2⟩,a3⟩,a4,a5⟩
      rintro ⟨⟨⟨a1,a2⟩,a3⟩,a4,a5⟩;exact ⟨⟨⟨⟨a1,a2⟩,a3⟩,a4⟩,a5⟩
    rw [ha]
    constructor
    ·rintro ⟨⟨b1,b2,b3⟩,b4,b5⟩
     refine ⟨fun x hx=>?_,?_⟩
     ·rcases List.mem_cons.1 hx with rfl | hx
      ·exact ⟨b1,b3,b2⟩
      obtain ⟨c1,c2,c3⟩:=b4 x hx
      exact ⟨c1,c2,fun h=>c3 (by simp only [nmA,List.map_append,List.mem_append];exact .inl h)⟩
     refine List.nodup_cons.2 ⟨fun h=>?_,b5⟩
     obtain ⟨x,hx,e⟩:=List.mem_map.1 h
     exact (b4 x hx).2.2 (by simp only [nmA,List.map_append,List.mem_append,List.map_cons,List.map_nil,List.mem_singleton];exact .inr e)
    rintro ⟨b1,b2⟩
    have b3:=List.nodup_cons.1 b2
    obtain ⟨c1,c2,c3⟩:=b1 a (.head _)
    refine ⟨⟨c1,c3,c2⟩,fun x hx=>?_,b3.2⟩
    obtain ⟨d1,d2,d3⟩:=b1 x (.tail _ hx)
    refine ⟨d1,d2,fun h=>?_⟩
    simp only [nmA,List.map_append,List.mem_append,List.map_cons,List.map_nil,List.mem_singleton] at h
    rcases h with h | h
    ·exact d3 h
    exact b3.1 (List.mem_map.2 ⟨x,hx,h⟩)
theorem gF_iff (u:Un):∀ (pre l:List Fl),u.flows=pre++l->(r8gF u l pre.length=true↔(∀ a∈l,zf6 a=true/\a.name.toList∉nmF pre)/\(nmF l).Nodup)
  | pre,[],_=>by simp [r8gF,nmF]
  | pre,a::r,hu=>by
    have ih:=gF_iff u (pre++[a]) r (by simp [hu])
    have hlen:(((pre++[a]).length:Nat):Int)=(pre.length:Int)+1:=by simp
    rw [hlen] at ih
    rw [r8gF,Bool.and_eq_true,ih]
    have ha:gFlw u a pre.length=true↔zf6 a=true/\a.name.toList∉nmF pre:=by
      have h1:=place_at a.name pre r a rfl
      rw [<- hu] at h1
      unfold gFlw zf6 isTy
      simp only [Bool.and_eq_true,Bool.not_eq_true',decide_eq_false_iff_not,beq_iff_eq,h1]
      constructor
      ·rintro ⟨⟨⟨⟨a1,a2⟩,a3⟩,a4⟩,a5⟩;exact ⟨⟨⟨⟨a1,a3⟩,a4⟩,a5⟩,a2⟩
      rintro ⟨⟨⟨⟨a1,a3⟩,a4⟩,a5⟩,a2⟩;exact ⟨⟨⟨⟨a1,a2⟩,a3⟩,a4⟩,a5⟩
    rw [ha]
    constructor
    ·rintro ⟨⟨b1,b2⟩,b4,b5⟩
     refine ⟨fun x hx=>?_,?_⟩
     ·rcases List.mem_cons.1 hx with rfl | hx
      ·exact ⟨b1,b2⟩
      obtain ⟨c1,c3⟩:=b4 x hx
      exact ⟨c1,fun h=>c3 (by simp only [nmF,List.map_append,List.mem_append];exact .inl h)⟩
     refine List.nodup_cons.2 ⟨fun h=>?_,b5⟩
     obtain ⟨x,hx,e⟩:=List.mem_map.1 h
     exact (b4 x hx).2 (by simp only [nmF,List.map_append,List.mem_append,List.map_cons,List.map_nil,List.mem_singleton];exact .inr e)
    rintro ⟨b1,b2⟩
    have b3:=List.nodup_cons.1 b2
    obtain ⟨c1,c3⟩:=b1 a (.head _)
    refine ⟨⟨c1,c3⟩,fun x hx=>?_,b3.2⟩
    obtain ⟨d1,d3⟩:=b1 x (.tail _ hx)
    refine ⟨d1,fun h=>?_⟩
    simp only [nmF,List.map_append,List.mem_append,List.map_cons,List.map_nil,List.mem_singleton] at h
    rcases h with h | h
    ·exact d3 h
    exact b3.1 (List.mem_map.2 ⟨x,hx,h⟩)
def z29 (es:List (Value × PV)):List (List UInt8):=es.map fun e=>match e.1 with
  | .string s=>s.toList
  | _=>[]
theorem zr6 (s:ByteArray) (v:PV):∀ (es:List (Value × PV)),Cnt es->(s.toList∈z29 es->z29 (mput (.string s) v es)=z29 es)/\(s.toList∉z29 es->z29 (mput (.string s) v es)=z29 es++[s.toList])
  | [],_=>by simp [z29,mput]
  | (a,p)::r,h=>by
    have ha:=h.1 (a,p) (.head _)
    have hr:Cnt r:=⟨fun e he=>h.1 e (.tail _ he),fun e he=>h.2 e (.tail _ he)⟩
    obtain ⟨h1,h2⟩:=zr6 s v r hr
    cases a with
    | string t =>
      simp only [mput]
      by_cases e:s.toList=t.toList
      ·have eb:keyB (.string s) (.string t)=true:=by simpa [keyB] using e
       rw [if_pos eb]
       exact ⟨fun _=>by simp [z29,e],fun h=>absurd (by simp [z29,e]) h⟩
      have eb:¬ keyB (.string s) (.string t)=true:=by simpa [keyB] using e
      rw [if_neg eb]
      refine ⟨fun h=>?_,fun h=>?_⟩
      ·have:s.toList∈z29 r:=by
         simp only [z29,List.map_cons,List.mem_cons] at h
         exact h.resolve_left e
       have h3:=h1 this
       simp only [z29,List.map_cons] at h3 ⊢
       rw [h3]
      have:s.toList∉z29 r:=fun hm=>h (by simp only [z29,List.map_cons,List.mem_cons];exact .inr hm)
      have h3:=h2 this
      simp only [z29,List.map_cons,List.cons_append] at h3 ⊢
      rw [h3]
    | _=>simp [z2a] at ha
theorem y48 (s:ByteArray) {es:List (Value × PV)} (h:Cnt es):(s.toList∈z29 es->z29 (bump s es)=z29 es)/\(s.toList∉z29 es->z29 (bump s es)=z29 es++[s.toList]):=by
  obtain ⟨n,hn⟩:=h.find (.string s)
  rw [y0a hn]
  exact zr6 s _ es h
def zp7 (es:List (Value × PV)) (l:List ByteArray):List (Value × PV):=l.foldl (fun e s=>bump s e) es
def nmS (l:List ByteArray):List (List UInt8):=l.map ByteArray.toList
theorem zx4:∀ (l:List ByteArray) (es:List (Value × PV)),Cnt es->(z29 (zp7 es l)).length<=(z29 es).length+l.length /\
    ((z29 (zp7 es l)).length=(z29 es).length+l.length↔(∀ s∈l,s.toList∉z29 es)/\(nmS l).Nodup)
  | [],es,_=>by simp [zp7,nmS]
  | s::r,es,h=>by
    obtain ⟨ih1,ih2⟩:=zx4 r (bump s es) (h.bump s)
    obtain ⟨h1,h2⟩:=y48 s h
    show (z29 (zp7 (bump s es) r)).length<=_/\((z29 (zp7 (bump s es) r)).length=_↔_)
    by_cases e:s.toList∈z29 es
    ·rw [h1 e] at ih1
     refine ⟨by simp only [List.length_cons];omega,fun hl=>by simp only [List.length_cons] at hl;omega,fun hb=>absurd e (hb.1 s (.head _))⟩
    have hk:=h2 e
    rw [hk] at ih1 ih2
    simp only [List.length_append,List.length_cons,List.length_nil] at ih1 ih2 ⊢
    refine ⟨by omega,?_⟩
    rw [show (z29 es).length+(r.length+1)=(z29 es).length+(0+1)+r.length by omega,ih2]
    constructor
    ·rintro ⟨b1,b2⟩
     refine ⟨fun x hx=>?_,List.nodup_cons.2 ⟨fun hm=>?_,b2⟩⟩
     ·rcases List.mem_cons.1 hx with rfl | hx
      ·exact e
      exact fun hm=>b1 x hx (List.mem_append.2 (.inl hm))
     obtain ⟨x,hx,he⟩:=List.mem_map.1 hm
     exact b1 x hx (by rw [he];simp)
    rintro ⟨b1,b2⟩
    have b3:=List.nodup_cons.1 b2
    refine ⟨fun x hx hm=>?_,b3.2⟩
    rcases List.mem_append.1 hm with hm | hm
    ·exact b1 x (.tail _ hx) hm
    exact b3.1 (List.mem_map.2 ⟨x,hx,by simpa using hm⟩)
theorem y9m (u:Un):((zx3 (zp6 [] u.arrays) u.flows).length:Int)=u.arrays.length+u.flows.length↔(nmA u.arrays++nmF u.flows).Nodup:=by
  have e:zx3 (zp6 [] u.arrays) u.flows=zp7 [] (u.arrays.map Ar.name++u.flows.map Fl.name):=by
    simp only [zx3,zp6,zp7,List.foldl_append,List.foldl_map]
  have hn:nmS (u.arrays.map Ar.name++u.flows.map Fl.name)=nmA u.arrays++nmF u.flows:=by
    simp only [nmS,nmA,nmF,List.map_append,List.map_map]
    rfl
  obtain ⟨_,h2⟩:=zx4 (u.arrays.map Ar.name++u.flows.map Fl.name) [] .nil
  rw [e]
  simp only [z29,List.length_map,List.length_append,List.length_nil,Nat.zero_add] at h2
  rw [<- hn]
  constructor
  ·intro h;exact (h2.1 oM0).2
  intro h
  have:=h2.2 ⟨fun s _=>by simp,h⟩
  omega
theorem yh5 (u:Un):z6x u=z13 u:=by
  have hA:=gA_iff u [] u.arrays rfl
  have hF:=gF_iff u [] u.flows rfl
  simp only [List.length_nil] at hA hF
  rw [Bool.eq_iff_iff]
  unfold z6x z13
  simp only [Bool.and_eq_true,List.all_eq_true,beq_iff_eq,y9m]
  rw [show ((0:Nat):Int)=0 from rfl] at hA hF
  rw [hA,hF,List.nodup_append]
  constructor
  ·rintro ⟨⟨⟨a1,a2⟩,a3,a4,a5⟩,a6⟩
   exact ⟨⟨⟨fun a ha=>⟨a1 a ha,fun hm=>a5 _ (List.mem_map.2 ⟨a,ha,rfl⟩) _ hm rfl,by simp [nmA]⟩,a3⟩,fun f hf=>⟨a2 f hf,by simp [nmF]⟩,a4⟩,a6⟩
  rintro ⟨⟨⟨a1,a3⟩,a2,a4⟩,a6⟩
  refine ⟨⟨⟨fun a ha=>(a1 a ha).1,fun f hf=>(a2 f hf).1⟩,a3,a4,fun x hx y hy e=>?_⟩,a6⟩
  obtain ⟨a,ha,rfl⟩:=List.mem_map.1 hx
  exact (a1 a ha).2.1 (e ▸ hy)
theorem y03 (u:Un):∀ (l:List Fl) (i:Int),(∀ f∈l,0<=f.params/\f.params<=f.types.length)->z82 u l i=z4p u l i
  | [],_,_=>rfl
  | f::r,i,h=>by
    obtain ⟨h1,h2⟩:=h f (.head _)
    simp only [z82,z4p,yh4 u f h1 h2,y03 u r (i+1) (fun f hf=>h f (.tail _ hf))]
theorem zj8 (u:Un):z4r u=z18 u:=by
  unfold z4r z18
  rw [yh5]
  cases h:z13 u with
  | false=>rfl
  | true=>simp only [if_true];exact y03 u _ _ (z5e h)
section
variable {P:Program} {c:Cx} {R1:Nat->Prop} {o:Oper} {fr:Fr} {hp:Hp} {σ:Heap'} {Q:Exit->Fr->Heap'->Prop}
open Classical in
theorem SC.step1 {k0:Nat} {f:FuncId} {args:List IV} {pre post:List (Nat × HO)} {R:Nat->Prop} {r:IV} {hp:Hp} {ρ:Loc} {w:World} {a:Act} {vs:List Value} (hsc:SC P f args pre R r post)
    (h:All c ρ (look hp) w fr a) (hargs:RepL c.F ρ (look hp) w args vs) (hpre:∀ k o,look (up pre) k=some o->look hp k=some o) (hdom:post.map (·.1)=k0::pre.map (·.1)) (hσ0:look hp k0=none) (hc0:c.σ k0=none) (hfr0:nmFr k0 fr=false) (hhp0:nmHp k0 hp=false)
    (hR:∀ k,c.R k->look (up pre) k=none∨R k) (hr:only (post.map (·.1)) r=true) (hpost:z2u (post.map (·.1)) post=true) :
    Calls P f vs.toArray w fun e w'=>∃ ρ' v,e = .returned v/\All c ρ' (look (up post++hp)) w' fr a/\RepI c.F ρ' (look (up post++hp)) w' r v:=by
  have hp0:look (up pre) k0=none:=by
    cases h0:look (up pre) k0 with
    | none=>rfl
    | some o=>rw [hpre k0 o h0] at hσ0;cases hσ0
  have hd:∀ k,look (up post) k=none↔look (up pre) k=none/\k≠k0:=fun k=>by
    rw [z1d,z1d,hdom,List.mem_cons,not_or]
    exact And.comm
  have hpp:∀ k,look (up post) k≠none->look hp k≠none->look (up pre) k≠none:=fun k e e1 e2=>by
    by_cases e3:k=k0
    ·subst e3;exact e1 hσ0
    exact e ((hd k).2 ⟨e2,e3⟩)
  let ρ1:Loc:=fun k=>if look (up pre) k=none then none else ρ k
  let F1:Nat->Prop:=fun b=>c.F b∨∃ k cc,ρ k=some (b,cc)/\look (up pre) k=none
  have h1in:∀ k,look (up pre) k≠none -> ρ1 k = ρ k:=fun k hk=>if_neg hk
  have h1out:∀ k,look (up pre) k=none -> ρ1 k=none:=fun k hk=>if_pos hk
  have h1:∀ k l,ρ1 k=some l->look (up pre) k≠none /\ ρ k=some l:=fun k l hk=>by
    by_cases e:look (up pre) k=none
    ·rw [h1out k e] at hk;cases hk
    exact ⟨e,(h1in k e) ▸ hk⟩
  have hown1:∀ b,owned F1 ρ1 b->owned c.F ρ b:=fun b hb=>by
    rcases hb with (hb | ⟨k,cc,hk,_⟩) | ⟨k,cc,hk⟩
    ·exact .inl hb
    ·exact .inr ⟨k,cc,hk⟩
    exact .inr ⟨k,cc,(h1 k _ hk).2⟩
  have hconv:∀ x:IV,¬ Names (fun k=>¬ ∀ o,look (up pre) k=some o->look hp k=some o /\ ρ1 k = ρ k) x:=fun x hx=>by
    obtain ⟨k,hk⟩:=hx.some
    exact hk fun o ho=>⟨hpre k o ho,h1in k (by simp [ho])⟩
  have hrel1:RelH F1 ρ1 (look (up pre)) w:=by
    refine ⟨fun k k' b cc cc' hk hk'=>h.rel.inj k k' b cc cc' (h1 _ _ hk).2 (h1 _ _ hk').2,fun k b cc hk hb=>?_,fun b hb=>?_,fun k b cc hk=>?_,fun k o hk hρ=>?_⟩
    ·rcases hb with hb | ⟨k',cc',hk',hn⟩
     ·exact h.rel.apart k b cc (h1 _ _ hk).2 hb
     obtain rfl:=h.rel.inj _ _ _ _ _ (h1 _ _ hk).2 hk'
     exact (h1 _ _ hk).1 hn
    ·rcases hb with hb | ⟨k',cc',hk',_⟩
     ·exact h.rel.old b hb
     exact h.rel.lt hk'
    ·obtain ⟨hne,hk2⟩:=h1 _ _ hk
     obtain ⟨o1,ho1,ho2⟩:=h.rel.obj k b cc hk2
     cases hl:look (up pre) k with
     | none=>exact absurd hl hne
     | some o2 =>
       rw [hpre k o2 hl] at ho1;cases ho1
       exact ⟨_,rfl,ho2.conv hown1 fun x _=>hconv x⟩
    rw [h1in k (by simp [hk])] at hρ
    exact h.rel.real k o (hpre k o hk) hρ
  refine (hsc F1 ρ1 w vs hrel1 ⟨hargs.1,fun j x hj=>?_⟩).mono ?_
  ·obtain ⟨v,hv,hx⟩:=hargs.2 j x hj
   exact ⟨v,hv,hx.conv hown1 (hconv x)⟩
  rintro e w' ⟨ρ2,v,rfl,hv,hrel2,t⟩
  let ρ':Loc:=fun k=>if look (up post) k=none then ρ k else ρ2 k
  have h2in:∀ k,look (up post) k≠none -> ρ' k = ρ2 k:=fun k hk=>if_neg hk
  have h2out:∀ k,look (up post) k=none -> ρ' k = ρ k:=fun k hk=>if_pos hk
  have h2none:∀ k,look (up post) k=none -> ρ2 k=none:=fun k hk=>by
    cases h3:ρ2 k with
    | none=>rfl
    | some l =>
      obtain ⟨o1,ho1,_⟩:=hrel2.obj k l.1 l.2 h3
      rw [hk] at ho1;cases ho1
  have hσin:∀ k,look (up post) k≠none->look (up post++hp) k=look (up post) k:=fun k hk=>by
    rw [z2b]
    cases h3:look (up post) k with
    | none=>exact absurd h3 hk
    | some o=>rfl
  have hσout:∀ k,look (up post) k=none->look (up post++hp) k=look hp k:=fun k hk=>by
    rw [z2b,hk];rfl
  have hown2:∀ b,owned c.F ρ' b->owned F1 ρ2 b:=fun b hb=>by
    rcases hb with hb | ⟨k,cc,hk⟩
    ·exact .inl (.inl hb)
    by_cases e:look (up post) k=none
    ·rw [h2out k e] at hk;exact .inl (.inr ⟨k,cc,hk,((hd k).1 e).1⟩)
    rw [h2in k e] at hk;exact .inr ⟨k,cc,hk⟩
  have hconv2:∀ x:IV,only (post.map (·.1)) x=true -> ¬ Names (fun k=>¬ ∀ o,look (up post++hp) k=some o->look (up post) k=some o /\ ρ' k = ρ2 k) x:=fun x hx hn=>by
    refine zj0 hx (hn.imp fun k hk hmem=>hk fun o ho=>?_)
    have hne:look (up post) k≠none:=fun e=>(z1d.1 e) hmem
    rw [hσin k hne] at ho
    exact ⟨ho,h2in k hne⟩
  have T:Trans c.F (fun k=>look (up pre) k=none∨R k) ρ (look hp) w ρ' (look (up post++hp)) w':=by
    refine ⟨t.os,t.tape,t.output,t.size,fun b hb hall=>t.blk b hb fun k cc hk=>?_,fun k b cc hk hb=>?_,fun k cs cs' e1 e2=>?_,fun k cs cs' e1 e2=>?_,fun k s s' els els' e1 e2 hl=>?_,fun k s s' els els' e1 e2=>?_,fun k cs' e2=>?_,fun k cs' e2=>?_,fun k s els' e2=>?_⟩
    ·obtain ⟨hne,hk2⟩:=h1 _ _ hk
     exact (hall k cc hk2).resolve_left hne
    ·by_cases e:look (up post) k=none
     ·rwa [h2out k e] at hk
     rw [h2in k e] at hk;exact (h1 _ _ (t.own k b cc hk hb)).2
    all_goals by_cases e:look (up post) k=none
    ·exact h2out k e
    ·cases h3:look (up pre) k with
     | none=>exact absurd h3 (hpp k e (by simp [e1]))
     | some o =>
       rw [hpre k o h3] at e1;cases e1
       rw [hσin k e] at e2
       rw [h2in k e,t.box k _ _ h3 e2,h1in k (by simp [h3])]
    ·exact h2out k e
    ·cases h3:look (up pre) k with
     | none=>exact absurd h3 (hpp k e (by simp [e1]))
     | some o =>
       rw [hpre k o h3] at e1;cases e1
       rw [hσin k e] at e2
       rw [h2in k e,t.map k _ _ h3 e2,h1in k (by simp [h3])]
    ·exact h2out k e
    ·cases h3:look (up pre) k with
     | none=>exact absurd h3 (hpp k e (by simp [e1]))
     | some o =>
       rw [hpre k o h3] at e1;cases e1
       rw [hσin k e] at e2
       rw [h2in k e,t.row k _ _ _ _ h3 e2 hl,h1in k (by simp [h3])]
    ·rw [hσout k e,e1] at e2;cases e2;exact Nat.le_refl _
    ·cases h3:look (up pre) k with
     | none=>exact absurd h3 (hpp k e (by simp [e1]))
     | some o =>
       rw [hpre k o h3] at e1;cases e1
       rw [hσin k e] at e2
       exact t.grow k _ _ _ _ h3 e2
    ·rw [hσout k e] at e2;exact .inr ⟨_,e2⟩
    ·rw [hσin k e] at e2
     rcases t.kindB k _ e2 with h3 | ⟨cs,h3⟩
     ·by_cases e3:k=k0
      ·subst e3;exact .inl hσ0
      exact absurd ((hd k).2 ⟨h3,e3⟩) e
     exact .inr ⟨cs,hpre k _ h3⟩
    ·rw [hσout k e] at e2;exact .inr ⟨_,e2⟩
    ·rw [hσin k e] at e2
     rcases t.kindM k _ e2 with h3 | ⟨cs,h3⟩
     ·by_cases e3:k=k0
      ·subst e3;exact .inl hσ0
      exact absurd ((hd k).2 ⟨h3,e3⟩) e
     exact .inr ⟨cs,hpre k _ h3⟩
    ·rw [hσout k e] at e2;exact .inr ⟨_,e2⟩
    rw [hσin k e] at e2
    rcases t.kindR k _ _ e2 with h3 | ⟨cs,h3⟩
    ·by_cases e3:k=k0
     ·subst e3;exact .inl hσ0
     exact absurd ((hd k).2 ⟨h3,e3⟩) e
    exact .inr ⟨cs,hpre k _ h3⟩
  have hnone:∀ k,(look hp k=none/\look (up post++hp) k≠none)->k=k0:=fun k hk=>by
    by_cases e:look (up post) k=none
    ·rw [hσout k e] at hk;exact absurd hk.1 hk.2
    refine Classical.byContradiction fun e3=>?_
    have e4:look (up pre) k≠none:=fun h3=>e ((hd k).2 ⟨h3,e3⟩)
    cases h3:look (up pre) k with
    | none=>exact e4 h3
    | some o=>rw [hpre k o h3] at hk;cases hk.1
  have hnn:∀ x:IV,nm k0 x=false -> ¬ Names (fun k=>look hp k=none/\look (up post++hp) k≠none) x:=fun x hx hn=>by
    rw [zo0 (hn.imp hnone)] at hx;cases hx
  refine ⟨ρ',v,rfl,h.step T hR ⟨fun k k' b cc cc' hk hk'=>?_,fun k b cc hk hb=>?_,fun b hb=>Nat.lt_of_lt_of_le (h.rel.old b hb) t.size,fun k b cc hk=>?_,fun k o hk hρ=>?_⟩ (fun k e1 e2=>hnone k ⟨e1,e2⟩ ▸ hc0) fun _ x hx=>hnn x (ze7 hfr0 hx),hv.conv hown2 (hconv2 r hr)⟩
  ·by_cases e:look (up post) k=none<;>by_cases e':look (up post) k'=none
   ·rw [h2out k e] at hk;rw [h2out k' e'] at hk';exact h.rel.inj _ _ _ _ _ hk hk'
   ·rw [h2out k e] at hk;rw [h2in k' e'] at hk'
    exact absurd (.inr ⟨k,cc,hk,((hd k).1 e).1⟩) (hrel2.apart _ _ _ hk')
   ·rw [h2in k e] at hk;rw [h2out k' e'] at hk'
    exact absurd (.inr ⟨k',cc',hk',((hd k').1 e').1⟩) (hrel2.apart _ _ _ hk)
   rw [h2in k e] at hk;rw [h2in k' e'] at hk';exact hrel2.inj _ _ _ _ _ hk hk'
  ·by_cases e:look (up post) k=none
   ·rw [h2out k e] at hk;exact h.rel.apart _ _ _ hk hb
   rw [h2in k e] at hk;exact hrel2.apart _ _ _ hk (.inl hb)
  ·by_cases e:look (up post) k=none
   ·rw [h2out k e] at hk
    obtain ⟨o1,ho1,ho2⟩:=h.rel.obj k b cc hk
    refine ⟨o1,(hσout k e).trans ho1,ho2.keep T (t.blk b (h.rel.lt hk) fun k' cc' hk'=>?_) fun x ⟨cs,h3,h4⟩=>hnn x (by subst h3;exact z5d (z8t hhp0 ho1) h4)⟩
    obtain ⟨hne,hk2⟩:=h1 _ _ hk'
    obtain rfl:=h.rel.inj _ _ _ _ _ hk hk2
    exact absurd ((hd _).1 e).1 hne
   rw [h2in k e] at hk
   obtain ⟨o1,ho1,ho2⟩:=hrel2.obj k b cc hk
   refine ⟨o1,(hσin k e).trans ho1,ho2.conv hown2 fun x ⟨cs,h3,h4⟩=>hconv2 x ?_⟩
   subst h3
   exact z59 (z60 hpost (z15 ho1)) h4
  by_cases e:look (up post) k=none
  ·rw [hσout k e] at hk;rw [h2out k e] at hρ;exact h.rel.real k o hk hρ
  rw [hσin k e] at hk;rw [h2in k e] at hρ;exact hrel2.real k o hk hρ
theorem ok_calln {k0:Nat} {f:FuncId} {os:Array Operand} {tys:Array TypeId} {xs args:List IV} {pre post:List (Nat × HO)} {R:Nat->Prop} {r:IV} {hp:Hp} (hsc:SC P f args pre R r post) (hf:z0d P f)
    (ho:o.op = .call { callee:=.value (.func f),args:=os,argTypes:=tys }) (hx:evs fr os.toList=some xs) (hs:Subs (look hp) xs args) (hpre:∀ k o,look (up pre) k=some o->look hp k=some o) (hdom:post.map (·.1)=k0::pre.map (·.1)) (hσ0:look hp k0=none) (hc0:c.σ k0=none) (hfr0:nmFr k0 fr=false) (hhp0:nmHp k0 hp=false)
    (hR:∀ k,c.R k->look (up pre) k=none∨R k) (hr:only (post.map (·.1)) r=true) (hpost:z2u (post.map (·.1)) post=true):Ok P c o fr (look hp) r (look (up post++hp)):=by
  intro ρ w a K Q h hK
  obtain ⟨fn,hfn,hname,hbody⟩:=hf
  have hargs:=hs _ _ _ _ (z8j h hx)
  have hrun:(execOp a.eval o).run P w = .ok (.enter f (os.toList.map a.eval).toArray) w:=by
    have hcall:(callFunc f (os.toList.map a.eval).toArray).run P w = .ok (.enter f (os.toList.map a.eval).toArray) w:=by
      unfold callFunc
      simp only [Sem.run_bind]
      show (Result.andThen (.ok P w) _)=_
      simp only [Result.andThen_ok,hfn,hname,hbody]
      rfl
    simp only [execOp,ho,resolve,Act.eval,Deferred.ofValue,Sem.run_bind,Sem.run_pure,Result.andThen_ok,invoke]
    rw [<- hcall]
    congr 2
    apply Array.ext'
    simp
  unfold Oper.wp
  rw [hrun,Oper.upon_enter]
  refine (hsc.step1 h hargs hpre hdom hσ0 hc0 hfr0 hhp0 hR hr hpost).mono ?_
  rintro e w' ⟨ρ',v,rfl,h1,h2⟩
  exact hK ρ' w' v h1 h2
theorem y7t {t e:TypeId} {x:Operand} (ho:o.op = .call { callee:=.builtin .cap,args:=#[x],argTypes:=#[t] }) (hx:fr.ev x=some (.pv (.val (.slice none 0 0)))) (hu:P.underlying t=some (.slice e)):OkV P c R1 o fr σ (iInt 0):=by
  intro ρ w a h
  refine ⟨.int .i64 0,fun w2 _=>?_,z32 _⟩
  simp [execOp,ho,z0w h hx,resolve,Sem.run_bind,invoke,builtin,Builtin.cap_,run_underlying hu,goInt]
theorem Sub.cons2 {fr':Fr} {d:Nat} {x y:IV} (hx:∀ F ρ w v,RepI F ρ σ w x v->RepI F ρ σ w y v) (h:Sub σ fr fr'):Sub σ ((d,x)::fr) ((d,y)::fr'):=by
  intro t z hz
  simp only [Fr.get] at hz ⊢
  cases hb:Nat.beq d t with
  | true=>rw [hb] at hz;cases hz;exact ⟨_,rfl,hx⟩
  | false=>rw [hb] at hz;exact h t z hz
theorem Sub.rfl':Sub σ fr fr:=fun _ y hy=>⟨y,hy,fun _ _ _ _ h=>h⟩
theorem All.freezeCell {ρ:Loc} {w:World} {a:Act} {k k2 j n:Nat} {s:RT} {els:List (List PV)} {cs:List IV} (h:All c ρ (look hp) w fr a) (hk:look hp k=some (.row s els)) (hn:els.length=n) (hk2:look hp k2=some (.box cs)) (hj:cs[j]? = some (.sl k n)) (hne:k≠k2) :
    All c (z1r ρ k none) (look ((k2,some (.box (cs.set j (.pv (.seq els)))))::(k,none)::hp)) w fr a:=by
  have h':=h.drop (k:=k)
  have hown:∀ b,owned c.F (z1r ρ k none) b->owned c.F ρ b:=fun b hb=>by
    rcases hb with hb | ⟨i,cc,hi⟩
    ·exact .inl hb
    by_cases e:i=k
    ·subst e;rw [z0f] at hi;cases hi
    rw [z3j (Ne.symm e)] at hi;exact .inr ⟨i,cc,hi⟩
  have hlk:∀ i,i≠k2->look ((k2,some (.box (cs.set j (.pv (.seq els)))))::(k,none)::hp) i=look ((k,none)::hp) i:=fun i hi=>z2p (Ne.symm hi)
  have hlk2:look ((k2,some (.box (cs.set j (.pv (.seq els)))))::(k,none)::hp) k2=some (.box (cs.set j (.pv (.seq els)))):=z38
  have hk2':look ((k,none)::hp) k2=some (.box cs):=y4n hne hk2
  have hnew:∀ v,RepI c.F ρ (look hp) w (.sl k n) v->RepP (owned c.F (z1r ρ k none)) w (.seq els) v:=by
    intro v hv
    cases hv with
    | sl _ _ _ hv =>
      obtain ⟨_,h2⟩:=hv s els hk
      rcases h2 hn with ⟨b,cc,hρ,rfl⟩ | ⟨_,hz,rfl⟩
      ·obtain ⟨o1,h3,h4⟩:=h.rel.obj k b cc hρ
       rw [hk] at h3;cases h3
       cases h4 with
       | row _ _ r u h3 hs hl hm hwe hcells hu =>
         rw [<- hn]
         refine .seq els _ cc b 0 u (fun _=>rfl) (fun _=>⟨fun ho=>?_,h.rel.lt hρ⟩) oM0 hm (fun i el hi q x hq=>?_) fun i el hi q x hq=>(hu i el hi q x hq).own hown
         ·rcases ho with ho | ⟨i,cc',hi⟩
          ·exact h.rel.apart _ _ _ hρ ho
          by_cases e:i=k
          ·subst e;rw [z0f] at hi;cases hi
          rw [z3j (Ne.symm e)] at hi;exact e (h.rel.inj _ _ _ _ _ hi hρ)
         rw [z4l h3,Nat.zero_add,hwe el (List.mem_of_getElem? hi)]
         exact hcells i el hi q x hq
      have hnil:els=[]:=List.eq_nil_of_length_eq_zero oM0
      subst hnil
      exact .seq [] none 0 0 0 (fun _ _=>undef) sI0 sI0 sI0 (by simp [maxLen]) sI0 sI0
  have hconv:∀ x v,RepI c.F (z1r ρ k none) (look ((k,none)::hp)) w x v->RepI c.F (z1r ρ k none) (look ((k2,some (.box (cs.set j (.pv (.seq els)))))::(k,none)::hp)) w x v:=by
    intro x v hx
    induction hx with
    | pv p v hp=>exact .pv p v hp
    | ptr i off v hi =>
      refine .ptr i off v fun cs' h2=>?_
      by_cases e:i=k2
      ·subst e;exact hi _ hk2'
      rw [hlk i e] at h2;exact hi _ h2
    | sl i len v hi =>
      refine .sl i len v fun s' els' h2=>?_
      by_cases e:i=k2
      ·subst e;rw [hlk2] at h2;cases h2
      rw [hlk i e] at h2;exact hi _ _ h2
    | rpt i len off v hi =>
      refine .rpt i len off v fun s' els' h2=>?_
      by_cases e:i=k2
      ·subst e;rw [hlk2] at h2;cases h2
      rw [hlk i e] at h2;exact hi _ _ h2
    | bs i n v hi =>
      refine .bs i n v fun cs' h2=>?_
      by_cases e:i=k2
      ·subst e;exact hi _ hk2'
      rw [hlk i e] at h2;exact hi _ h2
    | mp i v hi =>
      refine .mp i v fun es h2=>?_
      by_cases e:i=k2
      ·subst e;rw [hlk2] at h2;cases h2
      rw [hlk i e] at h2;exact hi _ h2
    | agg cs vs u hl hv _ ih=>exact .agg cs vs u hl hv ih
    | tup cs vs u hl hv _ ih=>exact .tup cs vs u hl hv ih
    | fn f xs ys vs ws u t hl hv _ hl' hv' _ ih ih'=>exact .fn f xs ys vs ws u t hl hv ih hl' hv' ih'
  refine ⟨⟨h'.rel.inj,h'.rel.apart,h'.rel.old,fun i b cc hi=>?_,fun i o h1 h2=>?_⟩,fun t x hx=>?_,?_,h'.df,h'.sz⟩
  ·obtain ⟨o1,h1,h2⟩:=h'.rel.obj i b cc hi
   by_cases e:i=k2
   ·subst e
    rw [hk2'] at h1;cases h1
    refine ⟨_,hlk2,?_⟩
    have hρi:ρ i=some (b,cc):=by rwa [z3j hne] at hi
    obtain ⟨o3,h3,h4⟩:=h.rel.obj i b cc hρi
    rw [hk2] at h3;cases h3
    cases h2 with
    | box _ e' r u h5 hl hv hr =>
      cases h4 with
      | box _ e2 r2 u2 h6 hl2 hv2 hr2 =>
        rw [h5] at h6;cases h6
        refine .box _ e' r u h5 (by simpa using hl) (fun q x hq=>?_) fun q x hq=>?_
        ·by_cases eq:q=j
         ·subst eq
          exact hv q _ hj
         rw [List.getElem?_set_ne (Ne.symm eq)] at hq;exact hv q x hq
        by_cases eq:q=j
        ·subst eq
         have hlt:q<cs.length:=(List.getElem?_eq_some_iff.1 hj).1
         rw [List.getElem?_set_self hlt] at hq;cases hq
         have e3:u q=u2 q:=by
           have a1:=hv q _ hj;have a2:=hv2 q _ hj
           rw [a1] at a2;exact Option.some.inj a2
         rw [e3]
         exact .pv _ _ (hnew _ (hr2 q _ hj))
        rw [List.getElem?_set_ne (Ne.symm eq)] at hq;exact hconv _ _ (hr q x hq)
   refine ⟨o1,(hlk i e).trans h1,?_⟩
   cases h2 with
   | box cs' e' r u h hl hv hr=>exact .box cs' e' r u h hl hv fun q x hq=>hconv _ _ (hr q x hq)
   | row s' els' r u h hs hl hm hw hv hr=>exact .row s' els' r u h hs hl hm hw hv hr
   | map es r t u h hl hv hr=>exact .map es r t u h hl hv hr
  ·by_cases e:i=k2
   ·subst e
    rw [z3j hne] at h2
    obtain ⟨s',h3⟩:=h.rel.real i _ hk2 h2
    cases h3
   rw [hlk i e] at h1;exact h'.rel.real i o h1 h2
  ·obtain ⟨v,hv,hr⟩:=h'.fr t x hx
   exact ⟨v,hv,hconv _ _ hr⟩
  have t:=h'.tr
  refine ⟨t.os,t.tape,t.output,t.size,t.blk,t.own,fun i a1 a2 e1 e2=>?_,fun i a1 a2 e1 e2=>?_,fun i s1 s2 a1 a2 e1 e2 hl=>?_,fun i s1 s2 a1 a2 e1 e2=>?_,fun i a2 e2=>?_,fun i a2 e2=>?_,fun i s1 a2 e2=>?_⟩
  all_goals by_cases e:i=k2
  ·subst e;exact t.box i _ _ e1 hk2'
  ·rw [hlk i e] at e2;exact t.box i _ _ e1 e2
  ·subst e;rw [hlk2] at e2;cases e2
  ·rw [hlk i e] at e2;exact t.map i _ _ e1 e2
  ·subst e;rw [hlk2] at e2;cases e2
  ·rw [hlk i e] at e2;exact t.row i _ _ _ _ e1 e2 hl
  ·subst e;rw [hlk2] at e2;cases e2
  ·rw [hlk i e] at e2;exact t.grow i _ _ _ _ e1 e2
  ·subst e;exact t.kindB i _ hk2'
  ·rw [hlk i e] at e2;exact t.kindB i _ e2
  ·subst e;rw [hlk2] at e2;cases e2
  ·rw [hlk i e] at e2;exact t.kindM i _ e2
  ·subst e;rw [hlk2] at e2;cases e2
  rw [hlk i e] at e2;exact t.kindR i _ _ e2
theorem Tr.freezeCell {x:Code} {k k2 j n:Nat} {s:RT} {els:List (List PV)} {cs:List IV} (hk:look hp k=some (.row s els)) (hn:els.length=n) (hk2:look hp k2=some (.box cs)) (hj:cs[j]? = some (.sl k n)) (hne:k≠k2)
    (h:Tr P c x fr (look ((k2,some (.box (cs.set j (.pv (.seq els)))))::(k,none)::hp)) Q):Tr P c x fr (look hp) Q:=fun _ w a ha=>h _ w a (ha.freezeCell hk hn hk2 hj hne)
theorem SC.sameR {f:FuncId} {args:List IV} {pre post:List (Nat × HO)} {R R':Nat->Prop} {r:IV} (h:SC P f args pre R r post) (hR:∀ k,look (up pre) k≠none->R' k->R k):SC P f args pre R' r post:=by
  intro F ρ w vs hrel hargs
  refine (h F ρ w vs hrel hargs).mono ?_
  rintro e w' ⟨ρ',v,he,hv,hrel',t⟩
  refine ⟨ρ',v,he,hv,hrel',{ t with blk:=fun b hb hall=>t.blk b hb fun k cc hk=>hR k ?_ (hall k cc hk) }⟩
  obtain ⟨o,ho,_⟩:=hrel.obj k b cc hk
  rw [ho];simp
theorem Tr.growCell {x:Code} {k k2 j:Nat} {cs:List IV} (s:RT) (hk2:look hp k2=some (.box cs)) (hj:cs[j]? = some (.pv (.val (.slice none 0 0)))) (hσ:look hp k=none) (hc:c.σ k=none) (hfr:nmFr k fr=false) (hhp:nmHp k hp=false)
    (h:Tr P c x fr (look ((k2,some (.box (cs.set j (.sl k 0))))::(k,some (.row s []))::hp)) Q):Tr P c x fr (look hp) Q:=by
  intro ρ w a ha
  obtain ⟨hk,h'⟩:=ha.ghost hσ hc hfr hhp s
  refine h ρ w a ?_
  have hne:k≠k2:=fun e=>by subst e;rw [hσ] at hk2;cases hk2
  have hk2':look ((k,some (.row s []))::hp) k2=some (.box cs):=y4n hne hk2
  have hlk:∀ i,i≠k2->look ((k2,some (.box (cs.set j (.sl k 0))))::(k,some (.row s []))::hp) i=look ((k,some (.row s []))::hp) i:=fun i hi=>z2p (Ne.symm hi)
  have hlk2:look ((k2,some (.box (cs.set j (.sl k 0))))::(k,some (.row s []))::hp) k2=some (.box (cs.set j (.sl k 0))):=z38
  have hconv:∀ x v,RepI c.F ρ (look ((k,some (.row s []))::hp)) w x v->RepI c.F ρ (look ((k2,some (.box (cs.set j (.sl k 0))))::(k,some (.row s []))::hp)) w x v:=by
    intro x v hx
    induction hx with
    | pv p v hp=>exact .pv p v hp
    | ptr i off v hi =>
      refine .ptr i off v fun cs' h2=>?_
      by_cases e:i=k2
      ·subst e;exact hi _ hk2'
      rw [hlk i e] at h2;exact hi _ h2
    | sl i len v hi =>
      refine .sl i len v fun s' els' h2=>?_
      by_cases e:i=k2
      ·subst e;rw [hlk2] at h2;cases h2
      rw [hlk i e] at h2;exact hi _ _ h2
    | rpt i len off v hi =>
      refine .rpt i len off v fun s' els' h2=>?_
      by_cases e:i=k2
      ·subst e;rw [hlk2] at h2;cases h2
      rw [hlk i e] at h2;exact hi _ _ h2
    | bs i n v hi =>
      refine .bs i n v fun cs' h2=>?_
      by_cases e:i=k2
      ·subst e;exact hi _ hk2'
      rw [hlk i e] at h2;exact hi _ h2
    | mp i v hi =>
      refine .mp i v fun es h2=>?_
      by_cases e:i=k2
      ·subst e;rw [hlk2] at h2;cases h2
      rw [hlk i e] at h2;exact hi _ h2
    | agg cs vs u hl hv _ ih=>exact .agg cs vs u hl hv ih
    | tup cs vs u hl hv _ ih=>exact .tup cs vs u hl hv ih
    | fn f xs ys vs ws u t hl hv _ hl' hv' _ ih ih'=>exact .fn f xs ys vs ws u t hl hv ih hl' hv' ih'
  refine ⟨⟨h'.rel.inj,h'.rel.apart,h'.rel.old,fun i b cc hi=>?_,fun i o h1 h2=>?_⟩,fun t x hx=>?_,?_,h'.df,h'.sz⟩
  ·obtain ⟨o1,h1,h2⟩:=h'.rel.obj i b cc hi
   by_cases e:i=k2
   ·subst e
    rw [hk2'] at h1;cases h1
    refine ⟨_,hlk2,?_⟩
    cases h2 with
    | box _ e' r u h5 hl hv hr =>
      refine .box _ e' r u h5 (by simpa using hl) (fun q x hq=>?_) fun q x hq=>?_
      ·by_cases eq:q=j
       ·subst eq;exact hv q _ hj
       rw [List.getElem?_set_ne (Ne.symm eq)] at hq;exact hv q x hq
      by_cases eq:q=j
      ·subst eq
       have hlt:q<cs.length:=(List.getElem?_eq_some_iff.1 hj).1
       rw [List.getElem?_set_self hlt] at hq;cases hq
       have hnil:=(hr q _ hj).val
       rw [hnil]
       refine .sl _ _ _ fun s1 els1 h1=>?_
       rw [hlk _ hne,z38] at h1
       cases h1
       exact ⟨Nat.zero_le _,fun _=>.inr ⟨hk,rfl,rfl⟩⟩
      rw [List.getElem?_set_ne (Ne.symm eq)] at hq;exact hconv _ _ (hr q x hq)
   refine ⟨o1,(hlk i e).trans h1,?_⟩
   cases h2 with
   | box cs' e' r u h hl hv hr=>exact .box cs' e' r u h hl hv fun q x hq=>hconv _ _ (hr q x hq)
   | row s' els' r u h hs hl hm hw hv hr=>exact .row s' els' r u h hs hl hm hw hv hr
   | map es r t u h hl hv hr=>exact .map es r t u h hl hv hr
  ·by_cases e:i=k2
   ·subst e
    obtain ⟨s',h3⟩:=h'.rel.real i _ hk2' h2
    cases h3
   rw [hlk i e] at h1;exact h'.rel.real i o h1 h2
  ·obtain ⟨v,hv,hr⟩:=h'.fr t x hx
   exact ⟨v,hv,hconv _ _ hr⟩
  have t:=h'.tr
  refine ⟨t.os,t.tape,t.output,t.size,t.blk,t.own,fun i a1 a2 e1 e2=>?_,fun i a1 a2 e1 e2=>?_,fun i s1 s2 a1 a2 e1 e2 hl=>?_,fun i s1 s2 a1 a2 e1 e2=>?_,fun i a2 e2=>?_,fun i a2 e2=>?_,fun i s1 a2 e2=>?_⟩
  all_goals by_cases e:i=k2
  ·subst e;exact t.box i _ _ e1 hk2'
  ·rw [hlk i e] at e2;exact t.box i _ _ e1 e2
  ·subst e;rw [hlk2] at e2;cases e2
  ·rw [hlk i e] at e2;exact t.map i _ _ e1 e2
  ·subst e;rw [hlk2] at e2;cases e2
  ·rw [hlk i e] at e2;exact t.row i _ _ _ _ e1 e2 hl
  ·subst e;rw [hlk2] at e2;cases e2
  ·rw [hlk i e] at e2;exact t.grow i _ _ _ _ e1 e2
  ·subst e;exact t.kindB i _ hk2'
  ·rw [hlk i e] at e2;exact t.kindB i _ e2
  ·subst e;rw [hlk2] at e2;cases e2
  ·rw [hlk i e] at e2;exact t.kindM i _ e2
  ·subst e;rw [hlk2] at e2;cases e2
  rw [hlk i e] at e2;exact t.kindR i _ _ e2
theorem tup2_sub {F:Nat->Prop} {ρ:Loc} {w:World} {x x' y:IV} {v:Value} (hx:∀ v,RepI F ρ σ w x v->RepI F ρ σ w x' v) (h:RepI F ρ σ w (.tup [x,y]) v):RepI F ρ σ w (.tup [x',y]) v:=by
  cases h with
  | tup _ vs u hl hv hr =>
    refine .tup _ vs u hl (fun j z hj=>?_) fun j z hj=>?_
    ·match j,hj with
     | 0,_=>exact hv 0 x rfl
     | 1,hj=>exact hv 1 y rfl
     | j+2,hj=>simp at hj
    match j,hj with
    | 0,hj=>cases hj;exact hx _ (hr 0 x rfl)
    | 1,hj=>cases hj;exact hr 1 y rfl
    | j+2,hj=>simp at hj
end
theorem Nd.enc_len (x:Nd):x.enc.length=8:=by rw [Nd.enc_eq,Nd.cells_eta];rfl
theorem Nd.enc_one (x:Nd):∀ y∈x.enc,y.one=true:=by
  rw [Nd.enc_eq,Nd.cells_eta]
  intro y hy
  simp only [List.mem_cons,List.not_mem_nil,or_false] at hy
  rcases hy with rfl | rfl | rfl | rfl | rfl | rfl | rfl | rfl<;>rfl
theorem hw_node {l:List Nd}:∀ el∈l.map Nd.enc,el.length=8:=by
  intro el hel
  obtain ⟨x,_,rfl⟩:=List.mem_map.1 hel
  exact x.enc_len
theorem yb0 {l:List Nd}:∀ el∈l.map Nd.enc,∀ x∈el,x.one=true:=by
  intro el hel
  obtain ⟨x,_,rfl⟩:=List.mem_map.1 hel
  exact x.enc_one
def z0v (x:Nd):Bool:=x.kind==1||x.kind==2||x.kind==3||(x.kind==4&&x.op != 4&&x.op != 5)
def vKey (v:Int):Value:=.int .i64 v
def vsOf (l:List Int):List (Value × PV):=l.foldl (fun e v=>mput (vKey v) (.agg []) e) []
def VSet (es:List (Value × PV)):Prop:=(∀ e∈es,z2a (.int .i64) e.1=true)/\∀ e∈es,e.2 = .agg []
theorem VSet.nil:VSet []:=⟨fun _ h=>by simp at h,fun _ h=>by simp at h⟩
theorem VSet.put {es:List (Value × PV)} (h:VSet es) (v:Int):VSet (mput (vKey v) (.agg []) es):=by
  refine ⟨fun e he=>?_,fun e he=>?_⟩
  ·rcases ze4 he with rfl | he
   ·rfl
   exact h.1 e he
  rcases ze4 he with rfl | he
  ·rfl
  exact h.2 e he
theorem yl5 (l:List Int) (v:Int):mput (vKey v) (.agg []) (vsOf l)=vsOf (l++[v]):=by simp [vsOf]
theorem VSet.of (l:List Int):VSet (vsOf l):=by
  have key:∀ (l:List Int) (es:List (Value × PV)),VSet es->VSet (l.foldl (fun e v=>mput (vKey v) (.agg []) e) es):=by
    intro l
    induction l with
    | nil=>exact fun _ h=>h
    | cons v r ih=>exact fun es h=>ih _ (h.put v)
  exact key l [] .nil
theorem y2o (k k':Int) (p:PV):∀ (es:List (Value × PV)),VSet es->z3a (vKey k) (mput (vKey k') p es)=if k=k' then some p else z3a (vKey k) es
  | [],_=>by
    simp only [mput,z3a]
    by_cases e:k=k'
    ·simp [e,vKey,keyB]
    simp [e,vKey,keyB]
  | (a,q)::r,h=>by
    have ha:=h.1 (a,q) (.head _)
    have hr:VSet r:=⟨fun e he=>h.1 e (.tail _ he),fun e he=>h.2 e (.tail _ he)⟩
    have ih:=y2o k k' p r hr
    cases a with
    | int kk z =>
      simp only [mput]
      by_cases e1:k'=z
      ·have b1:keyB (vKey k') (.int kk z)=true:=by simp [vKey,keyB,e1]
       rw [if_pos b1]
       simp only [z3a]
       by_cases e:k=k'
       ·simp [e,vKey,keyB]
       have b2:¬ keyB (vKey k) (vKey k')=true:=by simp [vKey,keyB,e]
       have b3:¬ keyB (vKey k) (.int kk z)=true:=by simp [vKey,keyB];omega
       rw [if_neg b2,if_neg e,if_neg b3]
      have b1:¬ keyB (vKey k') (.int kk z)=true:=by simp [vKey,keyB,e1]
      rw [if_neg b1]
      simp only [z3a,ih]
      by_cases e:k=z
      ·have b3:keyB (vKey k) (.int kk z)=true:=by simp [vKey,keyB,e]
       rw [if_pos b3,if_neg oM0,if_pos b3]
      have b3:¬ keyB (vKey k) (.int kk z)=true:=by simp [vKey,keyB,e]
      rw [if_neg b3,if_neg b3]
    | _=>simp [z2a] at ha
theorem y1l (l:List Int) (v:Int):(z3a (vKey v) (vsOf l)).isSome=l.contains v:=by
  have key:∀ (l:List Int) (es:List (Value × PV)),VSet es->(z3a (vKey v) (l.foldl (fun e v=>mput (vKey v) (.agg []) e) es)).isSome=((z3a (vKey v) es).isSome||l.contains v):=by
    intro l
    induction l with
    | nil=>intro es _;simp
    | cons a r ih =>
      intro es h
      rw [List.foldl_cons,ih _ (h.put a),y2o _ _ _ _ h,List.contains_cons]
      by_cases e:v=a
      ·simp [e]
      have eb:(v==a)=false:=by simpa using e
      rw [if_neg e,eb,Bool.false_or]
  have:=key l [] .nil
  simpa [vsOf,z3a] using this
theorem y71 {F:Nat->Prop} {ρ:Loc} {σ:Heap'} {w:World} {v:Value} {k:Value} {es:List (Value × PV)} (h:VSet es) (hr:RepI F ρ σ w (.pv ((z3a k es).getD (.val (.agg #[])))) v):RepI F ρ σ w (.pv (.agg [])) v:=by
  cases hf:z3a k es with
  | none =>
    rw [hf] at hr
    obtain rfl:=hr.val
    exact .pv _ _ (.agg [] #[] (fun _=>undef) rfl (fun j x hj=>by simp at hj) fun j x hj=>by simp at hj)
  | some p =>
    obtain ⟨a,ha⟩:=zr5 hf
    have:=h.2 _ ha
    simp only at this
    subst this
    rw [hf] at hr
    exact hr
theorem z7k (l:List Nd) (x:Nd):(l++[x]).map Nd.enc=l.map Nd.enc++[[vInt x.kind,vInt x.op,vInt x.n,vStr x.name,ints x.args,ints x.outs,ints x.params,kids x.kids]]:=by
  rw [List.map_append,List.map_cons,List.map_nil,Nd.enc_eq,Nd.cells_eta]
theorem z5w (x:Nd):∀ el∈z07 8 1 [vInt x.kind,vInt x.op,vInt x.n,vStr x.name,ints x.args,ints x.outs,ints x.params,kids x.kids],∀ y∈el,y.one=true:=by
  intro el hel
  have:el=x.enc:=by
    rw [Nd.enc_eq,Nd.cells_eta]
    exact List.mem_singleton.1 hel
  subst this
  exact x.enc_one
theorem za9 (a b c:Int) (s:ByteArray) (l1 l2 l3:List Int) (ks:List (List Nd)):∀ el∈z07 8 1 [vInt a,vInt b,vInt c,vStr s,ints l1,ints l2,ints l3,kids ks],∀ y∈el,y.one=true:=z5w (.mk a b c s l1 l2 l3 ks)
mutual
def hOkN:Nd->Bool
  | .mk kind op n name args outs params ks=>(!z0v (.mk kind op n name args outs params ks) || !outs.isEmpty)&&(kind != 11 || !ks.isEmpty)&&hOkK ks
def hOkL:List Nd->Bool
  | []=>true
  | x::r=>hOkN x&&hOkL r
def hOkK:List (List Nd)->Bool
  | []=>true
  | l::r=>hOkL l&&hOkK r
end
theorem hOkN_eq (x:Nd):hOkN x=((!z0v x || !x.outs.isEmpty)&&(x.kind != 11 || !x.kids.isEmpty)&&hOkK x.kids):=by cases x;simp [hOkN,Nd.kind,Nd.outs,Nd.kids]
theorem kd_len:∀ ks:List (List Nd),ks.length<=kdW ks
  | []=>by simp
  | l::r=>by have:=kd_len r;simp only [kdW,List.length_cons];omega
theorem y7n (a:ByteArray) (b c:Int) (l:List Int) (ns:List Nd):∀ el∈z07 5 1 [vStr a,vInt b,vInt c,ints l,z0e ns],∀ y∈el,y.one=true:=by
  intro el hel y hy
  rw [List.mem_singleton.1 hel] at hy
  simp only [List.take,List.mem_cons,List.not_mem_nil,or_false] at hy
  rcases hy with rfl | rfl | rfl | rfl | rfl<;>rfl
theorem zx6 {F:Nat->Prop} {ρ:Loc} {σ:Heap'} {w:World} {v:Value} (h:RepI F ρ σ w (.pv (.agg [.val (.slice none 0 0),.val (.slice none 0 0)])) v):RepI F ρ σ w (.pv (Un.enc ⟨[],[]⟩)) v :=
  z4w (PSub.agg (ps:=[.val (.slice none 0 0),.val (.slice none 0 0)]) (qs:=[.seq [],.seq []]) (And.intro PSub.nil (And.intro PSub.nil trivial))) h
def wAdd:List Int->List Int->List Int
  | s,[]=>s
  | s,v::r=>wAdd (if s.contains v then s else s++[v]) r
def z0y:List Int->List Int->List Int->List Int
  | s,a::l,t::to=>z0y (if s.contains t then wAdd s [a] else s) l to
  | s,_,_=>s
structure Hd where
  yield:List Int
  next:List Int
  left:List Int
abbrev hdv (h:Hd):PV:=.agg [ints h.yield,ints h.next,ints h.left]
mutual
def z5h (h:Hd) (s:List Int):Nd->List Int
  | .mk kind op n name args outs params ks =>
    if kind==12 then z0y s args h.yield
    else if kind==13 then z0y s args h.next
    else if kind==14 then z0y s args h.left
    else if kind==10 then z83 ⟨outs,h.next,h.left⟩ (wAdd s args) ks
    else if kind==11 then z83 ⟨[],params,outs⟩ (z0y s args params) ks
    else if !z0v (.mk kind op n name args outs params ks)||s.contains (outs.headD 0) then wAdd s args else s
def z3e (h:Hd) (s:List Int):List Nd->List Int
  | []=>s
  | x::r=>z3e h (z5h h s x) r
def z83 (h:Hd) (s:List Int):List (List Nd)->List Int
  | []=>s
  | l::r=>z83 h (z3e h s l) r
end
theorem z6y (h:Hd) (s:List Int) (x:Nd):z5h h s x =
    if x.kind==12 then z0y s x.args h.yield
    else if x.kind==13 then z0y s x.args h.next
    else if x.kind==14 then z0y s x.args h.left
    else if x.kind==10 then z83 ⟨x.outs,h.next,h.left⟩ (wAdd s x.args) x.kids
    else if x.kind==11 then z83 ⟨[],x.params,x.outs⟩ (z0y s x.args x.params) x.kids
    else if !z0v x||s.contains (x.outs.headD 0) then wAdd s x.args else s:=by
  cases x;simp [z5h,Nd.kind,Nd.args,Nd.outs,Nd.params,Nd.kids]
def z0m (s:List Int):List Int->List Int->List Int
  | a::l,t::to=>if s.contains t then a::z0m s l to else z0m s l to
  | _,_=>[]
mutual
def z1f (s:List Int) (h:Hd):Nd->List Nd
  | .mk kind op n name args outs params ks =>
    if kind==12 then [.mk kind op n name (z0m s args h.yield) outs params ks]
    else if kind==13 then [.mk kind op n name (z0m s args h.next) outs params ks]
    else if kind==14 then [.mk kind op n name (z0m s args h.left) outs params ks]
    else if kind==10 then [.mk kind op n name args (z0m s outs outs) params (z4v s ⟨outs,h.next,h.left⟩ ks)]
    else if kind==11 then [.mk kind op n name (z0m s args params) (z0m s outs outs) (z0m s params params) (z4v s ⟨[],params,outs⟩ ks)]
    else if z0v (.mk kind op n name args outs params ks) && !s.contains (outs.headD 0) then [] else [.mk kind op n name args outs params ks]
def z1m (s:List Int) (h:Hd):List Nd->List Nd
  | []=>[]
  | x::r=>z1f s h x++z1m s h r
def z4v (s:List Int) (h:Hd):List (List Nd)->List (List Nd)
  | []=>[]
  | l::r=>z1m s h l::z4v s h r
end
theorem z52 (s:List Int) (h:Hd) (x:Nd):z1f s h x =
    if x.kind==12 then [.mk x.kind x.op x.n x.name (z0m s x.args h.yield) x.outs x.params x.kids]
    else if x.kind==13 then [.mk x.kind x.op x.n x.name (z0m s x.args h.next) x.outs x.params x.kids]
    else if x.kind==14 then [.mk x.kind x.op x.n x.name (z0m s x.args h.left) x.outs x.params x.kids]
    else if x.kind==10 then [.mk x.kind x.op x.n x.name x.args (z0m s x.outs x.outs) x.params (z4v s ⟨x.outs,h.next,h.left⟩ x.kids)]
    else if x.kind==11 then [.mk x.kind x.op x.n x.name (z0m s x.args x.params) (z0m s x.outs x.outs) (z0m s x.params x.params) (z4v s ⟨[],x.params,x.outs⟩ x.kids)]
    else if z0v x && !s.contains (x.outs.headD 0) then [] else [x]:=by
  cases x;simp [z1f,Nd.kind,Nd.op,Nd.n,Nd.name,Nd.args,Nd.outs,Nd.params,Nd.kids]
mutual
def wOkN (h:Hd):Nd->Bool
  | .mk kind op n name args outs params ks =>
    if kind==12 then decide (h.yield.length<=args.length)
    else if kind==13 then decide (h.next.length<=args.length)
    else if kind==14 then decide (h.left.length<=args.length)
    else if kind==10 then ks.length==2&&wOkK ⟨outs,h.next,h.left⟩ ks
    else if kind==11 then decide (params.length<=args.length)&&(ks.length==1&&wOkK ⟨[],params,outs⟩ ks)
    else !z0v (.mk kind op n name args outs params ks) || !outs.isEmpty
def wOkL (h:Hd):List Nd->Bool
  | []=>true
  | x::r=>wOkN h x&&wOkL h r
def wOkK (h:Hd):List (List Nd)->Bool
  | []=>true
  | l::r=>wOkL h l&&wOkK h r
end
theorem z5i (h:Hd) (x:Nd):wOkN h x =
    if x.kind==12 then decide (h.yield.length<=x.args.length)
    else if x.kind==13 then decide (h.next.length<=x.args.length)
    else if x.kind==14 then decide (h.left.length<=x.args.length)
    else if x.kind==10 then x.kids.length==2&&wOkK ⟨x.outs,h.next,h.left⟩ x.kids
    else if x.kind==11 then decide (x.params.length<=x.args.length)&&(x.kids.length==1&&wOkK ⟨[],x.params,x.outs⟩ x.kids)
    else !z0v x || !x.outs.isEmpty:=by
  cases x;simp only [wOkN,Nd.kind,Nd.args,Nd.outs,Nd.params,Nd.kids];rfl
theorem y1o:∀ {h:Hd} {l:List Nd} {x:Nd},wOkL h l=true->x∈l->wOkN h x=true
  | h,y::r,x,hh,hx=>by
    simp only [wOkL,Bool.and_eq_true] at hh
    rcases List.mem_cons.1 hx with rfl | hx
    ·exact hh.1
    exact y1o hh.2 hx
theorem z84:∀ {h:Hd} {l:List (List Nd)} {x:List Nd},wOkK h l=true->x∈l->wOkL h x=true
  | h,y::r,x,hh,hx=>by
    simp only [wOkK,Bool.and_eq_true] at hh
    rcases List.mem_cons.1 hx with rfl | hx
    ·exact hh.1
    exact z84 hh.2 hx
def Pre (s s':List Int):Prop:=∃ q,s'=s++q
theorem Pre.refl (s:List Int):Pre s s:=⟨[],by simp⟩
theorem Pre.trans {a b c:List Int} (h:Pre a b) (h':Pre b c):Pre a c:=by
  obtain ⟨q,rfl⟩:=h
  obtain ⟨r,rfl⟩:=h'
  exact ⟨q++r,by rw [List.append_assoc]⟩
theorem Pre.len {a b:List Int} (h:Pre a b):a.length<=b.length:=by obtain ⟨q,rfl⟩:=h;simp
theorem Pre.eq {a b:List Int} (h:Pre a b) (hl:b.length<=a.length):b=a:=by
  obtain ⟨q,rfl⟩:=h
  have:q=[]:=List.eq_nil_of_length_eq_zero (by simp at hl;omega)
  simp [this]
theorem Pre.sub {a b:List Int} (h:Pre a b):∀ v∈a,v∈b:=by
  obtain ⟨q,rfl⟩:=h
  exact fun v hv=>List.mem_append.2 (.inl hv)
theorem Pre.two {a b c:List Int} (h:Pre a b) (h':Pre b c) (e:c=a):b=a/\c=b:=by
  have h1:=h.len
  have h2:=h'.len
  have e1:b=a:=h.eq (by rw [<- e];exact h2)
  exact ⟨e1,e.trans e1.symm⟩
theorem z34:∀ (l s:List Int),Pre s (wAdd s l)
  | [],s=>.refl s
  | v::r,s=>by
    unfold wAdd
    split
    ·exact z34 r s
    exact Pre.trans ⟨[v],rfl⟩ (z34 r _)
theorem z2f:∀ (l to s:List Int),Pre s (z0y s l to)
  | [],_,s=>by simp [z0y];exact .refl s
  | _::_,[],s=>by simp [z0y];exact .refl s
  | a::l,t::to,s=>by
    unfold z0y
    split
    ·exact (z34 [a] s).trans (z2f l to _)
    exact z2f l to s
mutual
theorem z99:∀ (x:Nd) (h:Hd) (s:List Int),Pre s (z5h h s x)
  | .mk kind op n name args outs params ks,h,s=>by
    unfold z5h
    repeat' split
    ·exact z2f ..
    ·exact z2f ..
    ·exact z2f ..
    ·exact (z34 ..).trans (z4u ks _ _)
    ·exact (z2f ..).trans (z4u ks _ _)
    ·exact z34 ..
    exact .refl s
theorem z2t:∀ (l:List Nd) (h:Hd) (s:List Int),Pre s (z3e h s l)
  | [],h,s=>by unfold z3e;exact .refl s
  | x::r,h,s=>by unfold z3e;exact (z99 x h s).trans (z2t r h _)
theorem z4u:∀ (ks:List (List Nd)) (h:Hd) (s:List Int),Pre s (z83 h s ks)
  | [],h,s=>by unfold z83;exact .refl s
  | l::r,h,s=>by unfold z83;exact (z2t l h s).trans (z4u r h _)
end
mutual
def agN:Nd->List Int
  | .mk _ _ _ _ args _ _ ks=>args++agK ks
def agL:List Nd->List Int
  | []=>[]
  | x::r=>agN x++agL r
def agK:List (List Nd)->List Int
  | []=>[]
  | l::r=>agL l++agK r
end
def WIn (A s:List Int):Prop:=s.Nodup/\∀ v∈s,v∈A
theorem zv5 {A:List Int}:∀ (l s:List Int),WIn A s->(∀ v∈l,v∈A)->WIn A (wAdd s l)
  | [],s,h,_=>h
  | v::r,s,h,hl=>by
    unfold wAdd
    split
    ·exact zv5 r s h fun v hv=>hl v (.tail _ hv)
    rename_i hc
    refine zv5 r _ ⟨?_,fun w hw=>?_⟩ fun v hv=>hl v (.tail _ hv)
    ·rw [List.nodup_append]
     refine ⟨h.1,by simp,fun a ha b hb e=>?_⟩
     obtain rfl:=List.mem_singleton.1 hb
     subst e
     exact hc (List.contains_iff_mem.2 ha)
    rcases List.mem_append.1 hw with hw | hw
    ·exact h.2 w hw
    obtain rfl:=List.mem_singleton.1 hw
    exact hl _ (.head _)
theorem z62 {A:List Int}:∀ (l to s:List Int),WIn A s->(∀ v∈l,v∈A)->WIn A (z0y s l to)
  | [],_,s,h,_=>by simpa [z0y] using h
  | _::_,[],s,h,_=>by simpa [z0y] using h
  | a::l,t::to,s,h,hl=>by
    unfold z0y
    split
    ·exact z62 l to _ (zv5 [a] s h fun v hv=>by obtain rfl:=List.mem_singleton.1 hv;exact hl _ (.head _)) fun v hv=>hl v (.tail _ hv)
    exact z62 l to s h fun v hv=>hl v (.tail _ hv)
mutual
theorem wNode_in {A:List Int}:∀ (x:Nd) (h:Hd) (s:List Int),WIn A s->(∀ v∈agN x,v∈A)->WIn A (z5h h s x)
  | .mk kind op n name args outs params ks,h,s,hs,hA=>by
    have h1:∀ v∈args,v∈A:=fun v hv=>hA v (by simp [agN,hv])
    have h2:∀ v∈agK ks,v∈A:=fun v hv=>hA v (by simp [agN,hv])
    unfold z5h
    repeat' split
    ·exact z62 _ _ _ hs h1
    ·exact z62 _ _ _ hs h1
    ·exact z62 _ _ _ hs h1
    ·exact y1m ks _ _ (zv5 _ _ hs h1) h2
    ·exact y1m ks _ _ (z62 _ _ _ hs h1) h2
    ·exact zv5 _ _ hs h1
    exact hs
theorem y1n {A:List Int}:∀ (l:List Nd) (h:Hd) (s:List Int),WIn A s->(∀ v∈agL l,v∈A)->WIn A (z3e h s l)
  | [],h,s,hs,_=>by unfold z3e;exact hs
  | x::r,h,s,hs,hA=>by
    unfold z3e
    exact y1n r h _ (wNode_in x h s hs fun v hv=>hA v (by simp [agL,hv])) fun v hv=>hA v (by simp [agL,hv])
theorem y1m {A:List Int}:∀ (ks:List (List Nd)) (h:Hd) (s:List Int),WIn A s->(∀ v∈agK ks,v∈A)->WIn A (z83 h s ks)
  | [],h,s,hs,_=>by unfold z83;exact hs
  | l::r,h,s,hs,hA=>by
    unfold z83
    exact y1m r h _ (y1n l h s hs fun v hv=>hA v (by simp [agK,hv])) fun v hv=>hA v (by simp [agK,hv])
end
theorem y2r:∀ (s A:List Int),s.Nodup->(∀ v∈s,v∈A)->s.length<=A.length
  | [],_,_,_=>Nat.zero_le _
  | v::r,A,hn,hs=>by
    have hv:=hs v (.head _)
    have hn2:=List.nodup_cons.1 hn
    have ih:=y2r r (A.erase v) hn2.2 fun w hw=>by
      have hne:w≠v:=fun e=>hn2.1 (e ▸ hw)
      exact (List.mem_erase_of_ne hne).2 (hs w (.tail _ hw))
    rw [List.length_erase_of_mem hv] at ih
    have:=List.length_pos_of_mem hv
    simp only [List.length_cons]
    omega
theorem WIn.len {A s:List Int} (h:WIn A s):s.length<=A.length:=y2r s A h.1 h.2
def hd0:Hd:=⟨[],[],[]⟩
def zm8 (l:List Nd) (s:List Int):List Int:=z3e hd0 s l
def z28 (l:List Nd):Nat->List Int
  | 0=>[]
  | n+1=>zm8 l (z28 l n)
def wSet (l:List Nd):List Int:=z28 l (agL l).length
theorem zo7 (l:List Nd):∀ n,WIn (agL l) (z28 l n)
  | 0=>⟨by simp [z28],by simp [z28]⟩
  | n+1=>y1n l hd0 _ (zo7 l n) fun _ h=>h
theorem zh0 (l:List Nd) (s:List Int):Pre s (zm8 l s):=z2t l hd0 s
theorem zk4 {l:List Nd} {n:Nat} (h:zm8 l (z28 l n)=z28 l n):∀ k,z28 l (n+k)=z28 l n
  | 0=>rfl
  | k+1=>by
    show zm8 l (z28 l (n+k))=_
    rw [zk4 h k,h]
theorem y8y {l:List Nd} {n:Nat} (hn:n<=(z28 l n).length) (h:zm8 l (z28 l n)=z28 l n):z28 l n=wSet l:=by
  have hl:=(zo7 l n).len
  have:=zk4 h ((agL l).length - n)
  unfold wSet
  rw [<- this]
  congr 1
  omega
theorem y07 {l:List Nd}:∀ n,(∃ k,k<=n/\zm8 l (z28 l k)=z28 l k)∨n<=(z28 l n).length
  | 0=>.inr (Nat.zero_le _)
  | n+1=>by
    rcases y07 (l:=l) n with ⟨k,hk,h⟩ | h
    ·exact .inl ⟨k,by omega,h⟩
    have hp:=zh0 l (z28 l n)
    by_cases e:(zm8 l (z28 l n)).length<=(z28 l n).length
    ·exact .inl ⟨n,by omega,hp.eq e⟩
    refine .inr ?_
    show n+1<=(zm8 l (z28 l n)).length
    omega
theorem y77 (l:List Nd):zm8 l (wSet l)=wSet l:=by
  rcases y07 (l:=l) (agL l).length with ⟨k,hk,h⟩ | h
  ·have e:z28 l (agL l).length=z28 l k:=by
     have:=zk4 h ((agL l).length - k)
     rwa [show k+((agL l).length - k)=(agL l).length by omega] at this
   unfold wSet
   rw [e,h]
  have h2:=(zo7 l ((agL l).length+1)).len
  exact (zh0 l (wSet l)).eq (Nat.le_trans h2 h)
def wB (l:List Nd):List Nd:=z1m (wSet l) hd0 l
theorem zg9 (s:List Int):∀ l to,(z0m s l to).length<=to.length
  | [],_=>by simp [z0m]
  | _::_,[]=>by simp [z0m]
  | a::l,t::to=>by
    have ih:=zg9 s l to
    unfold z0m
    split<;>simp only [List.length_cons]<;>omega
theorem ye0 (s:List Int) (h:Hd) (x:Nd):(z1f s h x).length<=1:=by
  rw [z52]
  repeat' split
  all_goals simp
theorem zf4 (s:List Int) (h:Hd):∀ l,(z1m s h l).length<=l.length
  | []=>by simp [z1m]
  | x::r=>by
    have h1:=ye0 s h x
    have h2:=zf4 s h r
    simp only [z1m,List.length_append,List.length_cons]
    omega
theorem ls_len:∀ l:List Nd,l.length<=lsW l
  | []=>by simp
  | x::r=>by
    have h1:=ls_len r
    have h2:1<=ndW x:=by cases x;simp only [ndW];omega
    simp only [lsW,List.length_cons]
    omega
def inR (n:Nat) (ds:List Int):Prop:=∀ v∈ds,0<=v/\v<n
def Frs (set:List Bool) (ds:List Int):Prop:=ds.Nodup/\∀ v∈ds,set.getD v.toNat false=false
def z2j (set:List Bool) (ds:List Int):List Bool:=ds.foldl (fun s v=>s.set v.toNat true) set
theorem z3k:∀ (ds:List Int) (set:List Bool),(z2j set ds).length=set.length
  | [],_=>rfl
  | v::r,set=>by have:=z3k r (set.set v.toNat true);simpa [z2j] using this
theorem z8r (set:List Bool) (a b:List Int):z2j set (a++b)=z2j (z2j set a) b:=by simp [z2j]
theorem zr4 {n:Nat}:∀ (ds:List Int) (set:List Bool),set.length=n->inR n ds->∀ v:Int,0<=v->v<n->(z2j set ds).getD v.toNat false=(ds.contains v||set.getD v.toNat false)
  | [],set,_,_,v,_,_=>by simp [z2j]
  | d::r,set,hn,hr,v,h0,h1=>by
    have ih:=zr4 r (set.set d.toNat true) (by simpa using hn) (fun v hv=>hr v (.tail _ hv)) v h0 h1
    obtain ⟨d0,d1⟩:=hr d (.head _)
    show (z2j (set.set d.toNat true) r).getD v.toNat false=_
    rw [ih,zd5,List.contains_cons]
    by_cases e:v=d
    ·subst e
     rw [if_pos ⟨rfl,by omega⟩];simp
    have e2:¬ (d.toNat=v.toNat/\d.toNat<set.length):=by omega
    have e3:(v==d)=false:=by simpa using e
    rw [if_neg e2,e3,Bool.false_or]
theorem zq5 {n:Nat} {set:List Bool} {a b:List Int} (hn:set.length=n) (ha:inR n a) (hb:inR n b):Frs set (a++b)↔Frs set a/\Frs (z2j set a) b:=by
  unfold Frs
  rw [List.nodup_append]
  constructor
  ·rintro ⟨⟨h1,h2,h3⟩,h4⟩
   refine ⟨⟨h1,fun v hv=>h4 v (by simp [hv])⟩,h2,fun v hv=>?_⟩
   rw [zr4 a set hn ha v (hb v hv).1 (hb v hv).2,h4 v (by simp [hv])]
   have:a.contains v=false:=by
     rw [<- Bool.not_eq_true,List.contains_iff_mem]
     exact fun hm=>h3 v hm v hv rfl
   rw [this];rfl
  rintro ⟨⟨h1,h2⟩,h3,h4⟩
  have hkey:∀ v∈b,a.contains v=false/\set.getD v.toNat false=false:=fun v hv=>by
    have:=h4 v hv
    rw [zr4 a set hn ha v (hb v hv).1 (hb v hv).2,Bool.or_eq_false_iff] at this
    exact this
  refine ⟨⟨h1,h3,fun x hx y hy e=>?_⟩,fun v hv=>?_⟩
  ·subst e
   have:=(hkey x hy).1
   rw [<- Bool.not_eq_true,List.contains_iff_mem] at this
   exact this hx
  rcases List.mem_append.1 hv with hv | hv
  ·exact h2 v hv
  exact (hkey v hv).2
def z24 (tys:List Int):List Int->List Int->Bool
  | [],[]=>true
  | v::r,w::ws=>z4h tys v w&&z24 tys r ws
  | _,_=>false
theorem z19 {tys:List Int}:∀ {l want:List Int},z24 tys l want=true->inR tys.length l
  | [],[],_=>fun v hv=>by simp at hv
  | [],_::_,h=>by simp [z24] at h
  | _::_,[],h=>by simp [z24] at h
  | x::r,w::ws,h=>by
    simp only [z24,Bool.and_eq_true,z4h,decide_eq_true_eq] at h
    intro v hv
    rcases List.mem_cons.1 hv with rfl | hv
    ·exact ⟨h.1.1.1,h.1.1.2⟩
    exact z19 h.2 v hv
theorem z98 {tys:List Int}:∀ {l want:List Int},z24 tys l want=true->l.length=want.length
  | [],[],_=>rfl
  | [],_::_,h=>by simp [z24] at h
  | _::_,[],h=>by simp [z24] at h
  | x::r,w::ws,h=>by
    simp only [z24,Bool.and_eq_true] at h
    simp [z98 h.2]
theorem y98 (tys:List Int) (set:List Bool) (v w:Int):z7t tys set v w=false↔z4h tys v w=true/\set.getD v.toNat false=false:=by
  unfold z7t z4h
  simp only [Bool.or_eq_false_iff,decide_eq_false_iff_not,Bool.and_eq_true,decide_eq_true_eq,Bool.or_eq_true]
  constructor
  ·rintro ⟨⟨⟨h1,h2⟩,h3⟩,h4⟩
   refine ⟨⟨⟨by omega,by omega⟩,?_⟩,h3⟩
   cases hw:(w==0) with
   | true=>exact .inl rfl
   | false=>exact .inr (by simpa [bne,hw] using h4)
  rintro ⟨⟨⟨h1,h2⟩,h4⟩,h3⟩
  refine ⟨⟨⟨by omega,by omega⟩,h3⟩,?_⟩
  rcases h4 with h4 | h4
  ·simp [bne,h4]
  rw [show (tys.getD v.toNat 0 != w)=false from by rw [bne,h4];rfl,Bool.and_false]
theorem y01 (tys:List Int):∀ (l want:List Int) (set:List Bool),l.length=want.length->set.length=tys.length ->
    ((z1z tys set l want).1=true↔z24 tys l want=true/\Frs set l)/\((z1z tys set l want).1=true->(z1z tys set l want).2=z2j set l)
  | [],[],set,_,_=>by simp [z1z,z24,Frs,z2j]
  | [],_::_,_,h,_=>by simp at h
  | _::_,[],_,h,_=>by simp at h
  | x::r,w::ws,set,hl,hn=>by
    obtain ⟨ih1,ih2⟩:=y01 tys r ws (set.set x.toNat true) (by simpa using hl) (by simpa using hn)
    simp only [z1z]
    cases hb:z7t tys set x w with
    | true =>
      simp only [if_true,Bool.false_eq_true,false_iff,not_and,false_implies,and_true]
      intro h1 h2
      simp only [z24,Bool.and_eq_true] at h1
      have:=(y98 tys set x w).2 ⟨h1.1,h2.2 x (.head _)⟩
      rw [hb] at this;cases this
    | false =>
      obtain ⟨b1,b2⟩:=(y98 tys set x w).1 hb
      simp only [Bool.false_eq_true,if_false]
      refine ⟨?_,fun h=>ih2 h⟩
      rw [ih1]
      simp only [z24,b1,Bool.true_and]
      refine and_congr_right fun hv=>?_
      have hx:inR tys.length [x]:=fun v hv=>by
        obtain rfl:=List.mem_singleton.1 hv
        simp only [z4h,Bool.and_eq_true,decide_eq_true_eq] at b1
        exact ⟨b1.1.1,b1.1.2⟩
      have:=zq5 (a:=[x]) (b:=r) hn hx (z19 hv)
      rw [show x::r=[x]++r from rfl,this]
      exact ⟨fun h=>⟨⟨by simp,fun v hv=>by obtain rfl:=List.mem_singleton.1 hv;exact b2⟩,h⟩,fun h=>h.2⟩
theorem y1a (tys:List Int) (set:List Bool) (l want:List Int) (hn:set.length=tys.length) :
    ((z1p tys set l want).1=true↔z24 tys l want=true/\Frs set l)/\((z1p tys set l want).1=true->(z1p tys set l want).2=z2j set l):=by
  unfold z1p
  by_cases hl:l.length=want.length
  ·have e:((l.length:Int)==want.length)=true:=by simp;omega
   rw [if_pos e]
   exact y01 tys l want set hl hn
  have e:¬ ((l.length:Int)==want.length)=true:=by simp;omega
  rw [if_neg e]
  refine ⟨⟨fun h=>(by cases h),fun h=>absurd (z98 h.1) hl⟩,fun h=>by cases h⟩
structure SForm where
  b:Bool
  want:Option (List Int)
def SForm.run (s:SForm) (tys:List Int) (outs:List Int) (set:List Bool):Bool × List Bool:=match s.want with
  | some wt=>andS s.b set (z1p tys set outs wt)
  | none=>(s.b&&(outs.length:Int)==0,set)
def SForm.ok (s:SForm) (tys:List Int) (outs:List Int):Bool:=match s.want with
  | some wt=>s.b&&z24 tys outs wt
  | none=>s.b&&(outs.length:Int)==0
def z2l (u:Un) (f:Fl) (x:Nd) (seen:List Int) (w:Wh):SForm :=
  if x.kind==1 then ⟨z01 f.types seen x.args [],some [1]⟩
  else if x.kind==2 then ⟨(x.n==0||x.n==1)&&z01 f.types seen x.args [],some [2]⟩
  else if x.kind==3 then ⟨z2c x.op&&z01 f.types seen x.args [(z0a x.op).1],some [(z0a x.op).2]⟩
  else if x.kind==4 then ⟨z1v x.op&&z01 f.types seen x.args [(z0a x.op).1,(z0a x.op).1]&&f.types.getD (x.args.getD 0 0).toNat 0==f.types.getD (x.args.getD 1 0).toNat 0,some [(z0a x.op).2]⟩
  else if x.kind==5 then ⟨decide (z0g x.name u.arrays 0 ≥ 0)&&z01 f.types seen x.args [1],some [1]⟩
  else if x.kind==6 then ⟨decide (z0g x.name u.arrays 0 ≥ 0)&&z01 f.types seen x.args [1,1],none⟩
  else if x.kind==7 then (if decide (z03 x.name u.flows 0 ≥ 0)=true then match u.flows[(z03 x.name u.flows 0).toNat]? with
      | some g=>⟨z01 f.types seen x.args (g.types.take g.params.toNat),some [g.ty]⟩
      | none=>⟨false,none⟩
    else ⟨false,none⟩)
  else if x.kind==8 then ⟨(x.args.length:Int)==0,some [1]⟩
  else if x.kind==9 then ⟨z01 f.types seen x.args [1],none⟩
  else if x.kind==12 then ⟨w.If&&z01 f.types seen x.args w.Yield,none⟩
  else if x.kind==13 then ⟨w.Loop&&z01 f.types seen x.args w.Next,none⟩
  else if x.kind==14 then ⟨w.Loop&&z01 f.types seen x.args w.Left,none⟩
  else if x.kind==15 then ⟨z01 f.types seen x.args [f.ty],none⟩
  else ⟨false,none⟩
theorem y5n (u:Un) (f:Fl) (set:List Bool) (x:Nd) (seen:List Int) (w:Wh):z1a u f set x seen w=(z2l u f x seen w).run f.types x.outs set:=by
  unfold z1a z2l z90
  by_cases k1:(x.kind==1)=true
  ·rw [if_pos k1,if_pos k1];rfl
  rw [if_neg k1,if_neg k1]
  by_cases k2:(x.kind==2)=true
  ·rw [if_pos k2,if_pos k2];rfl
  rw [if_neg k2,if_neg k2]
  by_cases k3:(x.kind==3)=true
  ·rw [if_pos k3,if_pos k3];rfl
  rw [if_neg k3,if_neg k3]
  by_cases k4:(x.kind==4)=true
  ·rw [if_pos k4,if_pos k4];rfl
  rw [if_neg k4,if_neg k4]
  by_cases k5:(x.kind==5)=true
  ·rw [if_pos k5,if_pos k5];rfl
  rw [if_neg k5,if_neg k5]
  by_cases k6:(x.kind==6)=true
  ·rw [if_pos k6,if_pos k6];rfl
  rw [if_neg k6,if_neg k6]
  by_cases k7:(x.kind==7)=true
  ·rw [if_pos k7,if_pos k7]
   by_cases hp:decide (z03 x.name u.flows 0 ≥ 0)=true
   ·rw [if_pos hp,if_pos hp]
    cases u.flows[(z03 x.name u.flows 0).toNat]? with
    | none=>rfl
    | some g=>rfl
   rw [if_neg hp,if_neg hp];rfl
  rw [if_neg k7,if_neg k7]
  by_cases k8:(x.kind==8)=true
  ·rw [if_pos k8,if_pos k8];rfl
  rw [if_neg k8,if_neg k8]
  by_cases k9:(x.kind==9)=true
  ·rw [if_pos k9,if_pos k9];rfl
  rw [if_neg k9,if_neg k9]
  by_cases k12:(x.kind==12)=true
  ·rw [if_pos k12,if_pos k12];rfl
  rw [if_neg k12,if_neg k12]
  by_cases k13:(x.kind==13)=true
  ·rw [if_pos k13,if_pos k13];rfl
  rw [if_neg k13,if_neg k13]
  by_cases k14:(x.kind==14)=true
  ·rw [if_pos k14,if_pos k14];rfl
  rw [if_neg k14,if_neg k14]
  by_cases k15:(x.kind==15)=true
  ·rw [if_pos k15,if_pos k15];rfl
  rw [if_neg k15,if_neg k15]
  rfl
theorem run_iff {tys outs:List Int} {set:List Bool} (s:SForm) (hn:set.length=tys.length):((s.run tys outs set).1=true↔s.ok tys outs=true/\Frs set outs)/\((s.run tys outs set).1=true->(s.run tys outs set).2=z2j set outs):=by
  obtain ⟨b,want⟩:=s
  cases want with
  | some wt =>
    obtain ⟨h1,h2⟩:=y1a tys set outs wt hn
    simp only [SForm.run,SForm.ok,andS]
    cases b with
    | false=>simp
    | true=>simp only [if_true,Bool.true_and];exact ⟨h1,h2⟩
  | none =>
    simp only [SForm.run,SForm.ok]
    constructor
    ·constructor
     ·intro h
      refine ⟨h,?_⟩
      simp only [Bool.and_eq_true,beq_iff_eq] at h
      have:outs=[]:=List.eq_nil_of_length_eq_zero oM0
      subst this
      exact ⟨by simp,fun v hv=>by simp at hv⟩
     exact fun h=>h.1
    intro h
    simp only [Bool.and_eq_true,beq_iff_eq] at h
    have:outs=[]:=List.eq_nil_of_length_eq_zero oM0
    subst this
    rfl
theorem ok_in {tys outs:List Int} {s:SForm} (h:s.ok tys outs=true):inR tys.length outs:=by
  obtain ⟨b,want⟩:=s
  cases want with
  | some wt=>simp only [SForm.ok,Bool.and_eq_true] at h;exact z19 h.2
  | none =>
    simp only [SForm.ok,Bool.and_eq_true,beq_iff_eq] at h
    have:outs=[]:=List.eq_nil_of_length_eq_zero oM0
    subst this
    exact fun v hv=>by simp at hv
mutual
def dN:Nd->List Int
  | .mk _ _ _ _ _ outs params ks=>params++(dK ks++outs)
def dL:List Nd->List Int
  | []=>[]
  | x::r=>dN x++dL r
def dK:List (List Nd)->List Int
  | []=>[]
  | l::r=>dL l++dK r
end
theorem dN_eq (x:Nd):dN x=x.params++(dK x.kids++x.outs):=by cases x;simp [dN,Nd.params,Nd.kids,Nd.outs]
def zer (l:List Int):List Int:=List.replicate l.length 0
def w1 (w:Wh) (f:Fl) (x:Nd):Wh:=⟨true,w.Loop,r8of f.types x.outs,w.Next,w.Left⟩
def w2 (f:Fl) (x:Nd):Wh:=⟨false,true,[],r8of f.types x.params,r8of f.types x.outs⟩
def zj1 (x:Nd):Bool:=(x.outs.length:Int)==0 || !z04 x
mutual
def z4j (u:Un) (f:Fl) (deep:Int) (w:Wh) (seen:List Int):Nd->Bool
  | .mk kind op n name args outs params kids =>
    z0z (.mk kind op n name args outs params kids) &&
    (if kind==10 then
      match kids with
      | a::b::_=>z01 f.types seen args [2]&&(!a.isEmpty&&vGo u f (deep+1) (w1 w f (.mk kind op n name args outs params kids)) seen a)&&(!b.isEmpty&&vGo u f (deep+1) (w1 w f (.mk kind op n name args outs params kids)) seen b) &&
          zj1 (.mk kind op n name args outs params kids)&&z24 f.types outs (zer outs)
      | _=>false
    else if kind==11 then
      match kids with
      | a::_=>z01 f.types seen args (r8of f.types params)&&z24 f.types params (zer params)&&(!a.isEmpty&&vGo u f (deep+1) (w2 f (.mk kind op n name args outs params kids)) (seen++params) a) &&
          zj1 (.mk kind op n name args outs params kids)&&z24 f.types outs (zer outs)
      | _=>false
    else (z2l u f (.mk kind op n name args outs params kids) seen w).ok f.types outs)
def vGo (u:Un) (f:Fl) (deep:Int) (w:Wh) (all:List Int):List Nd->Bool
  | []=>true
  | x::r=>!decide (deep > 100)&&z4j u f deep w all x&&(z04 x==r.isEmpty)&&vGo u f deep w (all++x.outs) r
end
def z2s (u:Un) (f:Fl) (deep:Int) (w:Wh) (all:List Int) (l:List Nd):Bool:=!l.isEmpty&&vGo u f deep w all l
theorem z54 (u:Un) (f:Fl) (deep:Int) (w:Wh) (seen:List Int) {x:Nd} {a b:List Nd} (h:z0z x=true) (hk:x.kind=10) (hx:x.kids=[a,b]) :
    z4j u f deep w seen x=(z01 f.types seen x.args [2]&&z2s u f (deep+1) (w1 w f x) seen a&&z2s u f (deep+1) (w1 w f x) seen b&&zj1 x&&z24 f.types x.outs (zer x.outs)):=by
  cases x
  simp only [Nd.kind,Nd.kids] at hk hx
  subst hk hx
  unfold z4j
  simp only [h,Bool.true_and,Nd.args,Nd.outs]
  rfl
theorem z37 (u:Un) (f:Fl) (deep:Int) (w:Wh) (seen:List Int) {x:Nd} {a:List Nd} (h:z0z x=true) (hk:x.kind=11) (hx:x.kids=[a]) :
    z4j u f deep w seen x=(z01 f.types seen x.args (r8of f.types x.params)&&z24 f.types x.params (zer x.params)&&z2s u f (deep+1) (w2 f x) (seen++x.params) a&&zj1 x&&z24 f.types x.outs (zer x.outs)):=by
  cases x
  simp only [Nd.kind,Nd.kids] at hk hx
  subst hk hx
  unfold z4j
  simp only [h,Bool.true_and,Nd.args,Nd.outs,Nd.params]
  rfl
theorem z1i (u:Un) (f:Fl) (deep:Int) (w:Wh) (seen:List Int) {x:Nd} (h:z0z x=true) (h1:(x.kind==10)=false) (h2:(x.kind==11)=false) :
    z4j u f deep w seen x=(z2l u f x seen w).ok f.types x.outs:=by
  cases x
  simp only [Nd.kind] at h1 h2
  unfold z4j
  simp only [h,Bool.true_and,Nd.outs,h1,h2,Bool.false_eq_true,if_false]
theorem z3u (u:Un) (f:Fl) (deep:Int) (w:Wh) (seen:List Int) {x:Nd} (h:z4j u f deep w seen x=true):z0z x=true:=by
  cases x
  unfold z4j at h
  simp only [Bool.and_eq_true] at h
  exact h.1
theorem zp2 {x:Nd} (h:z0z x=true) (hk:(x.kind==11)=false):x.params=[]:=by
  simp only [z0z,Bool.and_eq_true,hk,Bool.false_or,beq_iff_eq] at h
  exact List.eq_nil_of_length_eq_zero oM0
theorem zh3 {x:Nd} (h:z0z x=true) (h1:(x.kind==10)=false) (h2:(x.kind==11)=false):x.kids=[]:=by
  have:=zb7 h
  simp only [r8kn,h1,h2,Bool.false_eq_true,if_false] at this
  exact List.eq_nil_of_length_eq_zero oM0
theorem y1z {x:Nd} (h:z0z x=true) (h1:(x.kind==10)=false) (h2:(x.kind==11)=false):dN x=x.outs:=by
  rw [dN_eq,zp2 h h2,zh3 h h1 h2];rfl
theorem dN_if {x:Nd} {a b:List Nd} (h:z0z x=true) (hk:x.kind=10) (hx:x.kids=[a,b]):dN x=dL a++(dL b++x.outs):=by
  rw [dN_eq,zp2 h (by rw [hk];rfl),hx];simp [dK]
theorem y9n {x:Nd} {a:List Nd} (hx:x.kids=[a]):dN x=x.params++(dL a++x.outs):=by
  rw [dN_eq,hx];simp [dK]
theorem zi4 {n:Nat} {a b:List Int}:inR n (a++b)↔inR n a/\inR n b :=
  ⟨fun h=>⟨fun v hv=>h v (by simp [hv]),fun v hv=>h v (by simp [hv])⟩,fun h v hv=>(List.mem_append.1 hv).elim (h.1 v) (h.2 v)⟩
theorem zn3 {n:Nat} {set:List Bool} {a b d:List Int} (hn:set.length=n) (ha:inR n a) (hb:inR n b) (hd:inR n d):Frs set (a++(b++d))↔Frs set a/\Frs (z2j set a) b/\Frs (z2j (z2j set a) b) d:=by
  rw [zq5 hn ha (zi4.2 ⟨hb,hd⟩),zq5 ((z3k a set).trans hn) hb hd]
def RG (u:Un) (f:Fl) (l:List Nd):Prop:=∀ (deep:Int) (w:Wh) (all:List Int),vGo u f deep w all l=true->inR f.types.length (dL l)
theorem y4q (u:Un) (f:Fl) (x:Nd) (ih:∀ q∈x.kids,RG u f q) (deep:Int) (w:Wh) (seen:List Int) (h:z4j u f deep w seen x=true):inR f.types.length (dN x):=by
  have hb:=z3u u f deep w seen h
  by_cases h10:x.kind=10
  ·obtain ⟨a,b,hk⟩:=z36 hb h10
   rw [z54 u f deep w seen hb h10 hk] at h
   simp only [Bool.and_eq_true,z2s] at h
   rw [dN_if hb h10 hk]
   exact zi4.2 ⟨ih a (by rw [hk];simp) _ _ _ h.1.1.1.2.2,zi4.2 ⟨ih b (by rw [hk];simp) _ _ _ h.1.1.2.2,z19 h.2⟩⟩
  by_cases h11:x.kind=11
  ·obtain ⟨a,hk⟩:=z1t hb h11
   rw [z37 u f deep w seen hb h11 hk] at h
   simp only [Bool.and_eq_true,z2s] at h
   rw [y9n hk]
   exact zi4.2 ⟨z19 h.1.1.1.2,zi4.2 ⟨ih a (by rw [hk];simp) _ _ _ h.1.1.2.2,z19 h.2⟩⟩
  have e10:(x.kind==10)=false:=by simpa using h10
  have e11:(x.kind==11)=false:=by simpa using h11
  rw [z1i u f deep w seen hb e10 e11] at h
  rw [y1z hb e10 e11]
  exact ok_in h
theorem go_in (u:Un) (f:Fl):∀ (l:List Nd),(∀ x∈l,∀ q∈x.kids,RG u f q)->RG u f l
  | [],_=>fun _ _ _ _ v hv=>by simp [dL] at hv
  | x::r,ih=>fun deep w all h=>by
    simp only [vGo,Bool.and_eq_true] at h
    exact zi4.2 ⟨y4q u f x (ih x (.head _)) _ _ _ h.1.1.2,go_in u f r (fun y hy=>ih y (.tail _ hy)) _ _ _ h.2⟩
theorem rg_all (u:Un) (f:Fl):∀ (N:Nat) (l:List Nd),SizeOf.sizeOf l<N->RG u f l
  | 0,_,h=>absurd h (Nat.not_lt_zero _)
  | N+1,l,hN=>go_in u f l fun x hx q hq=>rg_all u f N q (Nat.lt_of_lt_of_le (z5l hx rfl hq) (Nat.le_of_lt_succ hN))
theorem rg (u:Un) (f:Fl) (l:List Nd):RG u f l:=rg_all u f _ l (Nat.lt_succ_self _)
def CH (u:Un) (f:Fl) (l:List Nd):Prop:=∀ (deep:Int) (w:Wh) (seen:List Int) (set:List Bool),set.length=f.types.length ->
  ((z1o u f deep w seen set l).1=true↔z2s u f deep w seen l=true/\Frs set (dL l))/\((z1o u f deep w seen set l).1=true->(z1o u f deep w seen set l).2=z2j set (dL l))
theorem z48 {q:Bool × List Bool} {k:List Bool->Bool × List Bool}:((andT q k).1=true↔q.1=true/\(k q.2).1=true)/\((andT q k).1=true->(andT q k).2=(k q.2).2):=by
  unfold andT
  cases q.1 with
  | false=>simp
  | true=>simp
theorem y9p (f:Fl) (x:Nd) (set:List Bool) (hn:set.length=f.types.length):((z9w f x set).1=true↔(zj1 x=true/\z24 f.types x.outs (zer x.outs)=true)/\Frs set x.outs)/\((z9w f x set).1=true->(z9w f x set).2=z2j set x.outs):=by
  obtain ⟨h1,h2⟩:=y1a f.types set x.outs (zer x.outs) hn
  unfold z9w andS
  show ((if zj1 x=true then _ else _:Bool × List Bool).1=true↔_)/\_
  by_cases ho:zj1 x=true
  ·simp only [ho,if_true,true_and]
   exact ⟨h1,fun h=>by
     have ho2:((x.outs.length:Int)==0 || !z04 x)=true:=ho
     rw [if_pos ho2] at h ⊢
     exact h2 h⟩
  have ho2:¬ ((x.outs.length:Int)==0 || !z04 x)=true:=ho
  rw [if_neg ho,if_neg ho2]
  simp [ho]
theorem node_iff (u:Un) (f:Fl) (x:Nd) (ih:∀ q∈x.kids,CH u f q) (deep:Int) (w:Wh) (seen:List Int) (set:List Bool) (hn:set.length=f.types.length) :
    ((z2w u f deep w seen set x).1=true↔z4j u f deep w seen x=true/\Frs set (dN x))/\((z2w u f deep w seen set x).1=true->(z2w u f deep w seen set x).2=z2j set (dN x)):=by
  cases hb:z0z x with
  | false =>
    rw [zb8 _ _ _ _ _ _ hb]
    refine ⟨⟨fun h=>(by cases h),fun h=>?_⟩,fun h=>by cases h⟩
    have:=z3u u f deep w seen h.1
    rw [hb] at this;cases this
  | true =>
    by_cases h10:x.kind=10
    ·obtain ⟨a,b,hk⟩:=z36 hb h10
     rw [zt2 _ _ _ _ _ _ hb h10 hk,z54 u f deep w seen hb h10 hk,dN_if hb h10 hk,show (⟨true,w.Loop,r8of f.types x.outs,w.Next,w.Left⟩:Wh)=w1 w f x from rfl]
     by_cases ht:z01 f.types seen x.args [2]=true
     ·rw [if_pos ht]
      obtain ⟨a1,a2⟩:=ih a (by rw [hk];simp) (deep+1) (w1 w f x) seen set hn
      have hna:(z2j set (dL a)).length=f.types.length:=(z3k _ _).trans hn
      obtain ⟨b1,b2⟩:=ih b (by rw [hk];simp) (deep+1) (w1 w f x) seen (z2j set (dL a)) hna
      have hnb:(z2j (z2j set (dL a)) (dL b)).length=f.types.length:=(z3k _ _).trans hna
      obtain ⟨e1,e2⟩:=y9p f x (z2j (z2j set (dL a)) (dL b)) hnb
      have key:(andT (z1o u f (deep+1) (w1 w f x) seen set a) (fun s1=>andT (z1o u f (deep+1) (w1 w f x) seen s1 b) fun s2=>z9w f x s2)).1=true ↔
          (z1o u f (deep+1) (w1 w f x) seen set a).1=true/\(z1o u f (deep+1) (w1 w f x) seen (z2j set (dL a)) b).1=true/\(z9w f x (z2j (z2j set (dL a)) (dL b))).1=true:=by
        rw [z48.1]
        refine and_congr_right fun h=>?_
        rw [a2 h,z48.1]
        exact and_congr_right fun h2=>by rw [b2 h2]
      refine ⟨?_,fun h=>?_⟩
      ·rw [key,a1,b1,e1]
       simp only [ht,Bool.true_and,Bool.and_eq_true]
       constructor
       ·rintro ⟨⟨c1,c2⟩,⟨c3,c4⟩,⟨c5,c6⟩,c7⟩
        have ra:=rg u f a _ _ _ (by simp only [z2s,Bool.and_eq_true] at c1;exact c1.2)
        have rb:=rg u f b _ _ _ (by simp only [z2s,Bool.and_eq_true] at c3;exact c3.2)
        exact ⟨⟨⟨⟨c1,c3⟩,c5⟩,c6⟩,(zn3 hn ra rb (z19 c6)).2 ⟨c2,c4,c7⟩⟩
       rintro ⟨⟨⟨⟨c1,c3⟩,c5⟩,c6⟩,c7⟩
       have ra:=rg u f a _ _ _ (by simp only [z2s,Bool.and_eq_true] at c1;exact c1.2)
       have rb:=rg u f b _ _ _ (by simp only [z2s,Bool.and_eq_true] at c3;exact c3.2)
       obtain ⟨d1,d2,d3⟩:=(zn3 hn ra rb (z19 c6)).1 c7
       exact ⟨⟨c1,d1⟩,⟨c3,d2⟩,⟨c5,c6⟩,d3⟩
      obtain ⟨k1,k2,k3⟩:=key.1 h
      have h':=(z48.1.1 h).2
      rw [z48.2 h,a2 k1]
      rw [a2 k1] at h'
      rw [z48.2 h',b2 k2,e2 k3,z8r,z8r]
     rw [if_neg ht]
     refine ⟨⟨fun h=>(by cases h),fun h=>?_⟩,fun h=>by cases h⟩
     simp only [Bool.and_eq_true] at h
     exact absurd h.1.1.1.1.1 ht
    by_cases h11:x.kind=11
    ·obtain ⟨a,hk⟩:=z1t hb h11
     rw [zb9 _ _ _ _ _ _ hb h11 hk,z37 u f deep w seen hb h11 hk,y9n hk,show (⟨false,true,[],r8of f.types x.params,r8of f.types x.outs⟩:Wh)=w2 f x from rfl,show List.replicate x.params.length 0=zer x.params from rfl]
     by_cases ht:z01 f.types seen x.args (r8of f.types x.params)=true
     ·rw [if_pos ht]
      obtain ⟨a1,a2⟩:=y1a f.types set x.params (zer x.params) hn
      have hna:(z2j set x.params).length=f.types.length:=(z3k _ _).trans hn
      obtain ⟨b1,b2⟩:=ih a (by rw [hk];simp) (deep+1) (w2 f x) (seen++x.params) (z2j set x.params) hna
      have hnb:(z2j (z2j set x.params) (dL a)).length=f.types.length:=(z3k _ _).trans hna
      obtain ⟨e1,e2⟩:=y9p f x (z2j (z2j set x.params) (dL a)) hnb
      have key:(andT (z1p f.types set x.params (zer x.params)) (fun s1=>andT (z1o u f (deep+1) (w2 f x) (seen++x.params) s1 a) fun s2=>z9w f x s2)).1=true ↔
          (z1p f.types set x.params (zer x.params)).1=true/\(z1o u f (deep+1) (w2 f x) (seen++x.params) (z2j set x.params) a).1=true/\(z9w f x (z2j (z2j set x.params) (dL a))).1=true:=by
        rw [z48.1]
        refine and_congr_right fun h=>?_
        rw [a2 h,z48.1]
        exact and_congr_right fun h2=>by rw [b2 h2]
      refine ⟨?_,fun h=>?_⟩
      ·rw [key,a1,b1,e1]
       simp only [ht,Bool.true_and,Bool.and_eq_true]
       constructor
       ·rintro ⟨⟨c1,c2⟩,⟨c3,c4⟩,⟨c5,c6⟩,c7⟩
        have rb:=rg u f a _ _ _ (by simp only [z2s,Bool.and_eq_true] at c3;exact c3.2)
        exact ⟨⟨⟨⟨c1,c3⟩,c5⟩,c6⟩,(zn3 hn (z19 c1) rb (z19 c6)).2 ⟨c2,c4,c7⟩⟩
       rintro ⟨⟨⟨⟨c1,c3⟩,c5⟩,c6⟩,c7⟩
       have rb:=rg u f a _ _ _ (by simp only [z2s,Bool.and_eq_true] at c3;exact c3.2)
       obtain ⟨d1,d2,d3⟩:=(zn3 hn (z19 c1) rb (z19 c6)).1 c7
       exact ⟨⟨c1,d1⟩,⟨c3,d2⟩,⟨c5,c6⟩,d3⟩
      obtain ⟨k1,k2,k3⟩:=key.1 h
      have h':=(z48.1.1 h).2
      rw [z48.2 h,a2 k1]
      rw [a2 k1] at h'
      rw [z48.2 h',b2 k2,e2 k3,z8r,z8r]
     rw [if_neg ht]
     refine ⟨⟨fun h=>(by cases h),fun h=>?_⟩,fun h=>by cases h⟩
     simp only [Bool.and_eq_true] at h
     exact absurd h.1.1.1.1.1 ht
    have e10:(x.kind==10)=false:=by simpa using h10
    have e11:(x.kind==11)=false:=by simpa using h11
    rw [z7v _ _ _ _ _ _ hb e10 e11,z1i u f deep w seen hb e10 e11,y1z hb e10 e11,y5n]
    exact run_iff _ hn
theorem go_iff (u:Un) (f:Fl) (deep:Int) (w:Wh):∀ (l:List Nd),(∀ x∈l,∀ q∈x.kids,CH u f q)->∀ (all:List Int) (set:List Bool),set.length=f.types.length ->
    ((r8go u f deep w all set l).1=true↔vGo u f deep w all l=true/\Frs set (dL l))/\((r8go u f deep w all set l).1=true->(r8go u f deep w all set l).2=z2j set (dL l))
  | [],_,all,set,_=>by simp [r8go,vGo,dL,Frs,z2j]
  | x::r,ih,all,set,hn=>by
    obtain ⟨n1,n2⟩:=node_iff u f x (ih x (.head _)) deep w all set hn
    have hm:(z2j set (dN x)).length=f.types.length:=(z3k _ _).trans hn
    obtain ⟨r1,r2⟩:=go_iff u f deep w r (fun y hy=>ih y (.tail _ hy)) (all++x.outs) (z2j set (dN x)) hm
    unfold r8go vGo
    by_cases hd:deep > 100
    ·rw [if_pos hd]
     simp [hd]
    rw [if_neg hd]
    have hdb:(!decide (deep > 100))=true:=by simpa using hd
    by_cases hc:(z04 x != r.isEmpty)=true
    ·have hcb:(z04 x==r.isEmpty)=false:=by
       cases hcc:(z04 x==r.isEmpty) with
       | false=>rfl
       | true=>simp [bne,hcc] at hc
     simp only [if_pos hc,hcb,Bool.and_false,Bool.false_and,Bool.false_eq_true,false_and,iff_false,Bool.not_eq_true]
     have:(andT (z2w u f deep w all set x) fun s1=>(false,s1)).1=false:=by
       unfold andT;split<;>rfl
     exact ⟨this,fun h=>by rw [this] at h;cases h⟩
    have hcb:(z04 x==r.isEmpty)=true:=by
      cases hcc:(z04 x==r.isEmpty) with
      | true=>rfl
      | false=>simp [bne,hcc] at hc
    simp only [if_neg hc,hcb,hdb,Bool.true_and,Bool.and_true,Bool.and_eq_true]
    have key:(andT (z2w u f deep w all set x) fun s1=>r8go u f deep w (all++x.outs) s1 r).1=true↔(z2w u f deep w all set x).1=true/\(r8go u f deep w (all++x.outs) (z2j set (dN x)) r).1=true:=by
      rw [z48.1]
      exact and_congr_right fun h=>by rw [n2 h]
    refine ⟨?_,fun h=>?_⟩
    ·rw [key,n1,r1]
     constructor
     ·rintro ⟨⟨c1,c2⟩,c3,c4⟩
      exact ⟨⟨c1,c3⟩,(zq5 hn (y4q u f x (fun q _=>rg u f q) _ _ _ c1) (rg u f r _ _ _ c3)).2 ⟨c2,c4⟩⟩
     rintro ⟨⟨c1,c3⟩,c4⟩
     obtain ⟨d1,d2⟩:=(zq5 hn (y4q u f x (fun q _=>rg u f q) _ _ _ c1) (rg u f r _ _ _ c3)).1 c4
     exact ⟨⟨c1,d1⟩,c3,d2⟩
    obtain ⟨k1,k2⟩:=key.1 h
    rw [z48.2 h,n2 k1,r2 k2]
    show _=z2j set (dN x++dL r)
    rw [z8r]
theorem ch_all (u:Un) (f:Fl):∀ (N:Nat) (l:List Nd),SizeOf.sizeOf l<N->CH u f l
  | 0,_,h=>absurd h (Nat.not_lt_zero _)
  | N+1,l,hN=>by
    intro deep w seen set hn
    obtain ⟨h1,h2⟩:=go_iff u f deep w l (fun x hx q hq=>ch_all u f N q (Nat.lt_of_lt_of_le (z5l hx rfl hq) (Nat.le_of_lt_succ hN))) seen set hn
    unfold z1o ne z2s
    cases l with
    | nil=>simp
    | cons x r=>simpa using ⟨h1,h2⟩
theorem z9n (u:Un) (f:Fl) (l:List Nd) (deep:Int) (w:Wh) (seen:List Int) (set:List Bool) (hn:set.length=f.types.length):(z1o u f deep w seen set l).1=true↔z2s u f deep w seen l=true/\Frs set (dL l) :=
  (ch_all u f _ l (Nat.lt_succ_self _) deep w seen set hn).1
theorem zv1 {tys s s':List Int}:∀ {l want:List Int},(∀ v∈l,s.contains v=true->s'.contains v=true)->z0q tys s l want=true->z0q tys s' l want=true
  | [],_,_,_=>by simp [z0q]
  | _::_,[],_,_=>by simp [z0q]
  | x::r,w::ws,hs,h=>by
    simp only [z0q,Bool.and_eq_true] at h ⊢
    refine ⟨?_,zv1 (fun v hv=>hs v (.tail _ hv)) h.2⟩
    have h1:=h.1
    unfold z73 at h1 ⊢
    cases hc:s.contains x with
    | false=>rw [hc] at h1;simp at h1
    | true=>rw [hs x (.head _) hc];rw [hc] at h1;exact h1
theorem zv3 {tys s s' l want:List Int} (hs:∀ v∈l,s.contains v=true->s'.contains v=true) (h:z01 tys s l want=true):z01 tys s' l want=true:=by
  unfold z01 at h ⊢
  simp only [Bool.and_eq_true] at h ⊢
  exact ⟨h.1,zv1 hs h.2⟩
theorem z7o {x:Nd} (h:z0v x=true):(x.kind=1∨x.kind=2∨x.kind=3∨x.kind=4):=by
  simp only [z0v,Bool.or_eq_true,Bool.and_eq_true,beq_iff_eq] at h
  rcases h with ((h | h) | h) | h
  ·exact .inl h
  ·exact .inr (.inl h)
  ·exact .inr (.inr (.inl h))
  exact .inr (.inr (.inr h.1.1))
theorem z68 {x:Nd} (h:z0v x=true):(x.kind==10)=false/\(x.kind==11)=false/\z04 x=false/\z1w x=false:=by
  have hk:=z7o h
  have h10:(x.kind==10)=false:=by simp;omega
  have h11:(x.kind==11)=false:=by simp;omega
  have h14:(x.kind==14)=false:=by simp;omega
  refine ⟨h10,h11,?_,?_⟩
  ·simp only [z04,h10,h11,Bool.false_and,Bool.false_eq_true,if_false,z0p]
   simp;omega
  rw [z2k,h10,h14];rfl
theorem zc4 {u:Un} {f:Fl} {x:Nd} {s s':List Int} {w w':Wh} {outs:List Int} (hm:z0v x=true) (hs:∀ v∈x.args,s.contains v=true->s'.contains v=true) (h:(z2l u f x s w).ok f.types outs=true) :
    (z2l u f x s' w').ok f.types outs=true/\outs.length=1:=by
  have M:∀ want,z01 f.types s x.args want=true->z01 f.types s' x.args want=true:=fun want=>zv3 hs
  have F:∀ (b b':Bool) (t:Int),(b=true->b'=true)->SForm.ok ⟨b,some [t]⟩ f.types outs=true->SForm.ok ⟨b',some [t]⟩ f.types outs=true/\outs.length=1:=fun b b' t hb h=>by
    simp only [SForm.ok,Bool.and_eq_true] at h ⊢
    exact ⟨⟨hb h.1,h.2⟩,z98 h.2⟩
  unfold z2l at h ⊢
  by_cases k1:(x.kind==1)=true
  ·rw [if_pos k1] at h ⊢
   exact F _ _ _ (fun hb=>M _ hb) h
  rw [if_neg k1] at h ⊢
  by_cases k2:(x.kind==2)=true
  ·rw [if_pos k2] at h ⊢
   exact F _ _ _ (fun hb=>by simp only [Bool.and_eq_true] at hb ⊢;exact ⟨hb.1,M _ hb.2⟩) h
  rw [if_neg k2] at h ⊢
  by_cases k3:(x.kind==3)=true
  ·rw [if_pos k3] at h ⊢
   exact F _ _ _ (fun hb=>by simp only [Bool.and_eq_true] at hb ⊢;exact ⟨hb.1,M _ hb.2⟩) h
  rw [if_neg k3] at h ⊢
  by_cases k4:(x.kind==4)=true
  ·rw [if_pos k4] at h ⊢
   exact F _ _ _ (fun hb=>by simp only [Bool.and_eq_true] at hb ⊢;exact ⟨⟨hb.1.1,M _ hb.1.2⟩,hb.2⟩) h
  rw [if_neg k4] at h ⊢
  have hk:=z7o hm
  simp only [beq_iff_eq] at k1 k2 k3 k4
  omega
theorem dL_app:∀ (a b:List Nd),dL (a++b)=dL a++dL b
  | [],_=>rfl
  | x::r,b=>by simp only [List.cons_append,dL,dL_app r b,List.append_assoc]
theorem zy8:∀ (a b:List Nd),z0h (a++b)=(z0h a||z0h b)
  | [],b=>by simp [z0h]
  | x::r,b=>by simp only [List.cons_append,z0h,zy8 r b,Bool.or_assoc]
theorem zw3 {l:List Int} (h:l.length=1) (v:Int) (hv:l.contains v=true):v=l.headD 0:=by
  match l,h with
  | [a],_=>simpa using hv
theorem y46 {kind op n:Int} {name:ByteArray} {args outs params:List Int} {ks ks':List (List Nd)} (h:ks'.length=ks.length):z0z (.mk kind op n name args outs params ks')=z0z (.mk kind op n name args outs params ks):=by
  unfold z0z r8op y51 zt1 r8kn
  simp only [Nd.kind,Nd.op,Nd.n,Nd.name,Nd.kids,Nd.params]
  rw [h]
  rfl
theorem y2a (u:Un):∀ (l:List Fl) (i:Int),(z4p u l i).1=0↔∀ f∈l,z2v u f=true
  | [],_=>by simp [z4p]
  | f::r,i=>by
    unfold z4p
    cases h:z2v u f with
    | false=>simp [h]
    | true=>simp [h,y2a u r (i+1)]
theorem zx8 (u:Un):∀ (l:List Fl) (i:Int),(∀ f∈l,z2v u f=true)->z4p u l i=(0,0)
  | [],_,_=>rfl
  | f::r,i,h=>by
    unfold z4p
    rw [if_pos (h f (.head _))]
    exact zx8 u r (i+1) fun g hg=>h g (.tail _ hg)
theorem z74 (u:Un):(z18 u).1=0↔z13 u=true/\∀ f∈u.flows,z2v u f=true:=by
  unfold z18
  cases h:z13 u with
  | false=>simp
  | true=>simp [y2a]
mutual
theorem y2u (u:Un) (f:Fl):∀ (x:Nd) (deep:Int) (w:Wh) (s:List Int),z4j u f deep w s x=true->hOkN x=true
  | .mk kind op n name args outs params ks,deep,w,s,h=>by
    have hb:=z3u u f deep w s h
    simp only [hOkN,Bool.and_eq_true]
    refine ⟨⟨?_,?_⟩,?_⟩
    ·cases hm:z0v (.mk kind op n name args outs params ks) with
     | false=>rfl
     | true =>
       obtain ⟨e10,e11,_,_⟩:=z68 hm
       rw [z1i u f deep w s hb e10 e11] at h
       obtain ⟨_,hl⟩:=zc4 (s':=s) (w':=w) hm (fun _ _ h=>h) h
       simp only [Nd.outs] at hl
       cases outs with
       | nil=>simp at hl
       | cons _ _=>rfl
    ·cases hk:(kind==11) with
     | false=>simp [bne,hk]
     | true =>
       obtain ⟨a,ha⟩:=z1t hb (show kind=11 by simpa using hk)
       simp only [Nd.kids] at ha
       simp [ha]
    by_cases h10:kind=10
    ·obtain ⟨a,b,hk⟩:=z36 hb h10
     rw [z54 u f deep w s hb h10 hk] at h
     simp only [Bool.and_eq_true,z2s] at h
     simp only [Nd.kids] at hk
     match ks,hk with
     | [a',b'],hk =>
       cases hk
       simp only [hOkK,Bool.and_eq_true,Bool.and_true]
       exact ⟨ze8 u f a _ _ _ h.1.1.1.2.2,ze8 u f b _ _ _ h.1.1.2.2⟩
    by_cases h11:kind=11
    ·obtain ⟨a,hk⟩:=z1t hb h11
     rw [z37 u f deep w s hb h11 hk] at h
     simp only [Bool.and_eq_true,z2s] at h
     simp only [Nd.kids] at hk
     match ks,hk with
     | [a'],hk =>
       cases hk
       simp only [hOkK,Bool.and_true]
       exact ze8 u f a _ _ _ h.1.1.2.2
    have hk0:=zh3 hb (show (kind==10)=false by simpa using h10) (show (kind==11)=false by simpa using h11)
    simp only [Nd.kids] at hk0
    rw [hk0];rfl
theorem ze8 (u:Un) (f:Fl):∀ (l:List Nd) (deep:Int) (w:Wh) (s:List Int),vGo u f deep w s l=true->hOkL l=true
  | [],_,_,_,_=>rfl
  | x::r,deep,w,s,h=>by
    simp only [vGo,Bool.and_eq_true] at h
    simp only [hOkL,Bool.and_eq_true]
    exact ⟨y2u u f x _ _ _ h.1.1.2,ze8 u f r _ _ _ h.2⟩
end
theorem zc8:∀ (a b:List Nd),wtL (a++b)=wtL a+wtL b
  | [],b=>by simp [wtL]
  | x::r,b=>by simp only [List.cons_append,wtL,zc8 r b];omega
theorem z50:∀ {l to s:List Int},z0y s l to=s->∀ v∈z0m s l to,v∈s
  | [],_,s,_=>by simp [z0m]
  | _::_,[],s,_=>by simp [z0m]
  | a::l,t::to,s,h=>by
    unfold z0y at h
    unfold z0m
    split at h
    ·rename_i hc
     rw [if_pos hc]
     obtain ⟨e1,e2⟩:=Pre.two (z34 [a] s) (z2f l to _) h
     rw [e1] at h
     intro v hv
     rcases List.mem_cons.1 hv with rfl | hv
     ·rw [<- e1]
      unfold wAdd wAdd
      split
      ·rename_i hc2;exact List.contains_iff_mem.1 hc2
      exact List.mem_append.2 (.inr (.head _))
     exact z50 h v hv
    rename_i hc
    rw [if_neg hc]
    exact z50 h
theorem zg7:∀ {l s:List Int},wAdd s l=s->∀ v∈l,v∈s
  | [],_,_=>by simp
  | v::r,s,h=>by
    unfold wAdd at h
    split at h
    ·rename_i hc
     intro w hw
     rcases List.mem_cons.1 hw with rfl | hw
     ·exact List.contains_iff_mem.1 hc
     exact zg7 h w hw
    obtain ⟨e1,_⟩:=Pre.two (⟨[v],rfl⟩:Pre s (s++[v])) (z34 r _) h
    have:=congrArg List.length e1
    simp at this
theorem ze0 {s:List Int}:∀ {l:List Int} {v:Int},v∈l->v∈s->v∈z0m s l l
  | a::l,v,h,hs=>by
    unfold z0m
    rcases List.mem_cons.1 h with rfl | h
    ·rw [if_pos (List.contains_iff_mem.2 hs)];exact .head _
    split
    ·exact .tail _ (ze0 h hs)
    exact ze0 h hs
theorem z9e {s:List Int}:∀ (l:List Int),List.Sublist (z0m s l l) l
  | []=>by simp [z0m]
  | a::l=>by
    unfold z0m
    split
    ·exact (z9e l).cons_cons a
    exact (z9e l).cons a
theorem zq9 {s:List Int}:∀ {l to:List Int},l.length=to.length->(z0m s l to).length=(z0m s to to).length
  | [],[],_=>rfl
  | a::l,t::to,h=>by
    have ih:=zq9 (s:=s) (l:=l) (to:=to) (by simpa using h)
    unfold z0m
    split
    ·simp [ih]
    exact ih
  | [],_::_,h=>by simp at h
  | _::_,[],h=>by simp at h
def KeepS (s all all':List Int):Prop:=∀ v,v∈s->all.contains v=true->all'.contains v=true
theorem KeepS.app {s a b c d:List Int} (h:KeepS s a b) (h2:∀ v∈c,v∈s->v∈d):KeepS s (a++c) (b++d):=fun v hv hc=>by
  rw [List.contains_append,Bool.or_eq_true] at hc ⊢
  rcases hc with hc | hc
  ·exact .inl (h v hv hc)
  exact .inr (List.contains_iff_mem.2 (h2 v (List.contains_iff_mem.1 hc) hv))
theorem zm4 {tys all all' s:List Int} (hs:KeepS s all all'):∀ {l to:List Int},(∀ v∈z0m s l to,v∈s)->l.length=to.length->z0q tys all l (to.map fun v=>tys.getD v.toNat 0)=true ->
    z0q tys all' (z0m s l to) ((z0m s to to).map fun v=>tys.getD v.toNat 0)=true
  | [],[],_,_,_=>by simp [z0m,z0q]
  | a::l,t::to,hk,hl,h=>by
    simp only [List.map_cons,z0q,Bool.and_eq_true] at h
    have hk2:∀ v∈z0m s l to,v∈s:=fun v hv=>hk v (by unfold z0m;split<;>simp [hv])
    have ih:=zm4 hs hk2 (by simpa using hl) h.2
    unfold z0m
    by_cases hc:s.contains t=true
    ·rw [if_pos hc,if_pos hc]
     simp only [List.map_cons,z0q,Bool.and_eq_true]
     refine ⟨?_,ih⟩
     have ha:a∈s:=hk a (by unfold z0m;rw [if_pos hc];exact .head _)
     have h1:=h.1
     unfold z73 at h1 ⊢
     cases hac:all.contains a with
     | false=>rw [hac] at h1;simp at h1
     | true=>rw [hs a ha hac];rw [hac] at h1;exact h1
    rw [if_neg hc,if_neg hc]
    exact ih
  | [],_::_,_,h,_=>by simp at h
  | _::_,[],_,h,_=>by simp at h
theorem inr_all {tys l:List Int} (h:inR tys.length l):l.all (z6i tys)=true:=by
  rw [List.all_eq_true]
  intro v hv
  simp only [z6i,Bool.and_eq_true,decide_eq_true_eq]
  exact h v hv
theorem y52 {tys l:List Int} (h:inR tys.length l):r8of tys l=l.map fun v=>tys.getD v.toNat 0:=by unfold r8of;rw [if_pos (inr_all h)]
theorem zn4 {n:Nat} {s l:List Int} (h:inR n l):inR n (z0m s l l):=fun v hv=>h v ((z9e l).subset hv)
theorem y05 {tys all all' s l to:List Int} (hs:KeepS s all all') (hk:∀ v∈z0m s l to,v∈s) (hr:inR tys.length to) (h:z01 tys all l (r8of tys to)=true) :
    z01 tys all' (z0m s l to) (r8of tys (z0m s to to))=true:=by
  rw [y52 hr] at h
  rw [y52 (zn4 hr)]
  unfold z01 at h ⊢
  simp only [Bool.and_eq_true,List.length_map,beq_iff_eq] at h ⊢
  have hl:l.length=to.length:=by omega
  exact ⟨by rw [zq9 hl],zm4 hs hk hl h.2⟩
theorem zv2 {tys all l to:List Int} (hr:inR tys.length to) (h:z01 tys all l (r8of tys to)=true):l.length=to.length:=by
  rw [y52 hr] at h
  unfold z01 at h
  simp only [Bool.and_eq_true,List.length_map,beq_iff_eq] at h
  omega
theorem yj3 {tys all all' s l want:List Int} (hs:KeepS s all all') (hl:∀ v∈l,v∈s) (h:z01 tys all l want=true):z01 tys all' l want=true:=zv3 (fun v hv=>hs v (hl v hv)) h
theorem zo8 {tys:List Int}:∀ {l:List Int},inR tys.length l->z24 tys l (zer l)=true
  | [],_=>rfl
  | v::r,h=>by
    have h1:=h v (.head _)
    have ih:=zo8 (tys:=tys) (l:=r) fun w hw=>h w (.tail _ hw)
    simp only [zer,List.length_cons,List.replicate_succ,z24,Bool.and_eq_true,z4h,decide_eq_true_eq,Bool.or_eq_true]
    exact ⟨⟨h1,.inl rfl⟩,ih⟩
theorem yh3 {u:Un} {f:Fl} {x:Nd} {s s':List Int} {w w':Wh} {outs:List Int} (h12:(x.kind==12)=false) (h13:(x.kind==13)=false) (h14:(x.kind==14)=false) (hs:∀ v∈x.args,s.contains v=true->s'.contains v=true) (h:(z2l u f x s w).ok f.types outs=true):(z2l u f x s' w').ok f.types outs=true:=by
  have M:∀ want,z01 f.types s x.args want=true->z01 f.types s' x.args want=true:=fun want=>zv3 hs
  have F:∀ (b b':Bool) (want:Option (List Int)),(b=true->b'=true)->SForm.ok ⟨b,want⟩ f.types outs=true->SForm.ok ⟨b',want⟩ f.types outs=true:=fun b b' want hb h=>by
    cases want<;>simp only [SForm.ok,Bool.and_eq_true] at h ⊢<;>exact ⟨hb h.1,h.2⟩
  unfold z2l at h ⊢
  simp only [h12,h13,h14,Bool.false_eq_true,if_false] at h ⊢
  by_cases k1:(x.kind==1)=true
  ·rw [if_pos k1] at h ⊢
   exact F _ _ _ (fun hb=>M _ hb) h
  rw [if_neg k1] at h ⊢
  by_cases k2:(x.kind==2)=true
  ·rw [if_pos k2] at h ⊢
   exact F _ _ _ (fun hb=>by simp only [Bool.and_eq_true] at hb ⊢;exact ⟨hb.1,M _ hb.2⟩) h
  rw [if_neg k2] at h ⊢
  by_cases k3:(x.kind==3)=true
  ·rw [if_pos k3] at h ⊢
   exact F _ _ _ (fun hb=>by simp only [Bool.and_eq_true] at hb ⊢;exact ⟨hb.1,M _ hb.2⟩) h
  rw [if_neg k3] at h ⊢
  by_cases k4:(x.kind==4)=true
  ·rw [if_pos k4] at h ⊢
   exact F _ _ _ (fun hb=>by simp only [Bool.and_eq_true] at hb ⊢;exact ⟨⟨hb.1.1,M _ hb.1.2⟩,hb.2⟩) h
  rw [if_neg k4] at h ⊢
  by_cases k5:(x.kind==5)=true
  ·rw [if_pos k5] at h ⊢
   exact F _ _ _ (fun hb=>by simp only [Bool.and_eq_true] at hb ⊢;exact ⟨hb.1,M _ hb.2⟩) h
  rw [if_neg k5] at h ⊢
  by_cases k6:(x.kind==6)=true
  ·rw [if_pos k6] at h ⊢
   exact F _ _ _ (fun hb=>by simp only [Bool.and_eq_true] at hb ⊢;exact ⟨hb.1,M _ hb.2⟩) h
  rw [if_neg k6] at h ⊢
  by_cases k7:(x.kind==7)=true
  ·rw [if_pos k7] at h ⊢
   by_cases hp:decide (z03 x.name u.flows 0 ≥ 0)=true
   ·rw [if_pos hp] at h ⊢
    cases hg:u.flows[(z03 x.name u.flows 0).toNat]? with
    | none=>rw [hg] at h;exact h
    | some g=>rw [hg] at h;exact F _ _ _ (fun hb=>M _ hb) h
   rw [if_neg hp] at h ⊢;exact h
  rw [if_neg k7] at h ⊢
  by_cases k8:(x.kind==8)=true
  ·rw [if_pos k8] at h ⊢
   exact h
  rw [if_neg k8] at h ⊢
  by_cases k9:(x.kind==9)=true
  ·rw [if_pos k9] at h ⊢
   exact F _ _ _ (fun hb=>M _ hb) h
  rw [if_neg k9] at h ⊢
  by_cases k15:(x.kind==15)=true
  ·rw [if_pos k15] at h ⊢
   exact F _ _ _ (fun hb=>M _ hb) h
  rw [if_neg k15] at h ⊢
  exact h
mutual
theorem y36 (s:List Int):∀ (x:Nd) (h:Hd),z0h (z1f s h x)=z1w x
  | .mk kind op n name args outs params ks,h=>by
    have hk:=fun h'=>zl9 s ks h'
    unfold z1f
    repeat' split
    all_goals first
    | (simp only [z0h,z1w,hk,Bool.or_false];done)
    | (rename_i hm;simp only [Bool.and_eq_true] at hm;rw [(z68 hm.1).2.2.2];rfl)
theorem z93 (s:List Int):∀ (l:List Nd) (h:Hd),z0h (z1m s h l)=z0h l
  | [],h=>by simp [z1m]
  | x::r,h=>by simp only [z1m,zy8,y36 s x h,z93 s r h,z0h]
theorem zl9 (s:List Int):∀ (ks:List (List Nd)) (h:Hd),z2d (z4v s h ks)=z2d ks
  | [],h=>by simp [z4v]
  | l::r,h=>by simp only [z4v,z2d,z93 s l h,zl9 s r h]
end
theorem ye1 (s:List Int) (h:Hd) (x:Nd) (hm:z0v x=false):∃ y,z1f s h x=[y]/\y.kind=x.kind:=by
  rw [z52]
  repeat' split
  all_goals first
  | exact ⟨_,rfl,rfl⟩
  | (rename_i hh;rw [hm] at hh;simp at hh)
theorem z7f {u:Un} {f:Fl} {deep:Int} {w:Wh} (s:List Int) (h:Hd):∀ {l:List Nd} {all:List Int},vGo u f deep w all l=true->l≠[]->z1m s h l≠[]/\z1b (z1m s h l)=z1b l
  | [x],all,hv,_=>by
    simp only [vGo,Bool.and_eq_true] at hv
    have hc:z04 x=true:=by simpa using hv.1.2
    have hm:z0v x=false:=by
      cases hh:z0v x with
      | false=>rfl
      | true=>rw [(z68 hh).2.2.1] at hc;cases hc
    obtain ⟨y,e,hk⟩:=ye1 s h x hm
    simp [z1m,e,z1b,hk]
  | x::z::r,all,hv,_=>by
    have hv2:=hv
    unfold vGo at hv2
    simp only [Bool.and_eq_true] at hv2
    obtain ⟨i1,i2⟩:=z7f s h (l:=z::r) hv2.2 sI0
    have e:z1m s h (x::z::r)=z1f s h x++z1m s h (z::r):=by rw [z1m]
    have h1:(z1m s h (x::z::r)).getLast? = (z1m s h (z::r)).getLast?:=by
      rw [e,List.getLast?_append]
      cases hl:(z1m s h (z::r)).getLast? with
      | none=>exact absurd (List.getLast?_eq_none_iff.1 hl) i1
      | some q=>rfl
    refine ⟨by rw [e];simp [i1],?_⟩
    unfold z1b at i2 ⊢
    rw [h1,i2]
    simp [List.getLast?_cons_cons]
def whOf (f:Fl) (i l:Bool) (h:Hd):Wh:=⟨i,l,r8of f.types h.yield,r8of f.types h.next,r8of f.types h.left⟩
def hKept (s:List Int) (h:Hd):Hd:=⟨z0m s h.yield h.yield,z0m s h.next h.next,z0m s h.left h.left⟩
def HdIn (f:Fl) (h:Hd):Prop:=inR f.types.length h.yield/\inR f.types.length h.next/\inR f.types.length h.left
theorem w1_of (f:Fl) (x:Nd) (i l:Bool) (h:Hd):w1 (whOf f i l h) f x=whOf f true l ⟨x.outs,h.next,h.left⟩:=rfl
theorem w2_of (f:Fl) (x:Nd):w2 f x=whOf f false true ⟨[],x.params,x.outs⟩:=rfl
def SP (u:Un) (f:Fl) (s:List Int) (l:List Nd):Prop:=∀ (deep:Int) (i lp:Bool) (h:Hd) (all all':List Int),HdIn f h->KeepS s all all'->z3e h s l=s->vGo u f deep (whOf f i lp h) all l=true->vGo u f deep (whOf f i lp (hKept s h)) all' (z1m s h l)=true
theorem SP.list {u:Un} {f:Fl} {s:List Int} {l:List Nd} (hh:SP u f s l) {deep:Int} {i lp:Bool} {h:Hd} {all all':List Int} (hi:HdIn f h) (hs:KeepS s all all') (hw:z3e h s l=s) (hv:z2s u f deep (whOf f i lp h) all l=true):z2s u f deep (whOf f i lp (hKept s h)) all' (z1m s h l)=true:=by
  simp only [z2s,Bool.and_eq_true] at hv ⊢
  refine ⟨?_,hh deep i lp h all all' hi hs hw hv.2⟩
  have hne:l≠[]:=by intro e;subst e;simp at hv
  obtain ⟨h1,_⟩:=z7f s h hv.2 hne
  cases hq:z1m s h l with
  | nil=>exact absurd hq h1
  | cons _ _=>rfl
theorem y55 {u:Un} {f:Fl} {x:Nd} {s:List Int} {w:Wh} (h:x.kind=12):z2l u f x s w=⟨w.If&&z01 f.types s x.args w.Yield,none⟩:=by unfold z2l;simp [h]
theorem y56 {u:Un} {f:Fl} {x:Nd} {s:List Int} {w:Wh} (h:x.kind=13):z2l u f x s w=⟨w.Loop&&z01 f.types s x.args w.Next,none⟩:=by unfold z2l;simp [h]
theorem y57 {u:Un} {f:Fl} {x:Nd} {s:List Int} {w:Wh} (h:x.kind=14):z2l u f x s w=⟨w.Loop&&z01 f.types s x.args w.Left,none⟩:=by unfold z2l;simp [h]
def NodeS (u:Un) (f:Fl) (s:List Int) (h:Hd) (deep:Int) (w':Wh) (all':List Int) (x:Nd):Prop :=
  (z1f s h x=[]/\z04 x=false/\∀ v∈x.outs,¬ v∈s) ∨
  ∃ y,z1f s h x=[y]/\z4j u f deep w' all' y=true/\z04 y=z04 x/\∀ v∈x.outs,v∈s->v∈y.outs
theorem y0q {u:Un} {f:Fl} {s:List Int} {deep:Int} {w w':Wh} {all all':List Int} {x:Nd} (to:List Int) (hto:inR f.types.length to) (hs:KeepS s all all') (hw:z0y s x.args to=s) (hb:z0z x=true) (h10:(x.kind==10)=false) (h11:(x.kind==11)=false)
    (b:Bool) (hf:z2l u f x all w=⟨b&&z01 f.types all x.args (r8of f.types to),none⟩)
    (hf':z2l u f (.mk x.kind x.op x.n x.name (z0m s x.args to) x.outs x.params x.kids) all' w'=⟨b&&z01 f.types all' (z0m s x.args to) (r8of f.types (z0m s to to)),none⟩)
    (hv:z4j u f deep w all x=true):z4j u f deep w' all' (.mk x.kind x.op x.n x.name (z0m s x.args to) x.outs x.params x.kids)=true:=by
  have hb2:z0z (.mk x.kind x.op x.n x.name (z0m s x.args to) x.outs x.params x.kids)=true:=by cases x;exact hb
  rw [z1i u f deep w all hb h10 h11,hf] at hv
  rw [z1i u f deep w' all' hb2 h10 h11,hf']
  simp only [SForm.ok,Bool.and_eq_true] at hv ⊢
  exact ⟨⟨hv.1.1,y05 hs (z50 hw) hto hv.1.2⟩,hv.2⟩
theorem node_s (u:Un) (f:Fl) (s:List Int) (x:Nd) (ih:∀ q∈x.kids,SP u f s q) (deep:Int) (i lp:Bool) (h:Hd) (all all':List Int) (hi:HdIn f h) (hs:KeepS s all all') (hw:z5h h s x=s) (hv:z4j u f deep (whOf f i lp h) all x=true) :
    NodeS u f s h deep (whOf f i lp (hKept s h)) all' x:=by
  have hb:=z3u u f deep _ all hv
  rw [z6y] at hw
  unfold NodeS
  rw [z52]
  by_cases h12:x.kind=12
  ·have e:(x.kind==12)=true:=by simp [h12]
   rw [if_pos e] at hw ⊢
   refine .inr ⟨_,rfl,y0q h.yield hi.1 hs hw hb (by simp [h12]) (by simp [h12]) i (y55 h12) (y55 h12) hv,by cases x;rfl,fun v hv _=>hv⟩
  rw [if_neg (by simpa using h12)] at hw ⊢
  by_cases h13:x.kind=13
  ·have e:(x.kind==13)=true:=by simp [h13]
   rw [if_pos e] at hw ⊢
   refine .inr ⟨_,rfl,y0q h.next hi.2.1 hs hw hb (by simp [h13]) (by simp [h13]) lp (y56 h13) (y56 h13) hv,by cases x;rfl,fun v hv _=>hv⟩
  rw [if_neg (by simpa using h13)] at hw ⊢
  by_cases h14:x.kind=14
  ·have e:(x.kind==14)=true:=by simp [h14]
   rw [if_pos e] at hw ⊢
   refine .inr ⟨_,rfl,y0q h.left hi.2.2 hs hw hb (by simp [h14]) (by simp [h14]) lp (y57 h14) (y57 h14) hv,by cases x;rfl,fun v hv _=>hv⟩
  rw [if_neg (by simpa using h14)] at hw ⊢
  by_cases h10:x.kind=10
  ·have e:(x.kind==10)=true:=by simp [h10]
   rw [if_pos e] at hw ⊢
   obtain ⟨a,b,hk⟩:=z36 hb h10
   obtain ⟨e1,e2⟩:=Pre.two (z34 x.args s) (z4u x.kids _ _) hw
   rw [e1,hk] at hw
   simp only [z83] at hw
   obtain ⟨e3,e4⟩:=Pre.two (z2t a _ s) (z2t b _ _) hw
   rw [e3] at hw
   rw [z54 u f deep _ all hb h10 hk,w1_of] at hv
   simp only [Bool.and_eq_true] at hv
   have hin:HdIn f ⟨x.outs,h.next,h.left⟩:=⟨z19 hv.2,hi.2⟩
   have ha:=(ih a (by rw [hk];simp)).list hin hs e3 hv.1.1.1.2
   have hbb:=(ih b (by rw [hk];simp)).list hin hs hw hv.1.1.2
   have hva:=hv.1.1.1.2
   have hvb:=hv.1.1.2
   simp only [z2s,Bool.and_eq_true] at hva hvb
   have hla:=(z7f s ⟨x.outs,h.next,h.left⟩ hva.2 (by intro e;simp [e] at hva)).2
   have hlb:=(z7f s ⟨x.outs,h.next,h.left⟩ hvb.2 (by intro e;simp [e] at hvb)).2
   cases x with
   | mk kind op n name args outs params ks =>
     simp only [Nd.kind,Nd.kids,Nd.outs,Nd.args,Nd.params,Nd.op,Nd.n,Nd.name] at *
     subst h10 hk
     have hc:z04 (.mk 10 op n name args (z0m s outs outs) params (z4v s ⟨outs,h.next,h.left⟩ [a,b]))=z04 (.mk 10 op n name args outs params [a,b]):=by
       simp [z04,z4v,Nd.kind,Nd.kids,kid0,kid1,hla,hlb]
     refine .inr ⟨_,rfl,?_,hc,fun v hv hvs=>ze0 hv hvs⟩
     have hb2:z0z (.mk 10 op n name args (z0m s outs outs) params (z4v s ⟨outs,h.next,h.left⟩ [a,b]))=true:=(y46 (ks:=[a,b]) rfl).trans hb
     rw [z54 u f deep _ all' hb2 rfl rfl,w1_of]
     simp only [Bool.and_eq_true]
     refine ⟨⟨⟨⟨yj3 hs (zg7 e1) hv.1.1.1.1,ha⟩,hbb⟩,?_⟩,zo8 (zn4 (z19 hv.2))⟩
     have ho:=hv.1.2
     unfold zj1 at ho ⊢
     rw [hc]
     simp only [Nd.outs,Bool.or_eq_true,beq_iff_eq] at ho ⊢
     refine ho.imp_left fun e=>?_
     have:=zg9 s outs outs
     omega
  rw [if_neg (by simpa using h10)] at hw ⊢
  by_cases h11:x.kind=11
  ·have e:(x.kind==11)=true:=by simp [h11]
   rw [if_pos e] at hw ⊢
   obtain ⟨a,hk⟩:=z1t hb h11
   obtain ⟨e1,e2⟩:=Pre.two (z2f x.args x.params s) (z4u x.kids _ _) hw
   rw [e1,hk] at hw
   simp only [z83] at hw
   rw [z37 u f deep _ all hb h11 hk,w2_of] at hv
   simp only [Bool.and_eq_true] at hv
   have hp:inR f.types.length x.params:=z19 hv.1.1.1.2
   have hin:HdIn f ⟨[],x.params,x.outs⟩:=⟨fun v hv=>by simp at hv,hp,z19 hv.2⟩
   have hs2:KeepS s (all++x.params) (all'++z0m s x.params x.params):=hs.app fun v hv hvs=>ze0 hv hvs
   have ha:=(ih a (by rw [hk];simp)).list hin hs2 hw hv.1.1.2
   have hl:=z93 s a ⟨[],x.params,x.outs⟩
   cases x with
   | mk kind op n name args outs params ks =>
     simp only [Nd.kind,Nd.kids,Nd.outs,Nd.args,Nd.params,Nd.op,Nd.n,Nd.name] at *
     subst h11 hk
     have hc:z04 (.mk 11 op n name (z0m s args params) (z0m s outs outs) (z0m s params params) (z4v s ⟨[],params,outs⟩ [a]))=z04 (.mk 11 op n name args outs params [a]):=by
       simp [z04,z4v,Nd.kind,Nd.kids,kid0,hl]
     refine .inr ⟨_,rfl,?_,hc,fun v hv hvs=>ze0 hv hvs⟩
     have hb2:z0z (.mk 11 op n name (z0m s args params) (z0m s outs outs) (z0m s params params) (z4v s ⟨[],params,outs⟩ [a]))=true:=(show _=z0z (.mk 11 op n name args outs params [a]) from rfl).trans hb
     rw [z37 u f deep _ all' hb2 rfl rfl,w2_of]
     simp only [Bool.and_eq_true]
     refine ⟨⟨⟨⟨y05 hs (z50 e1) hp hv.1.1.1.1,zo8 (zn4 hp)⟩,ha⟩,?_⟩,zo8 (zn4 (z19 hv.2))⟩
     have ho:=hv.1.2
     unfold zj1 at ho ⊢
     rw [hc]
     simp only [Nd.outs,Bool.or_eq_true,beq_iff_eq] at ho ⊢
     refine ho.imp_left fun e=>?_
     have:=zg9 s outs outs
     omega
  rw [if_neg (by simpa using h11)] at hw ⊢
  have e10:(x.kind==10)=false:=by simpa using h10
  have e11:(x.kind==11)=false:=by simpa using h11
  rw [z1i u f deep _ all hb e10 e11] at hv
  by_cases hd:(z0v x && !s.contains (x.outs.headD 0))=true
  ·rw [if_pos hd]
   simp only [Bool.and_eq_true,Bool.not_eq_true'] at hd
   obtain ⟨_,hol⟩:=zc4 (s':=all) (w':=whOf f i lp h) hd.1 (fun _ _ h=>h) hv
   refine .inl ⟨rfl,(z68 hd.1).2.2.1,fun v hv hvs=>?_⟩
   have:=zw3 hol v (List.contains_iff_mem.2 hv)
   rw [<- this,List.contains_iff_mem.2 hvs] at hd
   cases hd.2
  rw [if_neg hd]
  have hc:(!z0v x||s.contains (x.outs.headD 0))=true:=by
    cases h1:z0v x<;>cases h2:s.contains (x.outs.headD 0)<;>simp_all
  rw [if_pos hc] at hw
  refine .inr ⟨x,rfl,?_,rfl,fun v hv _=>hv⟩
  rw [z1i u f deep _ all' hb e10 e11]
  exact yh3 (by simpa using h12) (by simpa using h13) (by simpa using h14) (fun v hv=>hs v (zg7 hw v hv)) hv
theorem go_s (u:Un) (f:Fl) (s:List Int):∀ (l:List Nd),(∀ x∈l,∀ q∈x.kids,SP u f s q)->SP u f s l
  | [],_=>fun _ _ _ _ _ _ _ _ _ _=>by simp [z1m,vGo]
  | x::r,ih=>fun deep i lp h all all' hi hs hw hv=>by
    have hv0:=hv
    simp only [vGo,Bool.and_eq_true] at hv
    obtain ⟨⟨⟨hd,hx⟩,hc⟩,hr⟩:=hv
    unfold z3e at hw
    obtain ⟨e1,e2⟩:=Pre.two (z99 x h s) (z2t r h _) hw
    rw [e1] at hw
    rw [show z1m s h (x::r)=z1f s h x++z1m s h r by rw [z1m]]
    rcases node_s u f s x (ih x (.head _)) deep i lp h all all' hi hs e1 hx with ⟨h1,h2,h3⟩ | ⟨y,h1,h2,h3,h4⟩
    ·rw [h1,List.nil_append]
     refine go_s u f s r (fun z hz=>ih z (.tail _ hz)) deep i lp h _ all' hi (fun v hv hc=>?_) hw hr
     rw [List.contains_append,Bool.or_eq_true] at hc
     rcases hc with hc | hc
     ·exact hs v hv hc
     exact absurd hv (h3 v (List.contains_iff_mem.1 hc))
    rw [h1,List.singleton_append]
    simp only [vGo,Bool.and_eq_true]
    refine ⟨⟨⟨hd,h2⟩,?_⟩,go_s u f s r (fun z hz=>ih z (.tail _ hz)) deep i lp h _ _ hi (hs.app h4) hw hr⟩
    rw [h3]
    have he:(z1m s h r).isEmpty=r.isEmpty:=by
      cases r with
      | nil=>simp [z1m]
      | cons z r' =>
        obtain ⟨g1,_⟩:=z7f s h hr sI0
        cases hq:z1m s h (z::r') with
        | nil=>exact absurd hq g1
        | cons _ _=>rfl
    rw [he];exact hc
theorem sp_all (u:Un) (f:Fl) (s:List Int):∀ (N:Nat) (l:List Nd),SizeOf.sizeOf l<N->SP u f s l
  | 0,_,h=>absurd h (Nat.not_lt_zero _)
  | N+1,l,hN=>go_s u f s l fun x hx q hq=>sp_all u f s N q (Nat.lt_of_lt_of_le (z5l hx rfl hq) (Nat.le_of_lt_succ hN))
theorem y8u (u:Un) (f:Fl) {all:List Int} {l:List Nd} (h:z2s u f 1 z1l all l=true):z2s u f 1 z1l all (z1m (wSet l) hd0 l)=true :=
  (sp_all u f (wSet l) _ l (Nat.lt_succ_self _)).list (i:=false) (lp:=false) (h:=hd0) ⟨fun v hv=>by simp [hd0] at hv,fun v hv=>by simp [hd0] at hv,fun v hv=>by simp [hd0] at hv⟩ (fun v _ hc=>hc) (y77 l) h
mutual
theorem ye2 (s:List Int):∀ (x:Nd) (h:Hd),List.Sublist (dL (z1f s h x)) (dN x)
  | .mk kind op n name args outs params ks,h=>by
    have hk:=fun h'=>y35 s ks h'
    unfold z1f
    repeat' split
    ·simp [dL,dN]
    ·simp [dL,dN]
    ·simp [dL,dN]
    ·simp only [dL,dN,List.append_nil]
     exact (List.Sublist.refl _).append ((hk _).append (z9e _))
    ·simp only [dL,dN,List.append_nil]
     exact (z9e _).append ((hk _).append (z9e _))
    ·simp [dL]
    simp [dL,dN]
theorem zt8 (s:List Int):∀ (l:List Nd) (h:Hd),List.Sublist (dL (z1m s h l)) (dL l)
  | [],h=>by simp [z1m]
  | x::r,h=>by
    simp only [z1m,dL_app,dL]
    exact (ye2 s x h).append (zt8 s r h)
theorem y35 (s:List Int):∀ (ks:List (List Nd)) (h:Hd),List.Sublist (dK (z4v s h ks)) (dK ks)
  | [],h=>by simp [z4v]
  | l::r,h=>by
    simp only [z4v,dK]
    exact (zt8 s l h).append (y35 s r h)
end
theorem Frs.sub {set:List Bool} {a b:List Int} (h:Frs set a) (hp:List.Sublist b a):Frs set b:=⟨h.1.sublist hp,fun v hv=>h.2 v (hp.subset hv)⟩
section
def z3y (B:List Nd->List Nd) (f:Fl):Fl:=⟨f.name,f.ty,f.params,f.types,B f.body⟩
def z3z (B:List Nd->List Nd) (u:Un):Un:=⟨u.arrays,u.flows.map (z3y B)⟩
def z6d (B:List Nd->List Nd) (u:Un):Un × Int:=if (z4r u).1==0 then (z3z B u,0) else (⟨[],[]⟩,1)
section
variable (B:List Nd->List Nd)
theorem zj3 (name:ByteArray):∀ (l:List Fl) (i:Int),z03 name (l.map (z3y B)) i=z03 name l i
  | [],_=>rfl
  | f::r,i=>by
    have ih:=zj3 name r (i+1)
    unfold z03
    rw [List.map_cons]
    simp only [ih]
    rfl
theorem sForm_m (u:Un) (f:Fl) (x:Nd) (s:List Int) (w:Wh):z2l (z3z B u) (z3y B f) x s w=z2l u f x s w:=by
  unfold z2l
  simp only [z3z,z3y,zj3,List.getElem?_map]
  cases u.flows[(z03 x.name u.flows 0).toNat]? with
  | none=>rfl
  | some g=>rfl
mutual
theorem vNode_m (u:Un) (f:Fl):∀ (x:Nd) (deep:Int) (w:Wh) (s:List Int),z4j (z3z B u) (z3y B f) deep w s x=z4j u f deep w s x
  | .mk kind op n name args outs params ks,deep,w,s=>by
    unfold z4j
    rw [sForm_m]
    match ks with
    | []=>rfl
    | [a] =>
      have h1:=y8t u f a (deep+1) (w2 f (.mk kind op n name args outs params [a])) (s++params)
      simp only [show w2 (z3y B f) (.mk kind op n name args outs params [a])=w2 f (.mk kind op n name args outs params [a]) from rfl,h1]
      rfl
    | a::b::r =>
      have h1:=y8t u f a (deep+1) (w2 f (.mk kind op n name args outs params (a::b::r))) (s++params)
      have h2:=y8t u f a (deep+1) (w1 w f (.mk kind op n name args outs params (a::b::r))) s
      have h3:=y8t u f b (deep+1) (w1 w f (.mk kind op n name args outs params (a::b::r))) s
      simp only [show w2 (z3y B f) (.mk kind op n name args outs params (a::b::r))=w2 f (.mk kind op n name args outs params (a::b::r)) from rfl,show w1 w (z3y B f) (.mk kind op n name args outs params (a::b::r))=w1 w f (.mk kind op n name args outs params (a::b::r)) from rfl,h1,h2,h3]
      rfl
theorem y8t (u:Un) (f:Fl):∀ (l:List Nd) (deep:Int) (w:Wh) (s:List Int),vGo (z3z B u) (z3y B f) deep w s l=vGo u f deep w s l
  | [],_,_,_=>by simp [vGo]
  | x::r,deep,w,s=>by
    unfold vGo
    rw [vNode_m u f x,y8t u f r]
end
def zk5 (u:Un) (f:Fl) (l:List Nd):Prop:=z2s u f 1 z1l (iota f.params.toNat) l=true/\Frs (z3f f.params.toNat f.types.length) (dL l)
theorem zq2 {u:Un} {f:Fl} (h:z2v u f=true):f.params.toNat<=f.types.length:=by
  unfold z2v at h
  simp only [Bool.and_eq_true] at h
  have a1:=h.1.1.1.1.1
  have a2:=h.1.1.1.2
  simp only [Bool.not_eq_true',decide_eq_false_iff_not] at a1 a2
  omega
theorem y29 {u:Un} {f:Fl} (h:z2v u f=true):zk5 u f f.body:=by
  have hn:(z3f f.params.toNat f.types.length).length=f.types.length:=z2z (zq2 h)
  unfold z2v at h
  simp only [Bool.and_eq_true] at h
  have h2:=h.2
  rw [z9n u f f.body 1 z1l _ _ hn] at h2
  exact h2
theorem flow_m {u:Un} {f:Fl} (h:z2v u f=true) (hB:zk5 u f f.body->zk5 u f (B f.body)):z2v (z3z B u) (z3y B f)=true:=by
  have hb:=hB (y29 h)
  have hn:(z3f f.params.toNat f.types.length).length=f.types.length:=z2z (zq2 h)
  unfold z2v at h ⊢
  simp only [Bool.and_eq_true] at h ⊢
  refine ⟨h.1,?_⟩
  show (z1o (z3z B u) (z3y B f) 1 z1l (iota f.params.toNat) (z3f f.params.toNat f.types.length) (B f.body)).1=true
  rw [z9n (z3z B u) (z3y B f) (B f.body) 1 z1l _ _ hn]
  have hv:=hb.1
  simp only [z2s,Bool.and_eq_true] at hv ⊢
  exact ⟨⟨hv.1,by rw [y8t];exact hv.2⟩,hb.2⟩
theorem gA_m (u:Un):∀ (l:List Ar) (i:Int),r8gA (z3z B u) l i=r8gA u l i
  | [],_=>rfl
  | a::r,i=>by
    have h1:gArr (z3z B u) a i=gArr u a i:=by simp only [gArr,z3z,zj3]
    simp only [r8gA,gA_m u r,h1]
theorem gF_m (u:Un):∀ (l:List Fl) (i:Int),r8gF (z3z B u) (l.map (z3y B)) i=r8gF u l i
  | [],_=>rfl
  | a::r,i=>by
    have h1:gFlw (z3z B u) (z3y B a) i=gFlw u a i:=by
      simp only [gFlw,z3z,zj3]
      rfl
    simp only [List.map_cons,r8gF,gF_m u r,h1]
theorem zy3 (l:List Fl) (k:Nat):((l.map (z3y B)).getD k y27).ty=(l.getD k y27).ty/\((l.map (z3y B)).getD k y27).params=(l.getD k y27).params:=by
  simp only [List.getD_eq_getElem?_getD,List.getElem?_map]
  cases l[k]? with
  | none=>exact ⟨rfl,rfl⟩
  | some g=>exact ⟨rfl,rfl⟩
theorem ya8 (u:Un):z13 (z3z B u)=z13 u:=by
  unfold z13
  rw [show (z3z B u).arrays=u.arrays from rfl,show (z3z B u).flows=u.flows.map (z3y B) from rfl,gA_m,gF_m]
  unfold z6u
  rw [show (z3z B u).flows=u.flows.map (z3y B) from rfl,zj3,(zy3 B _ _).1,(zy3 B _ _).2]
theorem check_m {u:Un} (h:(z18 u).1=0) (hB:∀ f∈u.flows,zk5 u f f.body->zk5 u f (B f.body)):z18 (z3z B u)=(0,0):=by
  obtain ⟨h1,h2⟩:=(z74 u).1 h
  unfold z18
  rw [ya8,h1,if_pos rfl]
  refine zx8 (z3z B u) _ 0 fun g hg=>?_
  obtain ⟨f,hf,rfl⟩:=List.mem_map.1 hg
  exact flow_m B (h2 f hf) (hB f hf)
theorem y1w {u:Un} (h:(z18 u).1=0):∀ f∈u.flows,zk5 u f f.body:=fun f hf=>y29 (((z74 u).1 h).2 f hf)
theorem wtF_m (hw:∀ l,z4b (B l)<=z4b l):∀ l:List Fl,wtF (l.map (z3y B))<=wtF l
  | []=>Nat.le_refl _
  | f::r=>by
    have h1:=hw f.body
    have h2:=wtF_m hw r
    simp only [List.map_cons,wtF,z3y] at h2 ⊢
    omega
theorem y78 (hw:∀ l,z4b (B l)<=z4b l) (u:Un):z0r (z3z B u)<=z0r u:=by
  have:=wtF_m B hw u.flows
  unfold z0r
  rw [show (z3z B u).flows=u.flows.map (z3y B) from rfl,List.length_map,show (z3z B u).arrays=u.arrays from rfl]
  omega
theorem zz5 {u:Un} (h:(z18 u).1≠0):z6d B u=(⟨[],[]⟩,1):=by
  have:((z4r u).1==0)=false:=by rw [zj8];simpa using h
  simp [z6d,this]
theorem z6e {u:Un} (h:(z18 u).1=0):z6d B u=(z3z B u,0):=by
  have:((z4r u).1==0)=true:=by rw [zj8];simpa using h
  simp [z6d,this]
theorem y0u (hw:∀ l,z4b (B l)<=z4b l) (u:Un):z0r (z6d B u).1<=z0r u:=by
  unfold z6d
  split
  ·exact y78 B hw u
  simp [z0r,wtA,wtF]
end
end
end Go.Proofs.YtiflpehjefhnmaaGreat
