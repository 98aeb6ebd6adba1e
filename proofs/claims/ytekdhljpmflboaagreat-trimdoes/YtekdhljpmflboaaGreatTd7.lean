/- What comes out of trim does what the unit by numbers does, at no more cost, with no less fuel left; and the other way round. No conditions. -/
import Derived.Test.YtekdhljpmflboaaGreatTd6
set_option maxRecDepth 8000
set_option maxHeartbeats 2000000
set_option linter.unusedSimpArgs false
set_option linter.unusedVariables false
set_option linter.unusedSectionVars false
namespace Go.Proofs.YtekdhljpmflboaaGreat
open Go
section
def Tx (g g':Gn):Prop:=Ty12 g.types->Ty12 g'.types
section
variable (l:List UInt8)
theorem y58 (seen ts:List Int) (g:Gn):Tx g (z1l l seen ts g).2:=fun h=>by rw [(z1j l seen ts g).1];exact h
theorem y10 (g:Gn):Tx g (z0n l g).2:=fun h=>by rw [(z4s l g).1];exact h
theorem y59 {ts:List Int} (ht:Ty12 ts) (g:Gn):Tx g (z0j ts g).2:=fun h=>by
  rw [(z22 ts g).1]
  intro t hx
  rcases List.mem_append.1 hx with hx | hx
  ·exact h t hx
  exact ht t hx
theorem y0z (kind op n:Int) (name:ByteArray) (seen ins:List Int) {outs:List Int} (ho:Ty12 outs) (g:Gn):Tx g (z46 l kind op n name seen ins outs g).2:=fun h=>y59 ho _ (y58 l seen ins g h)
theorem t12_1:Ty12 [1]:=by intro t ht;simp at ht;omega
theorem t12_2:Ty12 [2]:=by intro t ht;simp at ht;omega
theorem y8f:Ty12 []:=by intro t ht;simp at ht
theorem yk8 (seen:List Int) (g:Gn):Tx g (z1r l seen g).2:=by
  intro h
  unfold z1r
  simp only
  repeat' split
  all_goals first
  | exact y0z l _ _ _ _ _ _ t12_1 _ h
  | exact y0z l _ _ _ _ _ _ t12_2 _ h
  | exact y0z l _ _ _ _ _ _ y8f _ h
theorem tx_end (seen:List Int) (p:Plc) (g:Gn):Tx g (gEnd l seen p g).2:=by
  intro h
  unfold gEnd
  simp only
  repeat' split
  all_goals exact y0z l _ _ _ _ _ _ y8f _ h
def y8y (rec:GRec):Prop:=∀ seen p g,Tx g (rec seen p g).2
theorem yk7 (x:List Int->Nd) {t:List Int} (ht:Ty12 t) (g:Gn):Tx g (z7g x t g).2:=by
  intro h
  unfold z7g
  split
  ·exact h
  exact y59 ht g h
theorem tx_if {rec:GRec} (hr:y8y rec) (all:List Int) (p:Plc) (g:Gn):Tx g (gIf l rec all p g).2:=fun h=>by
  unfold gIf
  exact yk7 _ (z9k l g) _ (hr _ _ _ (hr _ _ _ (y58 l _ _ _ (y10 l g h))))
theorem tx_loop {rec:GRec} (hr:y8y rec) (all:List Int) (g:Gn):Tx g (z9n l rec all g).2:=fun h=>by
  unfold z9n
  exact yk7 _ (z9k l _) _ (hr _ _ _ (y59 (z9k l g) _ (y58 l _ _ _ (y10 l _ (y10 l g h)))))
theorem tx_any {rec:Option GRec} (hr:∀ r,rec=some r->y8y r) (all:List Int) (p:Plc) (g:Gn):Tx g (gAny l rec all p g).2:=fun h=>by
  have hs:Ty12 (z05 l 6 (z1r l all { g with left:=g.left - 1 }).2).2.types:=yk8 l all { g with left:=g.left - 1 } h
  unfold gAny
  simp only
  cases rec with
  | none=>exact hs
  | some r =>
    simp only
    split
    ·exact tx_if l (hr r rfl) all p _ hs
    split
    ·exact tx_loop l (hr r rfl) all _ hs
    exact hs
theorem y5a {rec:Option GRec} (hr:∀ r,rec=some r->y8y r) (p:Plc):∀ (i:Nat) (all:List Int) (g:Gn),Tx g (z5d l rec p i all g).2
  | 0,all,g=>tx_end l all p g
  | i+1,all,g=>fun h=>by
    unfold z5d
    split
    ·exact tx_end l all p g h
    split
    ·exact tx_any l hr all p g h
    exact y5a hr p i _ _ (tx_any l hr all p g h)
theorem tx_list (d:Nat):y8y (z2z l d):=by
  induction d with
  | zero =>
    intro seen p g h
    rw [z5v]
    exact y5a l (rec:=gRec l 0) (fun r h=>by cases h) p _ _ _ h
  | succ d ih =>
    intro seen p g h
    rw [z5v]
    exact y5a l (rec:=gRec l (d+1)) (fun r h=>by cases h;exact ih) p _ _ _ h
theorem y1l {k n:Nat} {v:Int} (h:(k:Int)<=v):(z34 k n).getD v.toNat false=false:=by
  unfold z34
  rw [List.getD]
  rw [List.getElem?_append_right (by simp;omega)]
  cases hq:(List.replicate (n - k) false)[v.toNat - (List.replicate k true).length]? with
  | none=>rfl
  | some b=>rw [List.eq_of_mem_replicate (List.mem_of_getElem? hq)];rfl
theorem zg8 (name:ByteArray) (params:List Int) (hS:(z0j params ⟨0,[],0⟩).1=iota params.length) (g:Gn):∃ (B:Gn) (L:List Nd) (R:Gn),(z2y l name params g).1=⟨name,1,params.length,R.types,zo9 params.length (params.length+1)++L⟩/\(L,R)=z2z l 3 (iota params.length++[(params.length:Int),((params.length+1:Nat):Int)]) plc0 B/\B.types=params++[1,2]:=by
  have hG:∀ (ts:List Int) (a b:Gn),a.types=b.types->(z0j ts a).1=(z0j ts b).1:=by
    intro ts
    induction ts with
    | nil=>intro a b _;rfl
    | cons t r ih =>
      intro a b e
      simp only [z0j,z07,e]
      rw [ih { a with types:=b.types++[t] } { b with types:=b.types++[t] } rfl]
  have h1:(z0j params { g with types:=[],left:=30 }).1=iota params.length:=(hG params { g with types:=[],left:=30 } ⟨0,[],0⟩ rfl).trans hS
  have h2:(z0j params { g with types:=[],left:=30 }).2.types=params:=by rw [(z22 params _).1];simp
  refine ⟨(z07 2 (z07 1 (z0j params { g with types:=[],left:=30 }).2).2).2,_,_,?_,rfl,?_⟩
  ·unfold z2y
   simp only [h1]
   simp only [z07,h2,List.length_append,List.length_cons,List.length_nil]
   rfl
  simp only [z07,h2];simp
end
section
variable (l:List UInt8) {u:Un}
theorem y9y (name:ByteArray) (params:List Int) (hS:(z0j params ⟨0,[],0⟩).1=iota params.length) (hp:Ty12 params) (hpl:params.length<=8) (g:Gn) (E:Env u (z2y l name params g).1):z2j u (z2y l name params g).1=true:=by
  have hw:=(zc4 l name params oM0 g).1
  obtain ⟨B,L,R,e,eL,eB⟩:=zg8 l name params hS g
  generalize (z2y l name params g).1=F at *
  have hFt:F.types=R.types:=by rw [e]
  have hFb:F.body=[.mk 1 0 3 z0l [] [(params.length:Int)] [] [],.mk 2 0 1 z0l [] [((params.length+1:Nat):Int)] [] []]++L:=by rw [e];rfl
  have hFp:F.params=params.length:=by rw [e]
  clear e
  have pR:Px B R:=by have:=y0f l 3 (iota params.length++[(params.length:Int),((params.length+1:Nat):Int)]) plc0 B;rw [<- eL] at this;exact this
  have hB2:Ty12 B.types:=by
    rw [eB]
    intro t ht
    rcases List.mem_append.1 ht with ht | ht
    ·exact hp t ht
    simp at ht;omega
  have tR:Ty12 F.types:=by have:=tx_list l 3 (iota params.length++[(params.length:Int),((params.length+1:Nat):Int)]) plc0 B hB2;rw [<- eL] at this;rw [hFt];exact this
  obtain ⟨q,eR⟩:=pR
  rw [<- hFt] at eR
  have hBl:B.types.length=params.length+2:=by rw [eB];simp
  have hRl:params.length+2<=F.types.length:=by rw [eR,List.length_append,hBl];omega
  have hxT:PxT B F.types:=⟨q,eR⟩
  have hi:F.types.getD params.length 0=1:=by
    rw [<- hxT.getD oM0,eB];simp [List.getD]
  have hb:F.types.getD (params.length+1) 0=2:=by
    rw [<- hxT.getD oM0,eB];simp [List.getD]
  -- the list behind the first two z0m
  have hSn:Sn F.types B.types.length (iota params.length++[(params.length:Int),((params.length+1:Nat):Int)]):=by
    refine ⟨?_,⟨(params.length:Int),by simp,by simpa using hi⟩,⟨((params.length+1:Nat):Int),by simp,by rw [Int.toNat_natCast];exact hb⟩,fun s hs=>?_⟩
    ·by_cases h0:params.length=0
     ·simp [h0]
     refine List.mem_append_left _ ?_
     simp only [iota,List.mem_map,List.mem_range]
     exact ⟨0,by omega,rfl⟩
    rw [hBl]
    rcases List.mem_append.1 hs with hs | hs
    ·simp only [iota,List.mem_map,List.mem_range] at hs
     obtain ⟨j,hj,rfl⟩:=hs
     omega
    simp only [List.mem_cons,List.not_mem_nil,or_false] at hs
    omega
  have hL:=list_ok l E 3 (iota params.length++[(params.length:Int),((params.length+1:Nat):Int)]) plc0 B z1d 1 (by rw [<- eL];exact ⟨[],by simp [hFt]⟩) hSn ⟨y8f,y8f,y8f⟩ ⟨fun h=>(by cases h),fun h=>(by cases h),fun _=>rfl,fun _=>rfl⟩ oM0
  have hF:=y76 l 3 (iota params.length++[(params.length:Int),((params.length+1:Nat):Int)]) plc0 B
  rw [<- eL] at hL hF
  simp only [z2t,Bool.and_eq_true] at hL
  rw [hBl,<- hFt] at hF
  have hn:(z34 params.length F.types.length).length=F.types.length:=z2x oM0
  unfold z2j
  rw [hFp,hFb]
  simp only [Bool.and_eq_true,Bool.not_eq_true',decide_eq_false_iff_not,List.all_eq_true,Int.toNat_natCast]
  refine ⟨⟨⟨⟨⟨by omega,by omega⟩,by omega⟩,by omega⟩,fun t ht=>?_⟩,?_⟩
  ·rcases tR t ht with rfl | rfl<;>rfl
  rw [z9f u _ _ 1 z1d _ _ hn]
  have l1:Leaf u F (iota params.length) z1d (.mk 1 0 3 z0l [] [(params.length:Int)] [] []):=leaf1 (by
    simp only [z21,z4y,Int.toNat_natCast,hi]
    rw [decide_eq_true oM0,decide_eq_true oM0];rfl)
  have l2:Leaf u F (iota params.length++[(params.length:Int)]) z1d (.mk 2 0 1 z0l [] [((params.length+1:Nat):Int)] [] []):=leaf2 (.inr rfl) (by
    simp only [z21,z4y,Int.toNat_natCast,hb]
    rw [decide_eq_true oM0,decide_eq_true oM0];rfl)
  have c1:z01 (.mk 1 0 3 z0l [] [(params.length:Int)] [] [])=false:=rfl
  have c2:z01 (.mk 2 0 1 z0l [] [((params.length+1:Nat):Int)] [] [])=false:=rfl
  have hD:Fresh params.length F.types.length (dL ([.mk 1 0 3 z0l [] [(params.length:Int)] [] [],.mk 2 0 1 z0l [] [((params.length+1:Nat):Int)] [] []]++L)):=by
    have e1:dL ([.mk 1 0 3 z0l [] [(params.length:Int)] [] [],.mk 2 0 1 z0l [] [((params.length+1:Nat):Int)] [] []]++L)=[(params.length:Int)]++([((params.length+1:Nat):Int)]++dL L):=by simp [dL,dN,dK]
    rw [e1]
    have f1:Fresh params.length (params.length+1) [(params.length:Int)]:=⟨by simp,fun v hv=>by rw [List.mem_singleton.1 hv];omega⟩
    have f2:Fresh (params.length+1) (params.length+2) [((params.length+1:Nat):Int)]:=⟨by simp,fun v hv=>by rw [List.mem_singleton.1 hv];omega⟩
    exact f1.app (f2.app hF (Nat.le_refl _) oM0 hRl) (Nat.le_refl _) oM0 oM0
  refine ⟨?_,hD.1,fun v hv=>y1l (hD.2 v hv).1⟩
  have hemp:L.isEmpty=false:=by simpa using hL.1
  have hgo:vGo u F 1 z1d (iota params.length++[(params.length:Int)]++[((params.length+1:Nat):Int)]) L=true:=by
    rw [List.append_assoc]
    exact hL.2
  have d1:(!decide ((1:Int) > 100))=true:=rfl
  show (true&&(!decide ((1:Int) > 100)&&z2r u F 1 z1d (iota params.length) (.mk 1 0 3 z0l [] [(params.length:Int)] [] [])&&(z01 (.mk 1 0 3 z0l [] [(params.length:Int)] [] [])==false) &&
    (!decide ((1:Int) > 100)&&z2r u F 1 z1d (iota params.length++[(params.length:Int)]) (.mk 2 0 1 z0l [] [((params.length+1:Nat):Int)] [] [])&&(z01 (.mk 2 0 1 z0l [] [((params.length+1:Nat):Int)] [] [])==L.isEmpty)&&vGo u F 1 z1d (iota params.length++[(params.length:Int)]++[((params.length+1:Nat):Int)]) L)))=true
  rw [l1.ok,l2.ok,c1,c2,hemp,hgo]
  rfl
end
theorem made_ok (l:List UInt8):(z1a (made l)).1=0:=by
  have S0:(z0j [] ⟨0,[],0⟩).1=iota ([]:List Int).length:=rfl
  have S2:(z0j [1,2] ⟨0,[],0⟩).1=iota ([1,2]:List Int).length:=rfl
  generalize hm:z2y l z0b [] ⟨0,[],0⟩=m
  have eM:made l=⟨[⟨z79,4⟩],[m.1,(z2y l z3p [1,2] m.2).1]⟩:=by unfold made;simp only [hm]
  obtain ⟨B1,L1,R1,e1,eL1,eB1⟩:=zg8 l z0b [] S0 ⟨0,[],0⟩
  obtain ⟨B2,L2,R2,e2,eL2,eB2⟩:=zg8 l z3p [1,2] S2 m.2
  rw [hm] at e1
  have n1:m.1.name=z0b:=by rw [e1]
  have n2:(z2y l z3p [1,2] m.2).1.name=z3p:=by rw [e2]
  have q11:eqS z0b z0b=true:=by decide +kernel
  have q12:eqS z0b z3p=false:=by decide +kernel
  have q22:eqS z3p z3p=true:=by decide +kernel
  have q21:eqS z3p z0b=false:=by decide +kernel
  have qa1:eqS z0b z79=false:=by decide +kernel
  have qa2:eqS z3p z79=false:=by decide +kernel
  have pF:z04 z3p (made l).flows 0=1:=by rw [eM];simp [z04,n1,n2,q12,q22]
  have pM:z04 z0b (made l).flows 0=0:=by rw [eM];simp [z04,n1,q11]
  have pA:z04 z79 (made l).flows 0 = -1:=by rw [eM];simp [z04,n1,n2,qa1,qa2]
  have aA:z0e z79 (made l).arrays 0=0:=by
    rw [eM]
    show z0e z79 [⟨z79,4⟩] 0=0
    decide +kernel
  have take2:(z2y l z3p [1,2] m.2).1.types.take 2=[1,2]:=by
    rw [e2]
    have pR:Px B2 R2:=by have:=y0f l 3 (iota ([1,2]:List Int).length++[(([1,2]:List Int).length:Int),((([1,2]:List Int).length+1:Nat):Int)]) plc0 B2;rw [<- eL2] at this;exact this
    obtain ⟨q,eR⟩:=pR
    show R2.types.take 2=[1,2]
    rw [eR,eB2];rfl
  have env:∀ f:Fl,f.ty=1->Env (made l) f:=fun f hf=>⟨hf,by rw [aA];decide,by rw [pF];decide,⟨(z2y l z3p [1,2] m.2).1,by rw [pF,eM];rfl,by rw [show (z2y l z3p [1,2] m.2).1.params=2 by rw [e2];rfl];exact take2,by rw [e2]⟩⟩
  rw [z4r]
  refine ⟨?_,fun f hf=>?_⟩
  ·have z1:z3a z0b=true:=by decide +kernel
   have z2:z3a z3p=true:=by decide +kernel
   have z3:z3a z79=true:=by decide +kernel
   have hl2:2<=(z2y l z3p [1,2] m.2).1.types.length:=by
     have:=congrArg List.length take2
     simp at this;omega
   have ga:r8gA (made l) (made l).arrays 0=true:=by
     have:r8gA (made l) [⟨z79,4⟩] 0=true:=by
       simp only [r8gA,gArr,z3,aA,pA];decide
     rw [eM] at this ⊢;exact this
   have gf:r8gF (made l) (made l).flows 0=true:=by
     have:r8gF (made l) [m.1,(z2y l z3p [1,2] m.2).1] 0=true:=by
       have t1:m.1.ty=1:=by rw [e1]
       have t2:(z2y l z3p [1,2] m.2).1.ty=1:=by rw [e2]
       have p1:m.1.params=0:=by rw [e1];rfl
       have p2:(z2y l z3p [1,2] m.2).1.params=2:=by rw [e2];rfl
       simp only [r8gF,gFlw,n1,n2,z1,z2,pF,pM,t1,t2,p1,p2]
       rw [decide_eq_false (show ¬ (0:Int) > m.1.types.length by omega),decide_eq_false (show ¬ (2:Int) > (z2y l z3p [1,2] m.2).1.types.length by omega)]
       decide
     rw [eM] at this ⊢;exact this
   have gm:z6r (made l)=true:=by
     unfold z6r
     rw [pM,eM]
     show (decide ((0:Int) ≥ 0)&&m.1.ty==1&&m.1.params==0)=true
     rw [e1];rfl
   unfold z10
   rw [ga,gf,gm];rfl
  have hf2:f=m.1∨f=(z2y l z3p [1,2] m.2).1:=by rw [eM] at hf;simpa using hf
  rcases hf2 with rfl | rfl
  ·rw [<- hm];exact y9y l z0b [] S0 y8f dC0 ⟨0,[],0⟩ (env _ (by rw [hm,e1]))
  exact y9y l z3p [1,2] S2 (by intro t ht;simp at ht;omega) dC0 m.2 (env _ (by rw [e2]))
end
set_option maxRecDepth 20000
theorem y4l (l:List UInt8) (ins:List Int) (n:Int) (hn:0<=n/\n<=255):SC Tryz.prog 5 [.pv (bts l),.pv (ints ins),.pv (.val (.int .u8 n))] [] (fun k=>k∈[]) (iBool true) []:=by
  refine SC.vc tb {} [] Tryz.func5 rfl rfl ?_
  have hW:=wt_made l
  have hz:=made_ok l
  have hH:=z69 trB hz
  have h1:=y4k (made l) hW
  rw [hH] at h1
  have hB:=y4m (trim_rel hz) (by show 1<=1;decide) hW (Nat.le_trans (y6u trB zw4 _) hW) hz (by rw [zu6 hz]) (made_sz l) (ins.take 10) n ⟨hn.1,by omega⟩
  have hw:IntKind.i64.wrap n=n:=IntWalk.i64_in n oM0
  rw [<- hw] at hB
  exact ⟨[],sc_awake,sR,trivial,rfl,[],sc_made l,sR,trivial,rfl,[],h1,sR,trivial,rfl,[],sc_ins ins,sR,trivial,rfl,[],hB,sR,trivial,rfl,sI,trivial⟩
section
open Go Go.ChangeShapes Go.WideShapes Go.ChangeAt Go.RowKit
section
variable {H:Type} {enc:TypeId × Value->H} {P:Program} {w:World} {base:Nat} {spare:Nat->Bool} {held:Bool}
def RepEl (own:Nat->Prop) (w:World) (ps:List PV) (cs:List Value):Prop:=ps.length=cs.length/\∀ (j:Nat) p v,ps[j]? = some p->cs[j]? = some v->RepP own w p v
theorem RepEl.nil {own:Nat->Prop}:RepEl own w [] []:=⟨rfl,fun j p v h=>by simp at h⟩
theorem RepEl.cons {own:Nat->Prop} {p:PV} {v:Value} {ps:List PV} {cs:List Value} (h:RepP own w p v) (hr:RepEl own w ps cs):RepEl own w (p::ps) (v::cs):=by
  refine ⟨by simp [hr.1],fun j q x hq hx=>?_⟩
  cases j with
  | zero=>simp at hq hx;subst hq;subst hx;exact h
  | succ j=>exact hr.2 j q x (by simpa using hq) (by simpa using hx)
theorem zu7 {α:Type} (f:α -> List PV) (wt:α -> Nat) {own:Nat->Prop} (R:Nat->DataW H × List MemPlace->List Value->Prop)
    (hR:∀ i y cs,R i y cs->∃ z:α,RepEl own w (f z) cs/\wt z+1<=Rows.uptoBulk y.1) :
    ∀ (ys:List (DataW H × List MemPlace)) (s:Nat),(∀ i y,ys[i]? = some y->∃ cs,R (s+i) y cs) ->
      ∃ l:List α,l.length=ys.length/\(∀ i z,l[i]? = some z->∃ y cs,ys[i]? = some y/\R (s+i) y cs/\RepEl own w (f z) cs)/\(l.map wt).sum+l.length<=Rows.uptoBulkAll (ys.map (·.1))
  | [],_,_=>⟨[],rfl,fun i z h=>by simp at h,by simp [Rows.uptoBulkAll]⟩
  | y::ys,s,h=>by
    obtain ⟨cs,hcs⟩:=h 0 y rfl
    obtain ⟨z,hz,hw⟩:=hR _ _ _ hcs
    obtain ⟨l,hl,hg,hb⟩:=zu7 f wt R hR ys (s+1) (fun i y' hy=>by
      have:=h (i+1) y' (by simpa using hy)
      rwa [show s+1+i=s+(i+1) by omega])
    refine ⟨z::l,by simp [hl],fun i z' hz'=>?_,?_⟩
    ·cases i with
     | zero=>simp at hz';subst hz';exact ⟨y,cs,rfl,hcs,hz⟩
     | succ i =>
       obtain ⟨y',cs',h1,h2,h3⟩:=hg i z' (by simpa using hz')
       exact ⟨y',cs',by simpa using h1,by rwa [show s+(i+1)=s+1+i by omega],h3⟩
    simp only [List.map_cons,List.sum_cons,List.length_cons,Rows.uptoBulkAll];omega
theorem y35 {α:Type} (f:α -> List PV) (wt:α -> Nat) {own:Nat->Prop} (hown:∀ b,b<w.heap.size -> ¬ own b) {t e:TypeId} {fuel:Nat} {cs:List Value} {x:DataW H × List MemPlace} {N:Nat} (ht:P.underlying t=some (.slice e)) (hC:P.cellsOf e=N) (hN:0<N)
    (h:DataW.trod enc P w base spare held fuel t cs=some x)
    (hel:∀ n cs' y,n<fuel->cs'.length=N->DataW.trod enc P w base spare held n e cs'=some y->∃ z:α,RepEl own w (f z) cs'/\wt z+1<=Rows.uptoBulk y.1) :
    ∃ (l:List α) (v:Value),cs=[v]/\RepP own w (.seq (l.map f)) v/\(l.map wt).sum+l.length+1<=Rows.uptoBulk x.1:=by
  rcases DataW.trod_slice ht h with ⟨rfl,rfl⟩ | ⟨a,len,cap,elems,rest,n,rfl,rfl,rfl,hb,hl,hm,hlen,hg,_,_⟩
  ·refine ⟨[],_,rfl,?_,by simp [Rows.uptoBulk]⟩
   have:=RepP.seq (own:=own) (w:=w) [] none 0 0 0 (fun _ _=>default) (fun h=>absurd rfl h) (fun h=>absurd rfl h) (Nat.le_refl _) (Nat.zero_le _) (fun i el h=>by simp at h) (fun i el h=>by simp at h)
   simpa using this
  obtain ⟨l,hll,hat,hsum⟩:=zu7 (w:=w) f wt (own:=own) (fun i y cs=>w.cells? base (a.add (i*P.cellsOf e)) (P.cellsOf e)=some cs/\DataW.trod enc P w base spare held n e cs=some y)
    (fun i y cs' hr=>hel n cs' y (Nat.lt_succ_self _) (by rw [(World.cells?_some hr.1).2.1,hC]) hr.2) elems 0 (fun i y hy=>by
      have hlt:i<len:=by rw [<- hlen];exact (List.getElem?_eq_some_iff.1 hy).1
      have h1:=hg i hlt
      rw [hy,Option.bind_eq_some_iff] at h1
      obtain ⟨cs',h2,h3⟩:=h1
      exact ⟨cs',by rw [Nat.zero_add];exact h2,h3⟩)
  obtain ⟨ab,ao,asp⟩:=a
  have hlen2:l.length=len:=by rw [hll,hlen]
  -- a cell that can be read
  have hsp:l≠[]->asp=none/\ab<w.heap.size:=by
    intro hne
    obtain ⟨z,r,rfl⟩:=List.exists_cons_of_ne_nil hne
    obtain ⟨y,cs',_,hr,hrep⟩:=hat 0 z rfl
    obtain ⟨_,hcl,hcell⟩:=World.cells?_some hr.1
    have h0:=hcell 0 (by rw [hC];exact hN)
    have hlt:0<cs'.length:=by rw [hcl,hC];exact hN
    rw [List.getElem?_eq_getElem hlt] at h0
    unfold World.cell? at h0
    have e0:(Addr.add (Addr.add ⟨ab,ao,asp⟩ ((0+0)*P.cellsOf e)) 0)=⟨ab,ao,asp⟩:=by simp [Addr.add]
    rw [e0] at h0
    split at h0
    ·rename_i hh
     refine ⟨?_,(Array.getElem?_eq_some_iff.1 hh).1⟩
     cases asp with
     | none=>rfl
     | some _=>simp at h0
    cases h0
  refine ⟨l,_,rfl,?_,?_⟩
  ·-- the cells of an element
   have key:∀ i z,l[i]? = some z->∃ cs',RepEl own w (f z) cs'/\cs'.length=N/\∀ j,j<N->w.cell? ⟨ab,ao+i*N+j,none⟩=cs'[j]?:=by
     intro i z hz
     obtain ⟨y,cs',_,hr,hrep⟩:=hat i z hz
     obtain ⟨_,hcl,hcell⟩:=World.cells?_some hr.1
     refine ⟨cs',hrep,hcl.trans hC,fun j hj=>?_⟩
     have h1:=hcell j (by rw [hC];exact hj)
     have hne:l≠[]:=by intro e;subst e;simp at hz
     have hs:=(hsp hne).1
     subst hs
     rw [<- h1,Addr.add_mid,Addr.add_mid,hC,Nat.zero_add]
   have hrep:=RepP.seq (own:=own) (w:=w) (l.map f) (some ⟨ab,ao,asp⟩) cap ab ao (fun i j=>(w.cell? ⟨ab,ao+i*N+j,none⟩).getD default)
     (fun hne=>by rw [(hsp (by intro e;subst e;exact hne rfl)).1]) (fun hne=>by
       have:=(hsp (by intro e;subst e;exact hne rfl)).2
       exact ⟨hown _ this,this⟩) (by simp;omega) hm ?_ ?_
   ·rw [List.length_map,hlen2] at hrep;exact hrep
   ·intro i el hi j c hj
    rw [List.getElem?_map,Option.map_eq_some_iff] at hi
    obtain ⟨z,hz,rfl⟩:=hi
    obtain ⟨cs',hrep,hcl,hcell⟩:=key i z hz
    have hjN:j<N:=by have:=(List.getElem?_eq_some_iff.1 hj).1;rw [hrep.1,hcl] at this;exact this
    have h1:=hcell j hjN
    have hfl:(f z).length=N:=by rw [hrep.1,hcl]
    rw [hfl,h1,List.getElem?_eq_getElem oM0]
    rfl
   intro i el hi j c hj
   rw [List.getElem?_map,Option.map_eq_some_iff] at hi
   obtain ⟨z,hz,rfl⟩:=hi
   obtain ⟨cs',hrep,hcl,hcell⟩:=key i z hz
   have hjN:j<N:=by have:=(List.getElem?_eq_some_iff.1 hj).1;rw [hrep.1,hcl] at this;exact this
   have h1:=hcell j hjN
   rw [List.getElem?_eq_getElem oM0] at h1
   rw [h1]
   exact hrep.2 j c _ hj (List.getElem?_eq_getElem oM0)
  simp only [Rows.uptoBulk];omega
theorem yk5 {own:Nat->Prop} (hown:∀ b,b<w.heap.size -> ¬ own b) {t e:TypeId} {fuel:Nat} {cs:List Value} {x:DataW H × List MemPlace} (ht:P.underlying t=some (.slice e)) (he:P.underlying e=some (.int .i64)) (hC:P.cellsOf e=1)
    (h:DataW.trod enc P w base spare held fuel t cs=some x):∃ (l:List Int) (v:Value),cs=[v]/\RepP own w (ints l) v/\l.length+1<=Rows.uptoBulk x.1:=by
  obtain ⟨l,v,h1,h2,h3⟩:=y35 eInt (fun _=>0) hown ht hC dC0 h (fun n cs' y _ _ hy=>by
    obtain ⟨k,rfl,rfl,_⟩:=DataW.trod_int he hy
    exact ⟨k,RepEl.cons (.val _) .nil,by simp [Rows.uptoBulk]⟩)
  exact ⟨l,v,h1,h2,by omega⟩
end
end
section
open Go Go.ChangeShapes Go.WideShapes Go.ChangeAt Go.RowKit Go.Deep
theorem Tryz.own:ownKnob Tryz.prog.godebug=none:=by kernel_rfl
theorem Tryz.laidOut:laidOutB Tryz.prog=true:=by kernel_rfl
section
variable {H:Type} {enc:TypeId × Value->H} {P:Program}
theorem ye6 {W W':World} {p:MemPlace} (h:W'.heap[p.block]? = W.heap[p.block]?):W.sameAt W' p:=by
  cases p<;>simp_all [World.sameAt,MemPlace.block,World.cell?]
theorem zf5 (hl:laidOutB P=true) {W W':World} (hb:∀ b,b<W.heap.size->W'.heap[b]? = W.heap[b]?):∀ (ts:List TypeId) (vs:List Value) (ds:List (DataW H)) (ps:List MemPlace),
    (∀ t∈ts,P.readableRec t=true/\t<P.types.size)->DataW.TrodAll enc P W 0 (fun _=>true) true ts vs ds ps->(∀ x∈ps,x.block<W.heap.size) ->
    DataW.TrodAll enc P W' 0 (fun b=>decide (b<W.heap.size)) true ts vs ds ps
  | [],vs,ds,ps,_,h,_=>by
    obtain ⟨rfl,rfl,rfl⟩:=trodAll_nil h
    exact trodAll_mk0
  | t::ts,vs,ds,ps,hr,h,hp=>by
    obtain ⟨v,vs',d,ds',p,q,rfl,rfl,rfl,h1,h2⟩:=trodAll_cons h
    have ht:=hr t (.head _)
    refine ⟨p,q,?_,zf5 hl hb ts vs' ds' q (fun t' h'=>hr t' (.tail _ h')) h2 (fun x hx=>hp x (List.mem_append_right _ hx)),rfl⟩
    refine WideElems.Trod_stays hl ht.1 ht.2 h1 (fun x hx=>?_) (fun x hx=>by simpa using hp x (List.mem_append_left _ hx))
    exact ye6 (hb _ (hp x (List.mem_append_left _ hx)))
theorem y7c {W W':World} (may:MemPlace->Prop) (hos:W'.os=W.os) (hout:W'.output=W.output) (hb:∀ b,b<W.heap.size->W'.heap[b]? = W.heap[b]?):W.keptBut W' may:=by
  refine ⟨hos,hout,fun i hi=>?_⟩
  rw [hb i hi]
  rcases h:W.heap[i]? with _ | o
  ·trivial
  cases o with
  | cells c t fr=>exact ⟨rfl,rfl,rfl,fun _ _=>rfl⟩
  | map es clock=>exact .inr ⟨rfl,rfl⟩
  | _=>rfl
theorem yd8 {f:Func} {s:ChangeSpec} {apart fresh handsOn:Bool} {W W':World} {args:Array Value} {ds gs:List (DataW H)} {before:List MemPlace} {tb:TypeId} (hl:laidOutB P=true) (hv0:s.vars=[])
    (hW:DataW.Whole enc P f.params.toList s.vars apart W args.toList ds gs before) (hrd:∀ t∈f.params.toList,P.readableRec t=true/\t<P.types.size) (hres:f.resultTypes = #[tb]) (htb:P.underlying tb=some .bool)
    (hs:s.fn H (ds++gs)={ results:=[.lit (.bool true)],args:=ds }) (hos:W'.os=W.os) (hout:W'.output=W.output) (hb:∀ b,b<W.heap.size->W'.heap[b]? = W.heap[b]?) :
    s.post enc P f apart fresh handsOn false W args (.bool true) W':=by
  have hlt:=hW.lt
  have hW':=hW
  obtain ⟨p,q,hA,hV,rfl,_,_⟩:=hW
  refine ⟨ds,gs,p++q,[],p,[],hW',?_,?_,?_,y7c _ hos hout hb,fun h=>by cases h⟩
  ·rw [hs,hres]
   exact trodAll_mk1 ⟨1,by simp [DataW.trod,htb,Value.cells]⟩
  ·rw [hs]
   exact zf5 hl hb _ _ _ _ hrd hA (fun x hx=>hlt x (List.mem_append_left _ hx))
  rw [hs,hv0]
  exact rfl
end
theorem ye3 {W:World}:RelH (fun _=>False) (fun _=>none) (look (up [])) W where
  inj _ _ _ _ _ h:=by cases h
  apart _ _ _ h:=by cases h
  old _ h:=h.elim
  obj _ _ _ h:=by cases h
  real _ _ h:=by cases h
theorem y9b {P:Program} {f:FuncId} {args:List IV} {R:Nat->Prop} (hsc:SC P f args [] R (iBool true) []) {W:World} {vs:List Value} (hr:RepL (fun _=>False) (fun _=>none) (look (up [])) W args vs) :
    Calls P f vs.toArray W fun e W'=>e = .returned (.bool true)/\W'.os=W.os/\W'.output=W.output/\∀ b,b<W.heap.size->W'.heap[b]? = W.heap[b]?:=by
  refine (hsc (fun _=>False) (fun _=>none) W vs ye3 hr).mono ?_
  rintro e W' ⟨ρ',v,rfl,hv,_,t⟩
  refine ⟨?_,t.os,t.output,fun b hb=>t.blk b hb fun k c h=>by cases h⟩
  cases hv with
  | pv _ _ hp=>cases hp;rfl
theorem y6a {b:Nat}:¬ owned (fun _=>False) (fun _=>none) b:=by
  rintro (h | ⟨_,_,h⟩)
  ·exact h
  cases h
end
section
open Go Go.ChangeShapes Go.WideShapes Go.ChangeAt Go.RowKit Go.Deep
section
variable {H:Type} {enc:TypeId × Value->H} {P:Program} {w:World} {base:Nat} {spare:Nat->Bool} {held:Bool}
theorem y8h {own:Nat->Prop} (hown:∀ b,b<w.heap.size -> ¬ own b) {t e:TypeId} {fuel:Nat} {cs:List Value} {x:DataW H × List MemPlace} (ht:P.underlying t=some (.slice e)) (he:P.underlying e=some (.int .u8)) (hC:P.cellsOf e=1)
    (h:DataW.trod enc P w base spare held fuel t cs=some x):∃ (l:List UInt8) (v:Value),cs=[v]/\RepP own w (bts l) v:=by
  obtain ⟨l,v,h1,h2,_⟩:=y35 eB (fun _=>0) hown ht hC dC0 h (fun n cs' y _ _ hy=>by
    obtain ⟨k,rfl,rfl,hk⟩:=DataW.trod_int he hy
    have hr:0<=k/\k<=255:=by
      simp [Lit.wf,IntKind.min,IntKind.max,IntKind.bits,IntKind.signed] at hk
      omega
    refine ⟨UInt8.ofNat k.toNat,?_,by simp [Rows.uptoBulk]⟩
    have e:((UInt8.ofNat k.toNat).toNat:Int)=k:=by
      rw [UInt8.toNat_ofNat_of_lt' (by simp [UInt8.size];omega)]
      omega
    unfold eB
    rw [e]
    exact RepEl.cons (.val _) .nil)
  exact ⟨l,v,h1,h2⟩
end
set_option maxRecDepth 100000 in
theorem y7o {H:Type} {enc:TypeId × Value->H} {W:World} {base b0:Nat} {spare:Nat->Bool} {held:Bool} {r:Reach} {v:Value} {d:DataW H} {p:List MemPlace} (hv:Value.okWide Tryz.prog W r b0 29 v)
    (h:DataW.Trod enc Tryz.prog W base spare held 29 v d p):∃ l:List UInt8,RepI (fun _=>False) (fun _=>none) (look (up [])) W (.pv (bts l)) v:=by
  obtain ⟨a,len,cap,rfl⟩:=okWide_slice Tryz.underlying29 hv
  obtain ⟨fuel,hf⟩:=h
  obtain ⟨l,v',h1,h2⟩:=y8h (own:=owned (fun _=>False) (fun _=>none)) (fun _ _=>y6a) Tryz.underlying29 Tryz.underlying5 kR0 hf
  have e:(Value.slice a len cap).cells.toList=[Value.slice a len cap]:=rfl
  rw [e] at h1
  cases h1
  exact ⟨l,.pv _ _ h2⟩
end
section
open Go Go.ChangeShapes Go.WideShapes Go.ChangeAt Go.RowKit Go.Deep
set_option maxRecDepth 100000 in
theorem yd4 {H:Type} {enc:TypeId × Value->H} {W:World} {base b0:Nat} {spare:Nat->Bool} {held:Bool} {r:Reach} {v:Value} {d:DataW H} {p:List MemPlace} (hv:Value.okWide Tryz.prog W r b0 35 v)
    (h:DataW.Trod enc Tryz.prog W base spare held 35 v d p):∃ l:List Int,RepI (fun _=>False) (fun _=>none) (look (up [])) W (.pv (ints l)) v:=by
  obtain ⟨a,len,cap,rfl⟩:=okWide_slice uT35 hv
  obtain ⟨fuel,hf⟩:=h
  obtain ⟨l,v',h1,h2,_⟩:=yk5 (own:=owned (fun _=>False) (fun _=>none)) (fun _ _=>y6a) uT35 uT3 kR0 hf
  have e:(Value.slice a len cap).cells.toList=[Value.slice a len cap]:=rfl
  rw [e] at h1
  cases h1
  exact ⟨l,.pv _ _ h2⟩
set_option maxRecDepth 100000 in
theorem open_u8 {H:Type} {enc:TypeId × Value->H} {W:World} {base b0:Nat} {spare:Nat->Bool} {held:Bool} {r:Reach} {v:Value} {d:DataW H} {p:List MemPlace} (hv:Value.okWide Tryz.prog W r b0 5 v)
    (h:DataW.Trod enc Tryz.prog W base spare held 5 v d p):∃ n:Int,0<=n/\n<=255/\RepI (fun _=>False) (fun _=>none) (look (up [])) W (.pv (.val (.int .u8 n))) v:=by
  obtain ⟨n,rfl⟩:=okWide_int Tryz.underlying5 hv
  obtain ⟨fuel,hf⟩:=h
  obtain ⟨k,h1,_,hk⟩:=DataW.trod_int Tryz.underlying5 hf
  have e:(Value.int IntKind.u8 n).cells.toList=[Value.int IntKind.u8 n]:=rfl
  rw [e] at h1
  cases h1
  have hr:0<=n/\n<=255:=by
    simp [Lit.wf,IntKind.min,IntKind.max,IntKind.bits,IntKind.signed] at hk
    omega
  exact ⟨n,hr.1,hr.2,.pv _ _ (.val _)⟩
theorem y7s {F:Nat->Prop} {ρ:Loc} {σ:Heap'} {w:World} {x y z:IV} {a b c:Value} (h1:RepI F ρ σ w x a) (h2:RepI F ρ σ w y b) (h3:RepI F ρ σ w z c):RepL F ρ σ w [x,y,z] [a,b,c]:=by
  refine ⟨rfl,fun j q hj=>?_⟩
  match j,hj with
  | 0,hj=>simp at hj;subst hj;exact ⟨a,rfl,h1⟩
  | 1,hj=>simp at hj;subst hj;exact ⟨b,rfl,h2⟩
  | 2,hj=>simp at hj;subst hj;exact ⟨c,rfl,h3⟩
  | j+3,hj=>simp at hj
set_option maxRecDepth 100000 in
theorem zt0 (hsc:∀ (l:List UInt8) (ins:List Int) (n:Int),0<=n/\n<=255->SC Tryz.prog 5 [.pv (bts l),.pv (ints ins),.pv (.val (.int .u8 n))] [] (fun k=>k∈[]) (iBool true) []) (os:Os) (started:os.Started) (H:Type) (enc:TypeId × Value->H) :
    ReturnsInHanded {} Tryz.checked os 5 .any (Rows.trimDoesSpec.pre6 enc Tryz.prog Tryz.f5 Rows.trimDoesRow.domain false) (Rows.trimDoesSpec.post enc Tryz.prog Tryz.f5 false true false false):=by
  refine returnsInHanded_of_change (C:=Tryz.checked) Tryz.own started kR0 Tryz.func5
    (ChangeSpec.witness6 (enc:=enc) (C:=Tryz.checked) false ⟨#[],#[.slice none 0 0,.slice none 0 0,.int .u8 0],[]⟩ 8 kR0 kR0 kR0 kR0) ?_
  intro W base args ds gs before hval hW _ _
  have hW':=hW
  obtain ⟨p,q,hA0,hV,rfl,hfz,hnd⟩:=hW
  have hA:DataW.TrodAll enc Tryz.prog W 0 (fun _=>true) true Tryz.f5.params.toList args.toList ds p:=hA0
  rw [Tryz.params5] at hA hval
  obtain ⟨v0,vs0,d0,ds0,p0,q0,hargs,rfl,rfl,h0,r0⟩:=trodAll_cons hA
  obtain ⟨v1,vs1,d1,ds1,p1,q1,rfl,rfl,rfl,h1,r1⟩:=trodAll_cons r0
  obtain ⟨v2,vs2,d2,ds2,p2,q2,rfl,rfl,rfl,h2,r2⟩:=trodAll_cons r1
  obtain ⟨rfl,rfl,rfl⟩:=trodAll_nil r2
  obtain rfl:args = #[v0,v1,v2]:=by cases args;simp_all
  obtain ⟨rfl,rfl⟩:=trodVars_none hV
  obtain ⟨l,hu⟩:=y7o (hval 0 29 v0 rfl rfl) h0
  obtain ⟨ins,hi⟩:=yd4 (hval 1 35 v1 rfl rfl) h1
  obtain ⟨n,hn0,hn1,hn⟩:=open_u8 (hval 2 5 v2 rfl rfl) h2
  refine (y9b (hsc l ins n ⟨hn0,hn1⟩) (y7s hu hi hn)).mono ?_
  rintro e W' ⟨rfl,hos,hout,hbl⟩
  exact ⟨_,rfl,yd8 Tryz.laidOut rfl hW' (fun t ht=>by
    rw [Tryz.params5] at ht
    have ht':t=29∨t=35∨t=5:=by simpa using ht
    rcases ht' with rfl | rfl | rfl<;>exact ⟨by kernel_rfl,of_decide_eq_true kR0⟩) kR0 Tryz.underlying4 rfl hos hout hbl⟩
set_option maxRecDepth 100000 in
theorem y57 (hsc:∀ (l:List UInt8) (ins:List Int) (n:Int),0<=n/\n<=255->SC Tryz.prog 5 [.pv (bts l),.pv (ints ins),.pv (.val (.int .u8 n))] [] (fun k=>k∈[]) (iBool true) []):Rows.TrimDoesSaid :=
  OpenClaim.holds_of_wide 5 Tryz.f5 rfl rfl rfl rfl rfl rfl rfl ⟨rfl,rfl,rfl,rfl,rfl⟩ rfl rfl rfl rfl rfl kR0 Tryz.func5 kR0
    (of_decide_eq_true kR0) (by unfold Func.isWrapper;first | (rw [if_pos (by decide +kernel)];kernel_rfl) | (rw [if_neg (by decide +kernel)];exact ⟨rfl,rfl⟩))
    (fun os started H enc _=>zt0 hsc os started H enc)
end
theorem trimDoes_holds:Rows.TrimDoesSaid:=y57 fun l ins n hn=>y4l l ins n hn
end Go.Proofs.YtekdhljpmflboaaGreat
