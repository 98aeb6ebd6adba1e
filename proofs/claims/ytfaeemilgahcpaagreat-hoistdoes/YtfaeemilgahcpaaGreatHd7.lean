/- What comes out of hoist does what the unit by numbers does, at no more cost, with no less fuel left; and the other way round. No conditions. -/
import Derived.Test.YtfaeemilgahcpaaGreatHd6
set_option maxRecDepth 8000
set_option maxHeartbeats 2000000
set_option linter.unusedSimpArgs false
set_option linter.unusedVariables false
set_option linter.unusedSectionVars false
namespace Go.Proofs.YtfaeemilgahcpaaGreat
open Go
section
structure Plc.T12 (p:Plc):Prop where
  y:Ty12 p.Yield
  n:Ty12 p.Next
  v:Ty12 p.Left
structure Wr (p:Plc) (w:Wh) (L:List Nd):Prop where
  i:p.If=true->w.If=true
  lp:p.Loop=true->w.Loop=true/\w.Next=p.Next
  y:z1d L=12->w.Yield=p.Yield
  lv:z0b L=true->w.Left=p.Left
section
variable (l:List UInt8) {u:Un} {f:Fl}
theorem gEnd_ok (E:Env u f) {seen:List Int} {p:Plc} {g:Gn} {w:Wh} (h:PxT (gEnd l seen p g).2 f.types) (hs:Sn f.types g.types.length seen) (hp:p.T12) (W:Wr p w [(gEnd l seen p g).1]) :
    Leaf u f seen w (gEnd l seen p g).1/\z0o (gEnd l seen p g).1.kind=true:=by
  have key:∀ (k:Int) (ins:List Int) (g':Gn),g'.types=g.types->PxT (z3x l k 0 0 z0l seen ins [] g').2 f.types->Ty12 ins ->
      ((k=12/\w.If=true/\ins=w.Yield)∨(k=13/\w.Loop=true/\ins=w.Next)∨(k=14/\w.Loop=true/\ins=w.Left)∨(k=15/\ins=[f.ty])) ->
      Leaf u f seen w (z3x l k 0 0 z0l seen ins [] g').1/\z0o (z3x l k 0 0 z0l seen ins [] g').1.kind=true:=by
    intro k ins g' hg hp' hi hk
    have hp0:PxT g' f.types:=PxT.of (zq5 l seen ins g') hp'
    obtain ⟨a1,_,_⟩:=zn0 l (seen:=seen) ins hp0 (by rw [hg];exact hs) hi
    refine ⟨leafE hk a1,?_⟩
    show (decide (k ≥ 12)&&decide (k<=15))=true
    rw [decide_eq_true oM0,decide_eq_true oM0];rfl
  unfold gEnd at h W ⊢
  simp only at h W ⊢
  split
  ·rename_i hk;rw [if_pos hk] at h W
   exact key 12 p.Yield _ rfl h hp.y (.inl ⟨rfl,W.i hk.1,(W.y rfl).symm⟩)
  rename_i n1;rw [if_neg n1] at h W
  split
  ·rename_i hk;rw [if_pos hk] at h W
   exact key 13 p.Next _ rfl h hp.n (.inr (.inl ⟨rfl,(W.lp hk.1).1,(W.lp hk.1).2.symm⟩))
  rename_i n2;rw [if_neg n2] at h W
  split
  ·rename_i hk;rw [if_pos hk] at h W
   exact key 14 p.Left _ rfl h hp.v (.inr (.inr (.inl ⟨rfl,(W.lp hk).1,(W.lv rfl).symm⟩)))
  rename_i hk;rw [if_neg hk] at h W
  exact key 15 [1] _ rfl h (by intro t ht;simp at ht;omega) (.inr (.inr (.inr ⟨rfl,by rw [E.ty]⟩)))
def y80 (u:Un) (f:Fl) (d:Nat) (rec:GRec):Prop:=∀ (seen:List Int) (p:Plc) (g:Gn) (w:Wh) (deep:Int),PxT (rec seen p g).2 f.types->Sn f.types g.types.length seen->p.T12->Wr p w (rec seen p g).1->deep+d<=100->z2j u f deep w seen (rec seen p g).1=true
theorem if_ok {d:Nat} {rec:GRec} (hr:y80 u f d rec) (hpx:ze5 rec) {all:List Int} {p:Plc} {g:Gn} {w:Wh} {deep:Int} (h:PxT (gIf l rec all p g).2 f.types) (hs:Sn f.types g.types.length all) (hp:p.T12)
    (hlp:p.Loop=true->w.Loop=true/\w.Next=p.Next) (hlv:z1k (gIf l rec all p g).1=true->w.Left=p.Left) (hd:deep+1+d<=100):z3s u f deep w all (gIf l rec all p g).1=true:=by
  unfold gIf at h hlv ⊢
  simp only at h hlv ⊢
  have t12:=z9d l g
  generalize hT:z0m l g=T at *
  generalize hC:z1i l all [2] T.2=C at *
  have eT:T.2.types=g.types:=by rw [<- hT,(z4i l g).1]
  have eC:C.2.types=g.types:=by rw [<- hC,(z1h l all [2] T.2).1];exact eT
  have hA:=fun w' deep'=>hr all ⟨true,p.Loop,T.1,p.Next,p.Left⟩ C.2 w' deep'
  have pA:=hpx all ⟨true,p.Loop,T.1,p.Next,p.Left⟩ C.2
  generalize rec all ⟨true,p.Loop,T.1,p.Next,p.Left⟩ C.2=A at *
  have hB:=fun w' deep'=>hr all ⟨true,p.Loop,T.1,p.Next,p.Left⟩ A.2 w' deep'
  have pB:=hpx all ⟨true,p.Loop,T.1,p.Next,p.Left⟩ A.2
  generalize rec all ⟨true,p.Loop,T.1,p.Next,p.Left⟩ A.2=B at *
  have xB:PxT B.2 f.types:=PxT.of (y01 _ _ _) h
  have xA:PxT A.2 f.types:=PxT.of pB xB
  have xC:PxT C.2 f.types:=PxT.of pA xA
  have sC:Sn f.types C.2.types.length all:=by rw [eC];exact hs
  have sA:Sn f.types A.2.types.length all:=sC.mono pA.len
  have xT:PxT T.2 f.types:=by obtain ⟨q,e⟩:=xC;exact ⟨q,by rw [e,eC,eT]⟩
  have hCt:z01 f.types all C.1 [2]=true:=by
    have:=(zn0 l (seen:=all) [2] xT (by rw [eT];exact hs) (by intro t ht;simp at ht;omega)).1
    rw [hC] at this;exact this
  have p12:Plc.T12 ⟨true,p.Loop,T.1,p.Next,p.Left⟩:=⟨t12,hp.n,hp.v⟩
  -- a node with such outs
  have key:∀ o:List Int,z24 f.types o (zer o)=true->(z04 (.mk 10 0 0 z0l C.1 o [] [A.1,B.1])=true->o=[])->(z1d A.1=12->r8of f.types o=T.1)->(z1d B.1=12->r8of f.types o=T.1) ->
      (z1k (.mk 10 0 0 z0l C.1 o [] [A.1,B.1])=true->w.Left=p.Left)->z3s u f deep w all (.mk 10 0 0 z0l C.1 o [] [A.1,B.1])=true:=by
    intro o ho hc hyA hyB hl
    have e0:z0l.toList=[]:=z5u z0l
    have hb:z10 (.mk 10 0 0 z0l C.1 o [] [A.1,B.1])=true:=by
      simp [z10,r8op,y42,zr0,r8kn,Nd.kind,Nd.op,Nd.n,Nd.name,Nd.kids,Nd.params,e0]
    rw [z46 u f deep w all hb rfl rfl]
    have hl2:∀ q,q∈[A.1,B.1]->z0b q=true->w.Left=p.Left:=by
      intro q hq hq2
      refine hl ?_
      simp only [z1k,z29,Bool.or_false]
      simp only [List.mem_cons,List.not_mem_nil,or_false] at hq
      rcases hq with rfl | rfl
      ·rw [hq2];rfl
      rw [hq2];simp
    have vA:=hA (w1 w f (.mk 10 0 0 z0l C.1 o [] [A.1,B.1])) (deep+1) xA sC p12 ⟨fun _=>rfl,hlp,hyA,hl2 _ (.head _)⟩ hd
    have vB:=hB (w1 w f (.mk 10 0 0 z0l C.1 o [] [A.1,B.1])) (deep+1) xB sA p12 ⟨fun _=>rfl,hlp,hyB,hl2 _ (.tail _ (.head _))⟩ hd
    have ho2:zg8 (.mk 10 0 0 z0l C.1 o [] [A.1,B.1])=true:=by
      unfold zg8
      cases hcl:z04 (.mk 10 0 0 z0l C.1 o [] [A.1,B.1]) with
      | false=>simp
      | true=>rw [hc hcl];rfl
    simp only [Bool.and_eq_true]
    exact ⟨⟨⟨⟨hCt,vA⟩,vB⟩,ho2⟩,ho⟩
  unfold z77 at h hlv ⊢
  split
  ·rename_i hcl
   rw [if_pos hcl] at hlv
   have hcl2:(z1d A.1 != 12&&z1d B.1 != 12)=true:=hcl
   simp only [Bool.and_eq_true,bne_iff_ne] at hcl2
   exact key [] rfl (fun _=>rfl) (fun e=>absurd e hcl2.1) (fun e=>absurd e hcl2.2) hlv
  rename_i hcl
  rw [if_neg hcl] at h hlv
  have ho:=y3p (T:=f.types) h t12
  exact key _ (ze3 (zg9 _ _ h)) (fun hc=>absurd hc hcl) (fun _=>ho) (fun _=>ho) hlv
theorem loop_ok {d:Nat} {rec:GRec} (hr:y80 u f d rec) (hpx:ze5 rec) {all:List Int} {g:Gn} {w:Wh} {deep:Int} (h:PxT (z9f l rec all g).2 f.types) (hs:Sn f.types g.types.length all) (hd:deep+1+d<=100):z3s u f deep w all (z9f l rec all g).1=true:=by
  unfold z9f at h ⊢
  simp only at h ⊢
  have t12:=z9d l g
  generalize hT:z0m l g=T at *
  have o12:=z9d l T.2
  generalize hO:z0m l T.2=O at *
  generalize hA:z1i l all T.1 O.2=A at *
  have eT:T.2.types=g.types:=by rw [<- hT,(z4i l g).1]
  have eO:O.2.types=g.types:=by rw [<- hO,(z4i l T.2).1];exact eT
  have eA:A.2.types=g.types:=by rw [<- hA,(z1h l all T.1 O.2).1];exact eO
  generalize hQ:z0i T.1 A.2=Q at *
  have hB:=fun w' deep'=>hr (all++Q.1) ⟨false,true,[],T.1,O.1⟩ Q.2 w' deep'
  have pB:=hpx (all++Q.1) ⟨false,true,[],T.1,O.1⟩ Q.2
  generalize rec (all++Q.1) ⟨false,true,[],T.1,O.1⟩ Q.2=B at *
  have xB:PxT B.2 f.types:=PxT.of (y01 _ _ _) h
  have xQ:PxT Q.2 f.types:=PxT.of pB xB
  have pQ:Px A.2 Q.2:=by rw [<- hQ];exact z7f T.1 A.2
  have xA:PxT A.2 f.types:=PxT.of pQ xQ
  have xO:PxT O.2 f.types:=by obtain ⟨q,e⟩:=xA;exact ⟨q,by rw [e,eA,eO]⟩
  have hAt:z01 f.types all A.1 T.1=true:=by
    have:=(zn0 l (seen:=all) T.1 xO (by rw [eO];exact hs) t12).1
    rw [hA] at this;exact this
  have hQo:z24 f.types Q.1 T.1=true:=by have:=zg9 (T:=f.types) T.1 A.2 (by rw [hQ];exact xQ);rw [hQ] at this;exact this
  have hQt:r8of f.types Q.1=T.1:=by have:=y3p (T:=f.types) (g:=A.2) (ts:=T.1) (by rw [hQ];exact xQ) t12;rw [hQ] at this;exact this
  have sQ:Sn f.types Q.2.types.length (all++Q.1):=by
    have hin:=InR.outs T.1 A.2
    rw [hQ] at hin
    exact hs.app (by have:=pQ.len;rw [eA] at this;exact this) hin
  have key:∀ o:List Int,z24 f.types o (zer o)=true->(z04 (.mk 11 0 0 z0l A.1 o Q.1 [B.1])=true->o=[])->(z0b B.1=true->r8of f.types o=O.1)->z3s u f deep w all (.mk 11 0 0 z0l A.1 o Q.1 [B.1])=true:=by
    intro o ho hc hl
    have e0:z0l.toList=[]:=z5u z0l
    have hb:z10 (.mk 11 0 0 z0l A.1 o Q.1 [B.1])=true:=by
      simp [z10,r8op,y42,zr0,r8kn,Nd.kind,Nd.op,Nd.n,Nd.name,Nd.kids,Nd.params,e0]
    rw [z2d u f deep w all hb rfl rfl]
    have vB:=hB (w2 f (.mk 11 0 0 z0l A.1 o Q.1 [B.1])) (deep+1) xB sQ ⟨fun t ht=>(by simp at ht),t12,o12⟩ ⟨fun e=>(by cases e),fun _=>⟨rfl,hQt⟩,fun _=>rfl,hl⟩ hd
    have ho2:zg8 (.mk 11 0 0 z0l A.1 o Q.1 [B.1])=true:=by
      unfold zg8
      cases hcl:z04 (.mk 11 0 0 z0l A.1 o Q.1 [B.1]) with
      | false=>simp
      | true=>rw [hc hcl];rfl
    simp only [Bool.and_eq_true]
    refine ⟨⟨⟨⟨?_,ze3 hQo⟩,vB⟩,ho2⟩,ho⟩
    show z01 f.types all A.1 (r8of f.types Q.1)=true
    rw [hQt];exact hAt
  unfold z77 at h ⊢
  split
  ·rename_i hcl
   have hcl2:(!z0b B.1)=true:=hcl
   exact key [] rfl (fun _=>rfl) (fun e=>by rw [e] at hcl2;cases hcl2)
  rename_i hcl
  rw [if_neg hcl] at h
  have ho:=y3p (T:=f.types) h o12
  exact key _ (ze3 (zg9 _ _ h)) (fun hc=>absurd hc hcl) (fun _=>ho)
theorem any_ok (E:Env u f) {d:Nat} {rec:Option GRec} (hr:∀ r,rec=some r->y80 u f d r/\ze5 r) {all:List Int} {p:Plc} {g:Gn} {w:Wh} {deep:Int} (h:PxT (gAny l rec all p g).2 f.types) (hs:Sn f.types g.types.length all) (hp:p.T12)
    (hlp:p.Loop=true->w.Loop=true/\w.Next=p.Next) (hlv:z1k (gAny l rec all p g).1=true->w.Left=p.Left) (hd:deep+1+d<=100):z3s u f deep w all (gAny l rec all p g).1=true:=by
  have hs':Sn f.types ({ g with left:=g.left - 1 }:Gn).types.length all:=hs
  have ps:=zq6 l all { g with left:=g.left - 1 }
  have sS:=hs'.mono ps.len
  unfold gAny at h hlv ⊢
  simp only at h hlv ⊢
  cases rec with
  | none=>exact (y2i l E (w:=w) h hs').1.ok
  | some r =>
    simp only at h hlv ⊢
    split
    ·rename_i hk;rw [if_pos hk] at h hlv
     exact if_ok l (hr r rfl).1 (hr r rfl).2 h sS hp hlp hlv hd
    rename_i n0;rw [if_neg n0] at h hlv
    split
    ·rename_i hk;rw [if_pos hk] at h hlv
     exact loop_ok l (hr r rfl).1 (hr r rfl).2 h sS hd
    rename_i n1;rw [if_neg n1] at h
    exact (y2i l E (w:=w) h hs').1.ok
theorem y9k {x:Nd} {q:List Nd} (h:q≠[]):z1d (x::q)=z1d q:=by
  cases q with
  | nil=>exact absurd rfl h
  | cons y r=>unfold z1d;rw [List.getLast?_cons_cons]
theorem ye9 (E:Env u f) {d:Nat} {rec:Option GRec} (hr:∀ r,rec=some r->y80 u f d r/\ze5 r) {p:Plc} (hp:p.T12) {w:Wh} {deep:Int} (hd:deep+1+d<=100) (hd0:deep<=100):∀ (i:Nat) (all:List Int) (g:Gn),PxT (z58 l rec p i all g).2 f.types->Sn f.types g.types.length all->Wr p w (z58 l rec p i all g).1 ->
    vGo u f deep w all (z58 l rec p i all g).1=true:=by
  have e100:(!decide (deep > 100))=true:=by rw [decide_eq_false oM0];rfl
  have fin:∀ (all:List Int) (g:Gn),PxT (gEnd l all p g).2 f.types->Sn f.types g.types.length all->Wr p w [(gEnd l all p g).1]->vGo u f deep w all [(gEnd l all p g).1]=true:=by
    intro all g h hs W
    obtain ⟨h1,h2⟩:=gEnd_ok l E h hs hp W
    have hc:z04 (gEnd l all p g).1=true:=by rw [y34 h1.2.1 h1.2.2.1];exact h2
    simp only [vGo,e100,h1.ok (deep:=deep),hc,List.isEmpty_nil,Bool.and_true]
    rfl
  intro i
  induction i with
  | zero=>intro all g h hs W;exact fin all g h hs W
  | succ i ih =>
    intro all g h hs W
    unfold z58 at h W ⊢
    split
    ·rename_i hk;rw [if_pos hk] at h W
     exact fin all g h hs W
    rename_i n0;rw [if_neg n0] at h W
    split
    ·rename_i hc;rw [if_pos hc] at h W
     have hv:=any_ok l E hr (deep:=deep) h hs hp W.lp (fun e=>W.lv (by simp only [z0b,e,Bool.true_or])) hd
     simp only [vGo,e100,hv,hc,List.isEmpty_nil,Bool.and_true]
     rfl
    rename_i hc;rw [if_neg hc] at h W
    have hne:=zy1 l rec p i (all++(gAny l rec all p g).1.outs) (gAny l rec all p g).2
    have px1:PxT (gAny l rec all p g).2 f.types:=PxT.of (zq7 l (fun r e=>(hr r e).2) p i _ _) h
    have hv:=any_ok l E hr (deep:=deep) px1 hs hp W.lp (fun e=>W.lv (by simp only [z0b,e,Bool.true_or])) hd
    have hcf:z04 (gAny l rec all p g).1=false:=by simpa using hc
    have hem:(z58 l rec p i (all++(gAny l rec all p g).1.outs) (gAny l rec all p g).2).1.isEmpty=false:=by
      cases hq:(z58 l rec p i (all++(gAny l rec all p g).1.outs) (gAny l rec all p g).2).1 with
      | nil=>exact absurd hq hne
      | cons _ _=>rfl
    have pg:=(y5t l (fun r e=>(hr r e).2) all p g).len
    have ho:=(y55 l (rec:=rec) all p g).1
    have hgo:=ih _ _ h (hs.app pg ho) ⟨W.i,W.lp,fun e=>W.y (by rw [y9k hne];exact e),fun e=>W.lv (by simp only [z0b,e,Bool.or_true])⟩
    simp only [vGo,e100,hv,hcf,hem,hgo,Bool.and_true]
    rfl
theorem list_ok (E:Env u f) (d:Nat):y80 u f (d+1) (z2w l d):=by
  induction d with
  | zero =>
    intro seen p g w deep h hs hp W hd
    rw [z5l] at h W ⊢
    have:=ye9 l E (d:=0) (rec:=gRec l 0) (fun r h=>by cases h) hp (w:=w) (deep:=deep) (by simpa using hd) oM0 _ _ _ h hs W
    have hne:=zy1 l (gRec l 0) p (z05 l 6 g).1 seen (z05 l 6 g).2
    simp only [z2j,this,Bool.and_true]
    cases hq:(z58 l (gRec l 0) p (z05 l 6 g).1 seen (z05 l 6 g).2).1 with
    | nil=>exact absurd hq hne
    | cons _ _=>rfl
  | succ d ih =>
    intro seen p g w deep h hs hp W hd
    rw [z5l] at h W ⊢
    have:=ye9 l E (d:=d+1) (rec:=gRec l (d+1)) (fun r h=>by cases h;exact ⟨ih,y00 l d⟩) hp (w:=w) (deep:=deep) oM0 oM0 _ _ _ h hs W
    have hne:=zy1 l (gRec l (d+1)) p (z05 l 6 g).1 seen (z05 l 6 g).2
    simp only [z2j,this,Bool.and_true]
    cases hq:(z58 l (gRec l (d+1)) p (z05 l 6 g).1 seen (z05 l 6 g).2).1 with
    | nil=>exact absurd hq hne
    | cons _ _=>rfl
end
end
section
def Tx (g g':Gn):Prop:=Ty12 g.types->Ty12 g'.types
section
variable (l:List UInt8)
theorem y4s (seen ts:List Int) (g:Gn):Tx g (z1i l seen ts g).2:=fun h=>by rw [(z1h l seen ts g).1];exact h
theorem y0k (g:Gn):Tx g (z0m l g).2:=fun h=>by rw [(z4i l g).1];exact h
theorem y4t {ts:List Int} (ht:Ty12 ts) (g:Gn):Tx g (z0i ts g).2:=fun h=>by
  rw [(z20 ts g).1]
  intro t hx
  rcases List.mem_append.1 hx with hx | hx
  ·exact h t hx
  exact ht t hx
theorem y0j (kind op n:Int) (name:ByteArray) (seen ins:List Int) {outs:List Int} (ho:Ty12 outs) (g:Gn):Tx g (z3x l kind op n name seen ins outs g).2:=fun h=>y4t ho _ (y4s l seen ins g h)
theorem t12_1:Ty12 [1]:=by intro t ht;simp at ht;omega
theorem t12_2:Ty12 [2]:=by intro t ht;simp at ht;omega
theorem y7m:Ty12 []:=by intro t ht;simp at ht
theorem yf5 (seen:List Int) (g:Gn):Tx g (z1n l seen g).2:=by
  intro h
  unfold z1n
  simp only
  repeat' split
  all_goals first
  | exact y0j l _ _ _ _ _ _ t12_1 _ h
  | exact y0j l _ _ _ _ _ _ t12_2 _ h
  | exact y0j l _ _ _ _ _ _ y7m _ h
theorem tx_end (seen:List Int) (p:Plc) (g:Gn):Tx g (gEnd l seen p g).2:=by
  intro h
  unfold gEnd
  simp only
  repeat' split
  all_goals exact y0j l _ _ _ _ _ _ y7m _ h
def y81 (rec:GRec):Prop:=∀ seen p g,Tx g (rec seen p g).2
theorem yf4 (x:List Int->Nd) {t:List Int} (ht:Ty12 t) (g:Gn):Tx g (z77 x t g).2:=by
  intro h
  unfold z77
  split
  ·exact h
  exact y4t ht g h
theorem tx_if {rec:GRec} (hr:y81 rec) (all:List Int) (p:Plc) (g:Gn):Tx g (gIf l rec all p g).2:=fun h=>by
  unfold gIf
  exact yf4 _ (z9d l g) _ (hr _ _ _ (hr _ _ _ (y4s l _ _ _ (y0k l g h))))
theorem tx_loop {rec:GRec} (hr:y81 rec) (all:List Int) (g:Gn):Tx g (z9f l rec all g).2:=fun h=>by
  unfold z9f
  exact yf4 _ (z9d l _) _ (hr _ _ _ (y4t (z9d l g) _ (y4s l _ _ _ (y0k l _ (y0k l g h)))))
theorem tx_any {rec:Option GRec} (hr:∀ r,rec=some r->y81 r) (all:List Int) (p:Plc) (g:Gn):Tx g (gAny l rec all p g).2:=fun h=>by
  have hs:Ty12 (z05 l 6 (z1n l all { g with left:=g.left - 1 }).2).2.types:=yf5 l all { g with left:=g.left - 1 } h
  unfold gAny
  simp only
  cases rec with
  | none=>exact hs
  | some r =>
    simp only
    split
    ·exact tx_if l (hr r rfl) all p _ hs
    split
    ·exact tx_loop l (hr r rfl) all _ hs
    exact hs
theorem y4u {rec:Option GRec} (hr:∀ r,rec=some r->y81 r) (p:Plc):∀ (i:Nat) (all:List Int) (g:Gn),Tx g (z58 l rec p i all g).2
  | 0,all,g=>tx_end l all p g
  | i+1,all,g=>fun h=>by
    unfold z58
    split
    ·exact tx_end l all p g h
    split
    ·exact tx_any l hr all p g h
    exact y4u hr p i _ _ (tx_any l hr all p g h)
theorem tx_list (d:Nat):y81 (z2w l d):=by
  induction d with
  | zero =>
    intro seen p g h
    rw [z5l]
    exact y4u l (rec:=gRec l 0) (fun r h=>by cases h) p _ _ _ h
  | succ d ih =>
    intro seen p g h
    rw [z5l]
    exact y4u l (rec:=gRec l (d+1)) (fun r h=>by cases h;exact ih) p _ _ _ h
theorem y14 {k n:Nat} {v:Int} (h:(k:Int)<=v):(z32 k n).getD v.toNat false=false:=by
  unfold z32
  rw [List.getD]
  rw [List.getElem?_append_right (by simp;omega)]
  cases hq:(List.replicate (n - k) false)[v.toNat - (List.replicate k true).length]? with
  | none=>rfl
  | some b=>rw [List.eq_of_mem_replicate (List.mem_of_getElem? hq)];rfl
theorem zf3 (name:ByteArray) (params:List Int) (hS:(z0i params ⟨0,[],0⟩).1=iota params.length) (g:Gn):∃ (B:Gn) (L:List Nd) (R:Gn),(z2v l name params g).1=⟨name,1,params.length,R.types,zn7 params.length (params.length+1)++L⟩/\(L,R)=z2w l 3 (iota params.length++[(params.length:Int),((params.length+1:Nat):Int)]) plc0 B/\B.types=params++[1,2]:=by
  have hG:∀ (ts:List Int) (a b:Gn),a.types=b.types->(z0i ts a).1=(z0i ts b).1:=by
    intro ts
    induction ts with
    | nil=>intro a b _;rfl
    | cons t r ih =>
      intro a b e
      simp only [z0i,z08,e]
      rw [ih { a with types:=b.types++[t] } { b with types:=b.types++[t] } rfl]
  have h1:(z0i params { g with types:=[],left:=30 }).1=iota params.length:=(hG params { g with types:=[],left:=30 } ⟨0,[],0⟩ rfl).trans hS
  have h2:(z0i params { g with types:=[],left:=30 }).2.types=params:=by rw [(z20 params _).1];simp
  refine ⟨(z08 2 (z08 1 (z0i params { g with types:=[],left:=30 }).2).2).2,_,_,?_,rfl,?_⟩
  ·unfold z2v
   simp only [h1]
   simp only [z08,h2,List.length_append,List.length_cons,List.length_nil]
   rfl
  simp only [z08,h2];simp
end
section
variable (l:List UInt8) {u:Un}
theorem y90 (name:ByteArray) (params:List Int) (hS:(z0i params ⟨0,[],0⟩).1=iota params.length) (hp:Ty12 params) (hpl:params.length<=8) (g:Gn) (E:Env u (z2v l name params g).1):z33 u (z2v l name params g).1=true:=by
  have hw:=(zb3 l name params oM0 g).1
  obtain ⟨B,L,R,e,eL,eB⟩:=zf3 l name params hS g
  generalize (z2v l name params g).1=F at *
  have hFt:F.types=R.types:=by rw [e]
  have hFb:F.body=[.mk 1 0 3 z0l [] [(params.length:Int)] [] [],.mk 2 0 1 z0l [] [((params.length+1:Nat):Int)] [] []]++L:=by rw [e];rfl
  have hFp:F.params=params.length:=by rw [e]
  clear e
  have pR:Px B R:=by have:=y00 l 3 (iota params.length++[(params.length:Int),((params.length+1:Nat):Int)]) plc0 B;rw [<- eL] at this;exact this
  have hB2:Ty12 B.types:=by
    rw [eB]
    intro t ht
    rcases List.mem_append.1 ht with ht | ht
    ·exact hp t ht
    simp at ht;omega
  have tR:Ty12 F.types:=by have:=tx_list l 3 (iota params.length++[(params.length:Int),((params.length+1:Nat):Int)]) plc0 B hB2;rw [<- eL] at this;rw [hFt];exact this
  obtain ⟨q,eR⟩:=pR
  rw [<- hFt] at eR
  have hBl:B.types.length=params.length+2:=by rw [eB];simp
  have hRl:params.length+2<=F.types.length:=by rw [eR,List.length_append,hBl];omega
  have hxT:PxT B F.types:=⟨q,eR⟩
  have hi:F.types.getD params.length 0=1:=by
    rw [<- hxT.getD oM0,eB];simp [List.getD]
  have hb:F.types.getD (params.length+1) 0=2:=by
    rw [<- hxT.getD oM0,eB];simp [List.getD]
  -- the list behind the first two z0j
  have hSn:Sn F.types B.types.length (iota params.length++[(params.length:Int),((params.length+1:Nat):Int)]):=by
    refine ⟨?_,⟨(params.length:Int),by simp,by simpa using hi⟩,⟨((params.length+1:Nat):Int),by simp,by rw [Int.toNat_natCast];exact hb⟩,fun s hs=>?_⟩
    ·by_cases h0:params.length=0
     ·simp [h0]
     refine List.mem_append_left _ ?_
     simp only [iota,List.mem_map,List.mem_range]
     exact ⟨0,by omega,rfl⟩
    rw [hBl]
    rcases List.mem_append.1 hs with hs | hs
    ·simp only [iota,List.mem_map,List.mem_range] at hs
     obtain ⟨j,hj,rfl⟩:=hs
     omega
    simp only [List.mem_cons,List.not_mem_nil,or_false] at hs
    omega
  have hL:=list_ok l E 3 (iota params.length++[(params.length:Int),((params.length+1:Nat):Int)]) plc0 B z14 1 (by rw [<- eL];exact ⟨[],by simp [hFt]⟩) hSn ⟨y7m,y7m,y7m⟩ ⟨fun h=>(by cases h),fun h=>(by cases h),fun _=>rfl,fun _=>rfl⟩ oM0
  have hF:=y6j l 3 (iota params.length++[(params.length:Int),((params.length+1:Nat):Int)]) plc0 B
  rw [<- eL] at hL hF
  simp only [z2j,Bool.and_eq_true] at hL
  rw [hBl,<- hFt] at hF
  have hn:(z32 params.length F.types.length).length=F.types.length:=z1z oM0
  unfold z33
  rw [hFp,hFb]
  simp only [Bool.and_eq_true,Bool.not_eq_true',decide_eq_false_iff_not,List.all_eq_true,Int.toNat_natCast]
  refine ⟨⟨⟨⟨⟨by omega,by omega⟩,by omega⟩,by omega⟩,fun t ht=>?_⟩,?_⟩
  ·rcases tR t ht with rfl | rfl<;>rfl
  rw [z4w u _ _ 1 z14 _ _ hn]
  have l1:Leaf u F (iota params.length) z14 (.mk 1 0 3 z0l [] [(params.length:Int)] [] []):=leaf1 (by
    simp only [z24,z4q,Int.toNat_natCast,hi]
    rw [decide_eq_true oM0,decide_eq_true oM0];rfl)
  have l2:Leaf u F (iota params.length++[(params.length:Int)]) z14 (.mk 2 0 1 z0l [] [((params.length+1:Nat):Int)] [] []):=leaf2 (.inr rfl) (by
    simp only [z24,z4q,Int.toNat_natCast,hb]
    rw [decide_eq_true oM0,decide_eq_true oM0];rfl)
  have c1:z04 (.mk 1 0 3 z0l [] [(params.length:Int)] [] [])=false:=rfl
  have c2:z04 (.mk 2 0 1 z0l [] [((params.length+1:Nat):Int)] [] [])=false:=rfl
  have hD:Fresh params.length F.types.length (dL ([.mk 1 0 3 z0l [] [(params.length:Int)] [] [],.mk 2 0 1 z0l [] [((params.length+1:Nat):Int)] [] []]++L)):=by
    have e1:dL ([.mk 1 0 3 z0l [] [(params.length:Int)] [] [],.mk 2 0 1 z0l [] [((params.length+1:Nat):Int)] [] []]++L)=[(params.length:Int)]++([((params.length+1:Nat):Int)]++dL L):=by simp [dL,dN,dK]
    rw [e1]
    have f1:Fresh params.length (params.length+1) [(params.length:Int)]:=⟨by simp,fun v hv=>by rw [List.mem_singleton.1 hv];omega⟩
    have f2:Fresh (params.length+1) (params.length+2) [((params.length+1:Nat):Int)]:=⟨by simp,fun v hv=>by rw [List.mem_singleton.1 hv];omega⟩
    exact f1.app (f2.app hF (Nat.le_refl _) oM0 hRl) (Nat.le_refl _) oM0 oM0
  refine ⟨?_,hD.1,fun v hv=>y14 (hD.2 v hv).1⟩
  have hemp:L.isEmpty=false:=by simpa using hL.1
  have hgo:vGo u F 1 z14 (iota params.length++[(params.length:Int)]++[((params.length+1:Nat):Int)]) L=true:=by
    rw [List.append_assoc]
    exact hL.2
  have d1:(!decide ((1:Int) > 100))=true:=rfl
  show (true&&(!decide ((1:Int) > 100)&&z3s u F 1 z14 (iota params.length) (.mk 1 0 3 z0l [] [(params.length:Int)] [] [])&&(z04 (.mk 1 0 3 z0l [] [(params.length:Int)] [] [])==false) &&
    (!decide ((1:Int) > 100)&&z3s u F 1 z14 (iota params.length++[(params.length:Int)]) (.mk 2 0 1 z0l [] [((params.length+1:Nat):Int)] [] [])&&(z04 (.mk 2 0 1 z0l [] [((params.length+1:Nat):Int)] [] [])==L.isEmpty)&&vGo u F 1 z14 (iota params.length++[(params.length:Int)]++[((params.length+1:Nat):Int)]) L)))=true
  rw [l1.ok,l2.ok,c1,c2,hemp,hgo]
  rfl
end
theorem made_ok (l:List UInt8):(z19 (made l)).1=0:=by
  have S0:(z0i [] ⟨0,[],0⟩).1=iota ([]:List Int).length:=rfl
  have S2:(z0i [1,2] ⟨0,[],0⟩).1=iota ([1,2]:List Int).length:=rfl
  generalize hm:z2v l z0c [] ⟨0,[],0⟩=m
  have eM:made l=⟨[⟨z72,4⟩],[m.1,(z2v l z3k [1,2] m.2).1]⟩:=by unfold made;simp only [hm]
  obtain ⟨B1,L1,R1,e1,eL1,eB1⟩:=zf3 l z0c [] S0 ⟨0,[],0⟩
  obtain ⟨B2,L2,R2,e2,eL2,eB2⟩:=zf3 l z3k [1,2] S2 m.2
  rw [hm] at e1
  have n1:m.1.name=z0c:=by rw [e1]
  have n2:(z2v l z3k [1,2] m.2).1.name=z3k:=by rw [e2]
  have q11:eqS z0c z0c=true:=by decide +kernel
  have q12:eqS z0c z3k=false:=by decide +kernel
  have q22:eqS z3k z3k=true:=by decide +kernel
  have q21:eqS z3k z0c=false:=by decide +kernel
  have qa1:eqS z0c z72=false:=by decide +kernel
  have qa2:eqS z3k z72=false:=by decide +kernel
  have pF:z02 z3k (made l).flows 0=1:=by rw [eM];simp [z02,n1,n2,q12,q22]
  have pM:z02 z0c (made l).flows 0=0:=by rw [eM];simp [z02,n1,q11]
  have pA:z02 z72 (made l).flows 0 = -1:=by rw [eM];simp [z02,n1,n2,qa1,qa2]
  have aA:z0f z72 (made l).arrays 0=0:=by
    rw [eM]
    show z0f z72 [⟨z72,4⟩] 0=0
    decide +kernel
  have take2:(z2v l z3k [1,2] m.2).1.types.take 2=[1,2]:=by
    rw [e2]
    have pR:Px B2 R2:=by have:=y00 l 3 (iota ([1,2]:List Int).length++[(([1,2]:List Int).length:Int),((([1,2]:List Int).length+1:Nat):Int)]) plc0 B2;rw [<- eL2] at this;exact this
    obtain ⟨q,eR⟩:=pR
    show R2.types.take 2=[1,2]
    rw [eR,eB2];rfl
  have env:∀ f:Fl,f.ty=1->Env (made l) f:=fun f hf=>⟨hf,by rw [aA];decide,by rw [pF];decide,⟨(z2v l z3k [1,2] m.2).1,by rw [pF,eM];rfl,by rw [show (z2v l z3k [1,2] m.2).1.params=2 by rw [e2];rfl];exact take2,by rw [e2]⟩⟩
  rw [z51]
  refine ⟨?_,fun f hf=>?_⟩
  ·have z1:z37 z0c=true:=by decide +kernel
   have z2:z37 z3k=true:=by decide +kernel
   have z3:z37 z72=true:=by decide +kernel
   have hl2:2<=(z2v l z3k [1,2] m.2).1.types.length:=by
     have:=congrArg List.length take2
     simp at this;omega
   have ga:r8gA (made l) (made l).arrays 0=true:=by
     have:r8gA (made l) [⟨z72,4⟩] 0=true:=by
       simp only [r8gA,gArr,z3,aA,pA];decide
     rw [eM] at this ⊢;exact this
   have gf:r8gF (made l) (made l).flows 0=true:=by
     have:r8gF (made l) [m.1,(z2v l z3k [1,2] m.2).1] 0=true:=by
       have t1:m.1.ty=1:=by rw [e1]
       have t2:(z2v l z3k [1,2] m.2).1.ty=1:=by rw [e2]
       have p1:m.1.params=0:=by rw [e1];rfl
       have p2:(z2v l z3k [1,2] m.2).1.params=2:=by rw [e2];rfl
       simp only [r8gF,gFlw,n1,n2,z1,z2,pF,pM,t1,t2,p1,p2]
       rw [decide_eq_false (show ¬ (0:Int) > m.1.types.length by omega),decide_eq_false (show ¬ (2:Int) > (z2v l z3k [1,2] m.2).1.types.length by omega)]
       decide
     rw [eM] at this ⊢;exact this
   have gm:z6f (made l)=true:=by
     unfold z6f
     rw [pM,eM]
     show (decide ((0:Int) ≥ 0)&&m.1.ty==1&&m.1.params==0)=true
     rw [e1];rfl
   unfold z12
   rw [ga,gf,gm];rfl
  have hf2:f=m.1∨f=(z2v l z3k [1,2] m.2).1:=by rw [eM] at hf;simpa using hf
  rcases hf2 with rfl | rfl
  ·rw [<- hm];exact y90 l z0c [] S0 y7m dC0 ⟨0,[],0⟩ (env _ (by rw [hm,e1]))
  exact y90 l z3k [1,2] S2 (by intro t ht;simp at ht;omega) dC0 m.2 (env _ (by rw [e2]))
end
set_option maxRecDepth 20000
theorem y22 (l:List UInt8) (ins:List Int) (n:Int) (hn:0<=n/\n<=255):SC Tryz.prog 5 [.pv (bts l),.pv (ints ins),.pv (.val (.int .u8 n))] [] (fun k=>k∈[]) (iBool true) []:=by
  refine SC.vc tb {} [] Tryz.func5 rfl rfl ?_
  have hW:=wt_made l
  have hz:=made_ok l
  have hH:=z86 hz
  have h1:=y07 (made l) hW zo0
  rw [hH] at h1
  have hB:=y46 (y9d hz) (by show 1<=1;decide) hW (by rw [y69];exact hW) hz (by rw [z9q hz]) (made_sz l) (ins.take 10) n ⟨hn.1,by omega⟩
  have hw:IntKind.i64.wrap n=n:=IntWalk.i64_in n oM0
  rw [<- hw] at hB
  exact ⟨[],sc_awake,sR,trivial,rfl,[],sc_made l,sR,trivial,rfl,[],h1,sR,trivial,rfl,[],sc_ins ins,sR,trivial,rfl,[],hB,sR,trivial,rfl,sI,trivial⟩
section
open Go Go.ChangeShapes Go.WideShapes Go.ChangeAt Go.RowKit
section
variable {H:Type} {enc:TypeId × Value->H} {P:Program} {w:World} {base:Nat} {spare:Nat->Bool} {held:Bool}
def RepEl (own:Nat->Prop) (w:World) (ps:List PV) (cs:List Value):Prop:=ps.length=cs.length/\∀ (j:Nat) p v,ps[j]? = some p->cs[j]? = some v->RepP own w p v
theorem RepEl.nil {own:Nat->Prop}:RepEl own w [] []:=⟨rfl,fun j p v h=>by simp at h⟩
theorem RepEl.cons {own:Nat->Prop} {p:PV} {v:Value} {ps:List PV} {cs:List Value} (h:RepP own w p v) (hr:RepEl own w ps cs):RepEl own w (p::ps) (v::cs):=by
  refine ⟨by simp [hr.1],fun j q x hq hx=>?_⟩
  cases j with
  | zero=>simp at hq hx;subst hq;subst hx;exact h
  | succ j=>exact hr.2 j q x (by simpa using hq) (by simpa using hx)
theorem zu0 {α:Type} (f:α -> List PV) (wt:α -> Nat) {own:Nat->Prop} (R:Nat->DataW H × List MemPlace->List Value->Prop)
    (hR:∀ i y cs,R i y cs->∃ z:α,RepEl own w (f z) cs/\wt z+1<=Rows.uptoBulk y.1) :
    ∀ (ys:List (DataW H × List MemPlace)) (s:Nat),(∀ i y,ys[i]? = some y->∃ cs,R (s+i) y cs) ->
      ∃ l:List α,l.length=ys.length/\(∀ i z,l[i]? = some z->∃ y cs,ys[i]? = some y/\R (s+i) y cs/\RepEl own w (f z) cs)/\(l.map wt).sum+l.length<=Rows.uptoBulkAll (ys.map (·.1))
  | [],_,_=>⟨[],rfl,fun i z h=>by simp at h,by simp [Rows.uptoBulkAll]⟩
  | y::ys,s,h=>by
    obtain ⟨cs,hcs⟩:=h 0 y rfl
    obtain ⟨z,hz,hw⟩:=hR _ _ _ hcs
    obtain ⟨l,hl,hg,hb⟩:=zu0 f wt R hR ys (s+1) (fun i y' hy=>by
      have:=h (i+1) y' (by simpa using hy)
      rwa [show s+1+i=s+(i+1) by omega])
    refine ⟨z::l,by simp [hl],fun i z' hz'=>?_,?_⟩
    ·cases i with
     | zero=>simp at hz';subst hz';exact ⟨y,cs,rfl,hcs,hz⟩
     | succ i =>
       obtain ⟨y',cs',h1,h2,h3⟩:=hg i z' (by simpa using hz')
       exact ⟨y',cs',by simpa using h1,by rwa [show s+(i+1)=s+1+i by omega],h3⟩
    simp only [List.map_cons,List.sum_cons,List.length_cons,Rows.uptoBulkAll];omega
theorem y2k {α:Type} (f:α -> List PV) (wt:α -> Nat) {own:Nat->Prop} (hown:∀ b,b<w.heap.size -> ¬ own b) {t e:TypeId} {fuel:Nat} {cs:List Value} {x:DataW H × List MemPlace} {N:Nat} (ht:P.underlying t=some (.slice e)) (hC:P.cellsOf e=N) (hN:0<N)
    (h:DataW.trod enc P w base spare held fuel t cs=some x)
    (hel:∀ n cs' y,n<fuel->cs'.length=N->DataW.trod enc P w base spare held n e cs'=some y->∃ z:α,RepEl own w (f z) cs'/\wt z+1<=Rows.uptoBulk y.1) :
    ∃ (l:List α) (v:Value),cs=[v]/\RepP own w (.seq (l.map f)) v/\(l.map wt).sum+l.length+1<=Rows.uptoBulk x.1:=by
  rcases DataW.trod_slice ht h with ⟨rfl,rfl⟩ | ⟨a,len,cap,elems,rest,n,rfl,rfl,rfl,hb,hl,hm,hlen,hg,_,_⟩
  ·refine ⟨[],_,rfl,?_,by simp [Rows.uptoBulk]⟩
   have:=RepP.seq (own:=own) (w:=w) [] none 0 0 0 (fun _ _=>default) (fun h=>absurd rfl h) (fun h=>absurd rfl h) (Nat.le_refl _) (Nat.zero_le _) (fun i el h=>by simp at h) (fun i el h=>by simp at h)
   simpa using this
  obtain ⟨l,hll,hat,hsum⟩:=zu0 (w:=w) f wt (own:=own) (fun i y cs=>w.cells? base (a.add (i*P.cellsOf e)) (P.cellsOf e)=some cs/\DataW.trod enc P w base spare held n e cs=some y)
    (fun i y cs' hr=>hel n cs' y (Nat.lt_succ_self _) (by rw [(World.cells?_some hr.1).2.1,hC]) hr.2) elems 0 (fun i y hy=>by
      have hlt:i<len:=by rw [<- hlen];exact (List.getElem?_eq_some_iff.1 hy).1
      have h1:=hg i hlt
      rw [hy,Option.bind_eq_some_iff] at h1
      obtain ⟨cs',h2,h3⟩:=h1
      exact ⟨cs',by rw [Nat.zero_add];exact h2,h3⟩)
  obtain ⟨ab,ao,asp⟩:=a
  have hlen2:l.length=len:=by rw [hll,hlen]
  -- a cell that can be read
  have hsp:l≠[]->asp=none/\ab<w.heap.size:=by
    intro hne
    obtain ⟨z,r,rfl⟩:=List.exists_cons_of_ne_nil hne
    obtain ⟨y,cs',_,hr,hrep⟩:=hat 0 z rfl
    obtain ⟨_,hcl,hcell⟩:=World.cells?_some hr.1
    have h0:=hcell 0 (by rw [hC];exact hN)
    have hlt:0<cs'.length:=by rw [hcl,hC];exact hN
    rw [List.getElem?_eq_getElem hlt] at h0
    unfold World.cell? at h0
    have e0:(Addr.add (Addr.add ⟨ab,ao,asp⟩ ((0+0)*P.cellsOf e)) 0)=⟨ab,ao,asp⟩:=by simp [Addr.add]
    rw [e0] at h0
    split at h0
    ·rename_i hh
     refine ⟨?_,(Array.getElem?_eq_some_iff.1 hh).1⟩
     cases asp with
     | none=>rfl
     | some _=>simp at h0
    cases h0
  refine ⟨l,_,rfl,?_,?_⟩
  ·-- the cells of an element
   have key:∀ i z,l[i]? = some z->∃ cs',RepEl own w (f z) cs'/\cs'.length=N/\∀ j,j<N->w.cell? ⟨ab,ao+i*N+j,none⟩=cs'[j]?:=by
     intro i z hz
     obtain ⟨y,cs',_,hr,hrep⟩:=hat i z hz
     obtain ⟨_,hcl,hcell⟩:=World.cells?_some hr.1
     refine ⟨cs',hrep,hcl.trans hC,fun j hj=>?_⟩
     have h1:=hcell j (by rw [hC];exact hj)
     have hne:l≠[]:=by intro e;subst e;simp at hz
     have hs:=(hsp hne).1
     subst hs
     rw [<- h1,Addr.add_mid,Addr.add_mid,hC,Nat.zero_add]
   have hrep:=RepP.seq (own:=own) (w:=w) (l.map f) (some ⟨ab,ao,asp⟩) cap ab ao (fun i j=>(w.cell? ⟨ab,ao+i*N+j,none⟩).getD default)
     (fun hne=>by rw [(hsp (by intro e;subst e;exact hne rfl)).1]) (fun hne=>by
       have:=(hsp (by intro e;subst e;exact hne rfl)).2
       exact ⟨hown _ this,this⟩) (by simp;omega) hm ?_ ?_
   ·rw [List.length_map,hlen2] at hrep;exact hrep
   ·intro i el hi j c hj
    rw [List.getElem?_map,Option.map_eq_some_iff] at hi
    obtain ⟨z,hz,rfl⟩:=hi
    obtain ⟨cs',hrep,hcl,hcell⟩:=key i z hz
    have hjN:j<N:=by have:=(List.getElem?_eq_some_iff.1 hj).1;rw [hrep.1,hcl] at this;exact this
    have h1:=hcell j hjN
    have hfl:(f z).length=N:=by rw [hrep.1,hcl]
    rw [hfl,h1,List.getElem?_eq_getElem oM0]
    rfl
   intro i el hi j c hj
   rw [List.getElem?_map,Option.map_eq_some_iff] at hi
   obtain ⟨z,hz,rfl⟩:=hi
   obtain ⟨cs',hrep,hcl,hcell⟩:=key i z hz
   have hjN:j<N:=by have:=(List.getElem?_eq_some_iff.1 hj).1;rw [hrep.1,hcl] at this;exact this
   have h1:=hcell j hjN
   rw [List.getElem?_eq_getElem oM0] at h1
   rw [h1]
   exact hrep.2 j c _ hj (List.getElem?_eq_getElem oM0)
  simp only [Rows.uptoBulk];omega
theorem yf3 {own:Nat->Prop} (hown:∀ b,b<w.heap.size -> ¬ own b) {t e:TypeId} {fuel:Nat} {cs:List Value} {x:DataW H × List MemPlace} (ht:P.underlying t=some (.slice e)) (he:P.underlying e=some (.int .i64)) (hC:P.cellsOf e=1)
    (h:DataW.trod enc P w base spare held fuel t cs=some x):∃ (l:List Int) (v:Value),cs=[v]/\RepP own w (ints l) v/\l.length+1<=Rows.uptoBulk x.1:=by
  obtain ⟨l,v,h1,h2,h3⟩:=y2k eInt (fun _=>0) hown ht hC dC0 h (fun n cs' y _ _ hy=>by
    obtain ⟨k,rfl,rfl,_⟩:=DataW.trod_int he hy
    exact ⟨k,RepEl.cons (.val _) .nil,by simp [Rows.uptoBulk]⟩)
  exact ⟨l,v,h1,h2,by omega⟩
end
end
section
open Go Go.ChangeShapes Go.WideShapes Go.ChangeAt Go.RowKit Go.Deep
theorem Tryz.own:ownKnob Tryz.prog.godebug=none:=by kernel_rfl
theorem Tryz.laidOut:laidOutB Tryz.prog=true:=by kernel_rfl
section
variable {H:Type} {enc:TypeId × Value->H} {P:Program}
theorem yb0 {W W':World} {p:MemPlace} (h:W'.heap[p.block]? = W.heap[p.block]?):W.sameAt W' p:=by
  cases p<;>simp_all [World.sameAt,MemPlace.block,World.cell?]
theorem ze1 (hl:laidOutB P=true) {W W':World} (hb:∀ b,b<W.heap.size->W'.heap[b]? = W.heap[b]?):∀ (ts:List TypeId) (vs:List Value) (ds:List (DataW H)) (ps:List MemPlace),
    (∀ t∈ts,P.readableRec t=true/\t<P.types.size)->DataW.TrodAll enc P W 0 (fun _=>true) true ts vs ds ps->(∀ x∈ps,x.block<W.heap.size) ->
    DataW.TrodAll enc P W' 0 (fun b=>decide (b<W.heap.size)) true ts vs ds ps
  | [],vs,ds,ps,_,h,_=>by
    obtain ⟨rfl,rfl,rfl⟩:=trodAll_nil h
    exact trodAll_mk0
  | t::ts,vs,ds,ps,hr,h,hp=>by
    obtain ⟨v,vs',d,ds',p,q,rfl,rfl,rfl,h1,h2⟩:=trodAll_cons h
    have ht:=hr t (.head _)
    refine ⟨p,q,?_,ze1 hl hb ts vs' ds' q (fun t' h'=>hr t' (.tail _ h')) h2 (fun x hx=>hp x (List.mem_append_right _ hx)),rfl⟩
    refine WideElems.Trod_stays hl ht.1 ht.2 h1 (fun x hx=>?_) (fun x hx=>by simpa using hp x (List.mem_append_left _ hx))
    exact yb0 (hb _ (hp x (List.mem_append_left _ hx)))
theorem y6t {W W':World} (may:MemPlace->Prop) (hos:W'.os=W.os) (hout:W'.output=W.output) (hb:∀ b,b<W.heap.size->W'.heap[b]? = W.heap[b]?):W.keptBut W' may:=by
  refine ⟨hos,hout,fun i hi=>?_⟩
  rw [hb i hi]
  rcases h:W.heap[i]? with _ | o
  ·trivial
  cases o with
  | cells c t fr=>exact ⟨rfl,rfl,rfl,fun _ _=>rfl⟩
  | map es clock=>exact .inr ⟨rfl,rfl⟩
  | _=>rfl
theorem ya4 {f:Func} {s:ChangeSpec} {apart fresh handsOn:Bool} {W W':World} {args:Array Value} {ds gs:List (DataW H)} {before:List MemPlace} {tb:TypeId} (hl:laidOutB P=true) (hv0:s.vars=[])
    (hW:DataW.Whole enc P f.params.toList s.vars apart W args.toList ds gs before) (hrd:∀ t∈f.params.toList,P.readableRec t=true/\t<P.types.size) (hres:f.resultTypes = #[tb]) (htb:P.underlying tb=some .bool)
    (hs:s.fn H (ds++gs)={ results:=[.lit (.bool true)],args:=ds }) (hos:W'.os=W.os) (hout:W'.output=W.output) (hb:∀ b,b<W.heap.size->W'.heap[b]? = W.heap[b]?) :
    s.post enc P f apart fresh handsOn false W args (.bool true) W':=by
  have hlt:=hW.lt
  have hW':=hW
  obtain ⟨p,q,hA,hV,rfl,_,_⟩:=hW
  refine ⟨ds,gs,p++q,[],p,[],hW',?_,?_,?_,y6t _ hos hout hb,fun h=>by cases h⟩
  ·rw [hs,hres]
   exact trodAll_mk1 ⟨1,by simp [DataW.trod,htb,Value.cells]⟩
  ·rw [hs]
   exact ze1 hl hb _ _ _ _ hrd hA (fun x hx=>hlt x (List.mem_append_left _ hx))
  rw [hs,hv0]
  exact rfl
end
theorem ya7 {W:World}:RelH (fun _=>False) (fun _=>none) (look (up [])) W where
  inj _ _ _ _ _ h:=by cases h
  apart _ _ _ h:=by cases h
  old _ h:=h.elim
  obj _ _ _ h:=by cases h
  real _ _ h:=by cases h
theorem y8c {P:Program} {f:FuncId} {args:List IV} {R:Nat->Prop} (hsc:SC P f args [] R (iBool true) []) {W:World} {vs:List Value} (hr:RepL (fun _=>False) (fun _=>none) (look (up [])) W args vs) :
    Calls P f vs.toArray W fun e W'=>e = .returned (.bool true)/\W'.os=W.os/\W'.output=W.output/\∀ b,b<W.heap.size->W'.heap[b]? = W.heap[b]?:=by
  refine (hsc (fun _=>False) (fun _=>none) W vs ya7 hr).mono ?_
  rintro e W' ⟨ρ',v,rfl,hv,_,t⟩
  refine ⟨?_,t.os,t.output,fun b hb=>t.blk b hb fun k c h=>by cases h⟩
  cases hv with
  | pv _ _ hp=>cases hp;rfl
theorem y5r {b:Nat}:¬ owned (fun _=>False) (fun _=>none) b:=by
  rintro (h | ⟨_,_,h⟩)
  ·exact h
  cases h
end
section
open Go Go.ChangeShapes Go.WideShapes Go.ChangeAt Go.RowKit Go.Deep
section
variable {H:Type} {enc:TypeId × Value->H} {P:Program} {w:World} {base:Nat} {spare:Nat->Bool} {held:Bool}
theorem y7n {own:Nat->Prop} (hown:∀ b,b<w.heap.size -> ¬ own b) {t e:TypeId} {fuel:Nat} {cs:List Value} {x:DataW H × List MemPlace} (ht:P.underlying t=some (.slice e)) (he:P.underlying e=some (.int .u8)) (hC:P.cellsOf e=1)
    (h:DataW.trod enc P w base spare held fuel t cs=some x):∃ (l:List UInt8) (v:Value),cs=[v]/\RepP own w (bts l) v:=by
  obtain ⟨l,v,h1,h2,_⟩:=y2k eB (fun _=>0) hown ht hC dC0 h (fun n cs' y _ _ hy=>by
    obtain ⟨k,rfl,rfl,hk⟩:=DataW.trod_int he hy
    have hr:0<=k/\k<=255:=by
      simp [Lit.wf,IntKind.min,IntKind.max,IntKind.bits,IntKind.signed] at hk
      omega
    refine ⟨UInt8.ofNat k.toNat,?_,by simp [Rows.uptoBulk]⟩
    have e:((UInt8.ofNat k.toNat).toNat:Int)=k:=by
      rw [UInt8.toNat_ofNat_of_lt' (by simp [UInt8.size];omega)]
      omega
    unfold eB
    rw [e]
    exact RepEl.cons (.val _) .nil)
  exact ⟨l,v,h1,h2⟩
end
set_option maxRecDepth 100000 in
theorem y6y {H:Type} {enc:TypeId × Value->H} {W:World} {base b0:Nat} {spare:Nat->Bool} {held:Bool} {r:Reach} {v:Value} {d:DataW H} {p:List MemPlace} (hv:Value.okWide Tryz.prog W r b0 29 v)
    (h:DataW.Trod enc Tryz.prog W base spare held 29 v d p):∃ l:List UInt8,RepI (fun _=>False) (fun _=>none) (look (up [])) W (.pv (bts l)) v:=by
  obtain ⟨a,len,cap,rfl⟩:=okWide_slice Tryz.underlying29 hv
  obtain ⟨fuel,hf⟩:=h
  obtain ⟨l,v',h1,h2⟩:=y7n (own:=owned (fun _=>False) (fun _=>none)) (fun _ _=>y5r) Tryz.underlying29 Tryz.underlying5 kR0 hf
  have e:(Value.slice a len cap).cells.toList=[Value.slice a len cap]:=rfl
  rw [e] at h1
  cases h1
  exact ⟨l,.pv _ _ h2⟩
end
section
open Go Go.ChangeShapes Go.WideShapes Go.ChangeAt Go.RowKit Go.Deep
set_option maxRecDepth 100000 in
theorem ya0 {H:Type} {enc:TypeId × Value->H} {W:World} {base b0:Nat} {spare:Nat->Bool} {held:Bool} {r:Reach} {v:Value} {d:DataW H} {p:List MemPlace} (hv:Value.okWide Tryz.prog W r b0 35 v)
    (h:DataW.Trod enc Tryz.prog W base spare held 35 v d p):∃ l:List Int,RepI (fun _=>False) (fun _=>none) (look (up [])) W (.pv (ints l)) v:=by
  obtain ⟨a,len,cap,rfl⟩:=okWide_slice uT35 hv
  obtain ⟨fuel,hf⟩:=h
  obtain ⟨l,v',h1,h2,_⟩:=yf3 (own:=owned (fun _=>False) (fun _=>none)) (fun _ _=>y5r) uT35 uT3 kR0 hf
  have e:(Value.slice a len cap).cells.toList=[Value.slice a len cap]:=rfl
  rw [e] at h1
  cases h1
  exact ⟨l,.pv _ _ h2⟩
set_option maxRecDepth 100000 in
theorem open_u8 {H:Type} {enc:TypeId × Value->H} {W:World} {base b0:Nat} {spare:Nat->Bool} {held:Bool} {r:Reach} {v:Value} {d:DataW H} {p:List MemPlace} (hv:Value.okWide Tryz.prog W r b0 5 v)
    (h:DataW.Trod enc Tryz.prog W base spare held 5 v d p):∃ n:Int,0<=n/\n<=255/\RepI (fun _=>False) (fun _=>none) (look (up [])) W (.pv (.val (.int .u8 n))) v:=by
  obtain ⟨n,rfl⟩:=okWide_int Tryz.underlying5 hv
  obtain ⟨fuel,hf⟩:=h
  obtain ⟨k,h1,_,hk⟩:=DataW.trod_int Tryz.underlying5 hf
  have e:(Value.int IntKind.u8 n).cells.toList=[Value.int IntKind.u8 n]:=rfl
  rw [e] at h1
  cases h1
  have hr:0<=n/\n<=255:=by
    simp [Lit.wf,IntKind.min,IntKind.max,IntKind.bits,IntKind.signed] at hk
    omega
  exact ⟨n,hr.1,hr.2,.pv _ _ (.val _)⟩
theorem y71 {F:Nat->Prop} {ρ:Loc} {σ:Heap'} {w:World} {x y z:IV} {a b c:Value} (h1:RepI F ρ σ w x a) (h2:RepI F ρ σ w y b) (h3:RepI F ρ σ w z c):RepL F ρ σ w [x,y,z] [a,b,c]:=by
  refine ⟨rfl,fun j q hj=>?_⟩
  match j,hj with
  | 0,hj=>simp at hj;subst hj;exact ⟨a,rfl,h1⟩
  | 1,hj=>simp at hj;subst hj;exact ⟨b,rfl,h2⟩
  | 2,hj=>simp at hj;subst hj;exact ⟨c,rfl,h3⟩
  | j+3,hj=>simp at hj
set_option maxRecDepth 100000 in
theorem zj6 (hsc:∀ (l:List UInt8) (ins:List Int) (n:Int),0<=n/\n<=255->SC Tryz.prog 5 [.pv (bts l),.pv (ints ins),.pv (.val (.int .u8 n))] [] (fun k=>k∈[]) (iBool true) []) (os:Os) (started:os.Started) (H:Type) (enc:TypeId × Value->H) :
    ReturnsInHanded {} Tryz.checked os 5 .any (Rows.hoistDoesSpec.pre6 enc Tryz.prog Tryz.f5 Rows.hoistDoesRow.domain false) (Rows.hoistDoesSpec.post enc Tryz.prog Tryz.f5 false true false false):=by
  refine returnsInHanded_of_change (C:=Tryz.checked) Tryz.own started kR0 Tryz.func5
    (ChangeSpec.witness6 (enc:=enc) (C:=Tryz.checked) false ⟨#[],#[.slice none 0 0,.slice none 0 0,.int .u8 0],[]⟩ 8 kR0 kR0 kR0 kR0) ?_
  intro W base args ds gs before hval hW _ _
  have hW':=hW
  obtain ⟨p,q,hA0,hV,rfl,hfz,hnd⟩:=hW
  have hA:DataW.TrodAll enc Tryz.prog W 0 (fun _=>true) true Tryz.f5.params.toList args.toList ds p:=hA0
  rw [Tryz.params5] at hA hval
  obtain ⟨v0,vs0,d0,ds0,p0,q0,hargs,rfl,rfl,h0,r0⟩:=trodAll_cons hA
  obtain ⟨v1,vs1,d1,ds1,p1,q1,rfl,rfl,rfl,h1,r1⟩:=trodAll_cons r0
  obtain ⟨v2,vs2,d2,ds2,p2,q2,rfl,rfl,rfl,h2,r2⟩:=trodAll_cons r1
  obtain ⟨rfl,rfl,rfl⟩:=trodAll_nil r2
  obtain rfl:args = #[v0,v1,v2]:=by cases args;simp_all
  obtain ⟨rfl,rfl⟩:=trodVars_none hV
  obtain ⟨l,hu⟩:=y6y (hval 0 29 v0 rfl rfl) h0
  obtain ⟨ins,hi⟩:=ya0 (hval 1 35 v1 rfl rfl) h1
  obtain ⟨n,hn0,hn1,hn⟩:=open_u8 (hval 2 5 v2 rfl rfl) h2
  refine (y8c (hsc l ins n ⟨hn0,hn1⟩) (y71 hu hi hn)).mono ?_
  rintro e W' ⟨rfl,hos,hout,hbl⟩
  exact ⟨_,rfl,ya4 Tryz.laidOut rfl hW' (fun t ht=>by
    rw [Tryz.params5] at ht
    have ht':t=29∨t=35∨t=5:=by simpa using ht
    rcases ht' with rfl | rfl | rfl<;>exact ⟨by kernel_rfl,of_decide_eq_true kR0⟩) kR0 Tryz.underlying4 rfl hos hout hbl⟩
set_option maxRecDepth 100000 in
theorem y1d (hsc:∀ (l:List UInt8) (ins:List Int) (n:Int),0<=n/\n<=255->SC Tryz.prog 5 [.pv (bts l),.pv (ints ins),.pv (.val (.int .u8 n))] [] (fun k=>k∈[]) (iBool true) []):Rows.HoistDoesSaid :=
  OpenClaim.holds_of_wide 5 Tryz.f5 rfl rfl rfl rfl rfl rfl rfl ⟨rfl,rfl,rfl,rfl,rfl⟩ rfl rfl rfl rfl rfl kR0 Tryz.func5 kR0
    (of_decide_eq_true kR0) (by unfold Func.isWrapper;first | (rw [if_pos (by decide +kernel)];kernel_rfl) | (rw [if_neg (by decide +kernel)];exact ⟨rfl,rfl⟩))
    (fun os started H enc _=>zj6 hsc os started H enc)
end
theorem hoistDoes_holds:Rows.HoistDoesSaid:=y1d fun l ins n hn=>y22 l ins n hn
end Go.Proofs.YtfaeemilgahcpaaGreat
