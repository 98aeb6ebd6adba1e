/- PART 6 of 7 of a proof: see the last part. -/
import Derived.Test.YthbcibeddfacbaaGreatSd5
set_option maxRecDepth 8000
set_option maxHeartbeats 2000000
set_option linter.unusedSimpArgs false
set_option linter.unusedVariables false
set_option linter.unusedSectionVars false
namespace Go.Proofs.YthbcibeddfacbaaGreat
open Go
def z2q (a b:Nd):Bool:=a.kind==b.kind&&a.op==b.op&&a.n==b.n&&decide (a.kind<=4)&&a.args==b.args
mutual
def onN (pre:List Nd):Nd->Bool
  | .mk kind op n name args outs params ks=>!(pre.any fun y=>z2q y (.mk kind op n name args outs params ks))&&onK ks
def onL (pre:List Nd):List Nd->Bool
  | []=>true
  | x::r=>onN pre x&&onL (pre++[x]) r
def onK:List (List Nd)->Bool
  | []=>true
  | l::r=>onL [] l&&onK r
end
theorem y2i (pre:List Nd) (x:Nd):onN pre x=(!(pre.any fun y=>z2q y x)&&onK x.kids):=by cases x;simp only [onN,Nd.kids]
def y2t (u:Un):Bool:=u.flows.all fun f=>onL [] f.body
theorem y1f {y x:Nd} (h:z2q y x=true):y.kind=x.kind/\y.kind<=4/\z2h y=z2h x:=by
  simp only [z2q,Bool.and_eq_true,beq_iff_eq,decide_eq_true_eq] at h
  obtain ⟨⟨⟨⟨h1,h2⟩,h3⟩,h4⟩,h5⟩:=h
  refine ⟨h1,h4,?_⟩
  unfold z2h
  rw [h1,h2,h3,h5]
theorem yf0 {pre:List Nd} {x:Nd} (h:∀ y∈pre,z2q y x=false):(pre.any fun y=>z2q y x)=false:=by
  rw [List.any_eq_false]
  exact fun y hy=>by rw [h y hy];simp
def Known (tb:Tb) (pre:List Nd):Prop:=∀ y∈pre,stK y.kind=true->aGet (z2h y) tb.seen≠none
mutual
theorem on_node:∀ (x:Nd) (tb:Tb) (to:TT) (pre:List Nd),Known tb pre->kdN x=true->onL pre (z02 tb to x).1=true/\Known (z02 tb to x).2.1 (pre++(z02 tb to x).1)
  | .mk kind op n name args outs params ks,tb,to,pre,hk,hd=>by
    rw [kdN_eq] at hd
    simp only [Bool.and_eq_true,decide_eq_true_eq,Nd.kids] at hd
    have hks:=ye3 ks tb to hd.2
    unfold z02
    by_cases hK:stK kind=true
    ·rw [if_pos hK]
     dsimp only
     unfold z1w
     cases hp:z2d tb.nums (.mk kind op n name (args.map (z0x to)) outs params (z0g tb to ks).1) with
     | some y=>exact ⟨by simp [onL],by simpa using hk⟩
     | none =>
       dsimp only
       cases hs:aGet (z2h (.mk kind op n name (args.map (z0x to)) outs params (z0g tb to ks).1)) tb.seen with
       | some y=>exact ⟨by simp [onL],by simpa using hk⟩
       | none =>
         refine ⟨?_,fun y hy hyk=>?_⟩
         ·simp only [if_true,onL,Bool.and_true]
          rw [y2i]
          have:=yf0 (pre:=pre) (x:=.mk kind op n name (args.map (z0x to)) outs params (z0g tb to ks).1) fun y hy=>by
            cases ha:z2q y (.mk kind op n name (args.map (z0x to)) outs params (z0g tb to ks).1) with
            | false=>rfl
            | true =>
              obtain ⟨e1,e2,e3⟩:=y1f ha
              exact absurd (e3 ▸ hs) (hk y hy (by rw [e1];exact hK))
          rw [this,Bool.not_false,Bool.true_and]
          exact hks
         simp only [if_true] at hy
         rw [z3c]
         by_cases e:z2h y=z2h (.mk kind op n name (args.map (z0x to)) outs params (z0g tb to ks).1)
         ·rw [if_pos e];simp
         rw [if_neg e]
         rcases List.mem_append.1 hy with hy | hy
         ·exact hk y hy hyk
         obtain rfl:=List.mem_singleton.1 hy
         exact absurd rfl e
    rw [if_neg hK]
    refine ⟨?_,fun y hy hyk=>?_⟩
    ·simp only [onL,Bool.and_true]
     rw [y2i]
     have:=yf0 (pre:=pre) (x:=.mk kind op n name (args.map (z0x to)) outs params (z0g tb to ks).1) fun y hy=>by
       cases ha:z2q y (.mk kind op n name (args.map (z0x to)) outs params (z0g tb to ks).1) with
       | false=>rfl
       | true =>
         obtain ⟨e1,e2,_⟩:=y1f ha
         have h1:1<=kind:=hd.1
         have e1':y.kind=kind:=e1
         exfalso
         apply hK
         simp only [stK,Bool.or_eq_true,beq_iff_eq]
         omega
     rw [this,Bool.not_false,Bool.true_and]
     exact hks
    rcases List.mem_append.1 hy with hy | hy
    ·exact hk y hy hyk
    obtain rfl:=List.mem_singleton.1 hy
    exact absurd hyk hK
theorem y4o:∀ (l:List Nd) (tb:Tb) (to:TT) (pre:List Nd),Known tb pre->kdL l=true->onL pre (z0e tb to l).1=true
  | [],_,_,_,_,_=>by simp [z0e,onL]
  | x::r,tb,to,pre,hk,hd=>by
    simp only [kdL,Bool.and_eq_true] at hd
    obtain ⟨h1,h2⟩:=on_node x tb to pre hk hd.1
    have h3:=y4o r (z02 tb to x).2.1 (z02 tb to x).2.2 _ h2 hd.2
    simp only [z0e]
    have hl:=zz1 tb to x
    match hn:(z02 tb to x).1,hl with
    | [],_=>rw [hn] at h3;simpa using h3
    | [y],_ =>
      rw [hn] at h1 h3
      simp only [onL,Bool.and_true] at h1
      simp only [List.singleton_append,onL,h1,Bool.true_and]
      exact h3
theorem ye3:∀ (ks:List (List Nd)) (tb:Tb) (to:TT),kdK ks=true->onK (z0g tb to ks).1=true
  | [],_,_,_=>by simp [z0g,onK]
  | l::r,tb,to,hd=>by
    simp only [kdK,Bool.and_eq_true] at hd
    simp only [z0g,onK,Bool.and_eq_true]
    exact ⟨y4o l tb to [] (fun y hy=>by simp at hy) hd.1,ye3 r tb _ hd.2⟩
end
theorem y7z (u:Un):y2t (z6h stB u).1=true:=by
  by_cases h:(z1b u).1=0
  ·rw [z6i stB h]
   unfold y2t
   rw [List.all_eq_true]
   intro g hg
   obtain ⟨f,hf,rfl⟩:=List.mem_map.1 (show g∈u.flows.map (z43 stB) from hg)
   exact y4o f.body _ _ [] (fun y hy=>by simp at hy) (kd_valid (by rw [z7k];exact h) f hf)
  rw [zx9 stB h]
  rfl
def inEs (l:TT):List (Value × PV):=l.map fun e=>(vKey e.1,vInt e.2)
def tH (tb:Tb) (to:TT):List (Nat × HO):=[(3001,.map (kyEs tb.seen)),(3002,.map (inEs tb.nums)),(3003,.map (inEs to))]
abbrev tV:IV:=.agg [.mp 3001,.mp 3002,.mp 3003]
theorem z6e (l:TT):∀ e∈inEs l,z2g (.int .i64) e.1=true:=fun e he=>by
  obtain ⟨x,_,rfl⟩:=List.mem_map.1 he
  rfl
theorem yc4 (a b:Int):keyB (vKey a) (vKey b)=decide (a=b):=by
  show (a==b)=_
  by_cases h:a=b<;>simp [h]
theorem y22 (v:Int):∀ l:TT,z4j (vKey v) (inEs l)=(aGet v l).map vInt
  | []=>rfl
  | (a,b)::r=>by
    have ih:=y22 v r
    unfold inEs at ih ⊢
    simp only [List.map_cons,z4j,aGet,yc4,decide_eq_true_eq]
    by_cases h:v=a
    · rw [if_pos h,if_pos h];rfl
    · rw [if_neg h,if_neg h];exact ih
theorem zm8 (k v:Int):∀ l:TT,mput (vKey k) (vInt v) (inEs l)=inEs (aPut k v l)
  | []=>rfl
  | (a,b)::r=>by
    have ih:=zm8 k v r
    unfold inEs at ih ⊢
    simp only [List.map_cons,mput,aPut,yc4,decide_eq_true_eq]
    by_cases h:k=a
    · rw [if_pos h,if_pos h];rfl
    · rw [if_neg h,if_neg h,ih];rfl
theorem zq5 (v:Int) (l:TT):((z4j (vKey v) (inEs l)).getD (.val (.int .i64 0)),(z4j (vKey v) (inEs l)).isSome)=(vInt ((aGet v l).getD 0),(aGet v l).isSome):=by
  rw [y22]
  cases aGet v l<;>rfl
theorem y8o {to:TT} {v:Int} (h:(aGet v to).isSome=true):(aGet v to).getD 0=z0x to v:=by
  unfold z0x
  cases hg:aGet v to with
  | none=>rw [hg] at h;cases h
  | some y=>rfl
theorem y8n {to:TT} {v:Int} (h:(aGet v to).isSome=false):z0x to v=v:=by
  unfold z0x
  cases hg:aGet v to with
  | none=>rfl
  | some y=>rw [hg] at h;cases h
theorem z5a {nums:TT} {v:Int} {q:Int->Bool}:y3a nums v q=((aGet v nums).isSome&&q ((aGet v nums).getD 0)):=by
  unfold y3a
  cases aGet v nums<;>rfl
theorem ls_len:∀ l:List Nd,l.length<=lsW l
  | []=>by simp
  | x::r=>by
    have h1:=ls_len r
    have h2:1<=ndW x:=by cases x;simp only [ndW];omega
    simp only [lsW,List.length_cons]
    omega
theorem zu0 {α:Type}:∀ {l:List α} {k:Nat} {x:α} {r:List α},l.drop k=x::r->l.take (k+1)=l.take k++[x]
  | [],k,x,r,h=>by simp at h
  | y::l,0,x,r,h=>by simp at h;simp [h.1]
  | y::l,k+1,x,r,h=>by
    have:=zu0 (l:=l) (k:=k) (x:=x) (r:=r) (by simpa using h)
    simp only [List.take_succ_cons,List.cons_append,this]
theorem y4d {α:Type} {l:List α} {j k:Nat} (hj:j<k) (hl:j<l.length):l[j]∈l.take k:=by
  have h:j<(l.take k).length:=by rw [List.length_take];omega
  have e:(l.take k)[j]=l[j]:=List.getElem_take
  exact e ▸ List.getElem_mem h
theorem args_ne {l m:List Int} (h:¬ (l.length:Int)=m.length):(l==m)=false:=by
  cases hb:(l==m) with
  | false=>rfl
  | true=>exact absurd (by rw [eq_of_beq hb]) h
theorem firm3 {hp:Hp} {a b c:Nat} (h1:∃ es,look hp a=some (.map es)) (h2:∃ es,look hp b=some (.map es)) (h3:∃ es,look hp c=some (.map es)):∀ z∈[IV.mp a,.mp b,.mp c],z.firm (look hp):=fun z hz=>by
  rcases List.mem_cons.1 hz with rfl | hz
  · exact h1
  · rcases List.mem_cons.1 hz with rfl | hz
    · exact h2
    · obtain rfl:=List.mem_singleton.1 hz;exact h3
theorem ze3 {l:List Int} {i:Nat} (h:i<l.length):(l.map eInt)[i]? = some [vInt (l.getD i 0)]:=by
  rw [List.getElem?_map,List.getD_eq_getElem?_getD,List.getElem?_eq_getElem h];rfl
theorem y9s (B:List Nd->List Nd) (l:List Fl) (x:Fl):(l++[z43 B x]).map Fl.enc=l.map Fl.enc++[[vStr x.name,vInt x.ty,vInt x.params,ints x.types,z0o (B x.body)]]:=by
  rw [List.map_append];rfl
theorem zj7 (op:Int):SC Tryz.prog 90 [iInt op] [] (fun _=>False) (iBool (z57 op)) []:=by
  refine SC.of Tryz.func90 rfl (lb rfl) fun F ρ w=>?_
  refine tQ <| tG <| sm 1 rfl <| nL <| tQ <| tQ <| tG <| sm 1 rfl <| nL <| tBk <| tQ <| tQ ?_
  refine tG <| sm 2 rfl <| nL ?_
  refine tC rfl (fun hc4=>?_) fun hc4=>?_
  ·refine tSk ?_
   refine tC rfl (fun hd4=>?_) fun hd4=>?_
   ·refine tQ <| tG <| sm 1 rfl <| nL <| tRt <| rOk rfl ?_ nPo
    simp_all [z57]
   exact absurd (hc4.symm.trans hd4) dC0
  refine tQ <| tG <| sm 2 rfl <| nL ?_
  refine tC rfl (fun hc4=>?_) fun hc4=>?_
  ·refine tSk ?_
   refine tC rfl (fun hd4=>?_) fun hd4=>?_
   ·refine tQ <| tG <| sm 1 rfl <| nL <| tRt <| rOk rfl ?_ nPo
    simp_all [z57]
   exact absurd (hc4.symm.trans hd4) dC0
  refine tQ <| tG <| sm 2 rfl <| nL ?_
  refine tC rfl (fun hc4=>?_) fun hc4=>?_
  ·refine tSk ?_
   refine tC rfl (fun hd4=>?_) fun hd4=>?_
   ·refine tQ <| tG <| sm 1 rfl <| nL <| tRt <| rOk rfl ?_ nPo
    simp_all [z57]
   exact absurd (hc4.symm.trans hd4) dC0
  refine tQ <| tG <| sm 2 rfl <| nL ?_
  refine tC rfl (fun hc4=>?_) fun hc4=>?_
  ·refine tSk ?_
   refine tC rfl (fun hd4=>?_) fun hd4=>?_
   ·refine tQ <| tG <| sm 1 rfl <| nL <| tRt <| rOk rfl ?_ nPo
    simp_all [z57]
   exact absurd (hc4.symm.trans hd4) dC0
  refine tQ <| tG <| sm 2 rfl <| nL ?_
  refine tC rfl (fun hc4=>?_) fun hc4=>?_
  ·refine tSk ?_
   refine tC rfl (fun hd4=>?_) fun hd4=>?_
   ·refine tQ <| tG <| sm 1 rfl <| nL <| tRt <| rOk rfl ?_ nPo
    simp_all [z57]
   exact absurd (hc4.symm.trans hd4) dC0
  refine tQ <| tG <| sm 2 rfl <| nL ?_
  refine tC rfl (fun hc4=>?_) fun hc4=>?_
  ·refine tSk ?_
   refine tC rfl (fun hd4=>?_) fun hd4=>?_
   ·refine tQ <| tG <| sm 1 rfl <| nL <| tRt <| rOk rfl ?_ nPo
    simp_all [z57]
   exact absurd (hc4.symm.trans hd4) dC0
  refine tG <| sm 2 rfl <| nL ?_
  refine tC rfl (fun hc4=>?_) fun hc4=>?_
  ·refine tQ <| tG <| sm 1 rfl <| nL <| tRt <| rOk rfl ?_ nPo
   simp_all [z57]
  refine tSk <| tQ <| tG <| sm 1 rfl <| nL <| tRt <| rOk rfl ?_ nPo
  simp_all [z57]
theorem zj6 (op n:Int):SC Tryz.prog 89 [iInt op,iInt n] [] (fun _=>False) (iBool (z3a op n)) []:=by
  refine SC.of Tryz.func89 rfl (lb rfl) fun F ρ w=>?_
  refine tQ <| tG <| sm 1 rfl <| nL <| tQ <| tQ <| tG <| sm 1 rfl <| nL <| tBk <| tQ <| tQ ?_
  refine tG <| sm 2 rfl <| nL ?_
  refine tC rfl (fun hc6=>?_) fun hc6=>?_
  ·refine tSk ?_
   refine tC rfl (fun hd6=>?_) fun hd6=>?_
   ·refine tQ <| tG <| sm 3 rfl <| nL <| tRt <| rOk rfl ?_ nPo
    simp_all [z3a]
   exact absurd (hc6.symm.trans hd6) dC0
  refine tQ <| tG <| sm 2 rfl <| nL ?_
  refine tC rfl (fun hc6=>?_) fun hc6=>?_
  ·refine tSk ?_
   refine tC rfl (fun hd6=>?_) fun hd6=>?_
   ·refine tQ <| tG <| sm 3 rfl <| nL <| tRt <| rOk rfl ?_ nPo
    simp_all [z3a]
   exact absurd (hc6.symm.trans hd6) dC0
  refine tQ <| tG <| sm 2 rfl <| nL ?_
  refine tC rfl (fun hc6=>?_) fun hc6=>?_
  ·refine tSk ?_
   refine tC rfl (fun hd6=>?_) fun hd6=>?_
   ·refine tQ <| tG <| sm 3 rfl <| nL <| tRt <| rOk rfl ?_ nPo
    simp_all [z3a]
   exact absurd (hc6.symm.trans hd6) dC0
  refine tQ <| tG <| sm 2 rfl <| nL ?_
  refine tC rfl (fun hc6=>?_) fun hc6=>?_
  ·refine tSk ?_
   refine tC rfl (fun hd6=>?_) fun hd6=>?_
   ·refine tQ <| tG <| sm 3 rfl <| nL <| tRt <| rOk rfl ?_ nPo
    simp_all [z3a]
   exact absurd (hc6.symm.trans hd6) dC0
  refine tQ <| tG <| sm 2 rfl <| nL ?_
  refine tC rfl (fun hc6=>?_) fun hc6=>?_
  ·refine tSk ?_
   refine tC rfl (fun hd6=>?_) fun hd6=>?_
   ·refine tQ <| tG <| sm 3 rfl <| nL <| tRt <| rOk rfl ?_ nPo
    simp_all [z3a]
   exact absurd (hc6.symm.trans hd6) dC0
  refine tQ <| tG <| sm 2 rfl <| nL ?_
  refine tC rfl (fun hc6=>?_) fun hc6=>?_
  ·refine tSk ?_
   refine tC rfl (fun hd6=>?_) fun hd6=>?_
   ·refine tQ <| tG <| sm 3 rfl <| nL <| tRt <| rOk rfl ?_ nPo
    simp_all [z3a]
   exact absurd (hc6.symm.trans hd6) dC0
  refine tG <| sm 2 rfl <| nL ?_
  refine tC rfl (fun hc6=>?_) fun hc6=>?_
  ·refine tQ <| tG <| sm 3 rfl <| nL <| tRt <| rOk rfl ?_ nPo
   simp_all [z3a]
  refine tQ <| tQ <| tG <| sm 2 rfl <| nL ?_
  refine tC rfl (fun hc16=>?_) fun hc16=>?_
  ·refine tSk ?_
   refine tC rfl (fun hd16=>?_) fun hd16=>?_
   ·refine tQ <| tG <| sm 3 rfl <| nL <| tRt <| rOk rfl ?_ nPo
    simp_all [z3a]
   exact absurd (hc16.symm.trans hd16) dC0
  refine tG <| sm 2 rfl <| nL ?_
  refine tC rfl (fun hc16=>?_) fun hc16=>?_
  ·refine tQ <| tG <| sm 3 rfl <| nL <| tRt <| rOk rfl ?_ nPo
   simp_all [z3a]
  refine tQ <| tG <| sm 2 rfl <| nL ?_
  refine tC rfl (fun hc21=>?_) fun hc21=>?_
  ·refine tQ <| tG <| sm 3 rfl <| nL <| tRt <| rOk rfl ?_ nPo
   simp_all [z3a]
  refine tSk <| tQ <| tG <| sm 1 rfl <| nL <| tRt <| rOk rfl ?_ nPo
  simp_all [z3a]
theorem sc_stKey (x:Nd) (h3:x.kind=3->0<x.args.length) (h4:x.kind=4->1<x.args.length):SC Tryz.prog 65 [.pv (ndv x)] [] (fun _=>False) (.pv (kyP (z2h x))) []:=by
  refine SC.ofC Tryz.func65 rfl (lb rfl) rfl fun F ρ w=>?_
  refine tQ <| tG <| cE rfl (z2m rfl rfl) <| cE rfl (aLc (k:=102) rfl tZ108 rfl rfl rfl rfl) <| nL <| tQ <| tG <| sm 6 rfl <| cV rfl (bPu rfl rfl tZ108 tP108 rfl (fbk rfl) rfl) <| cE rfl (aLc (k:=103) rfl tZ108 rfl rfl rfl rfl) <| c0 (sBA rfl rfl rfl rfl rfl ((fun h=>h)) z8c (flk rfl) (lb rfl)) <| nL ?_
  refine tQ <| tQ <| tG <| sm 2 rfl <| nL <| tBk <| tQ <| tG <| sm 2 rfl <| nL ?_
  refine tC rfl (fun hc13=>?_) fun hc13=>?_
  ·have hk:x.kind=3:=by simpa using hc13
   have hi0:=ze3 (h3 hk)
   refine tG <| sm 2 rfl <| cV rfl (iSq rfl rfl rfl uT35 hi0 tS3 rfl (by rfl)) <| sm 2 rfl <| c0 (sBx rfl rfl rfl rfl ((fun h=>h)) tS3 (rfl) (lb rfl)) <| nL <| tQ <| tG <| cV rfl (lBP rfl rfl rfl Tryz.underlying108 rfl z8c (lb rfl) rfl trivial) <| c0 (sBA rfl rfl rfl rfl rfl ((fun h=>h)) z8c (flk rfl) (lb rfl)) <| nL <| tRt <| rCk (.inl rfl) (fun _ _ ho=>lBP ho rfl rfl Tryz.underlying108 rfl z8c (lb rfl) rfl trivial) ?_ nPo
   simp_all [z2h,kyP]
  have hk3:(x.kind==3)=false:=hc13
  refine tQ <| tG <| sm 2 rfl <| nL ?_
  refine tC rfl (fun hc20=>?_) fun hc20=>?_
  ·have hk:x.kind=4:=by simpa using hc20
   have hl:=h4 hk
   have hi0:=ze3 (l:=x.args) (i:=0) oM0
   have hi1:=ze3 (l:=x.args) (i:=1) hl
   refine tQ <| tDr z78 (fun k=>k∈([]:List Nat)) <| wR 3 [0,1,2,3,4,5,6,7,8] kR0 h30 <| smR 2 rfl <| rV rfl rfl (iSq rfl rfl rfl uT35 hi0 tS3 rfl (by rfl)) <| smR 3 rfl <| rV rfl rfl (iSq rfl rfl rfl uT35 hi1 tS3 rfl (by rfl)) <| smR 2 rfl <| nR <| wO 9 kR0 <| wI rfl rfl nf (nOl rfl) (fun _ _=>sBx rfl rfl rfl rfl sI0 tS3 (rfl) (lb rfl)) <| wR 1 [10] kR0 h30 ?_
   refine smR 1 rfl <| nR <| wO 11 kR0 <| wI rfl rfl nf (nOl rfl) (fun _ _=>sBx rfl rfl rfl rfl sI0 tS3 (rfl) (lb rfl)) <| wDn kR0 <| tQ <| tG <| sm 2 rfl <| cE rfl (ocq (zj7 x.op) ent90 rfl rfl) <| sm 1 rfl ?_
   refine wS 35 rfl (fun hb35=>?_) fun hb35=>?_
   ·refine sm 6 rfl <| nL ?_
    refine tC rfl (fun hc41=>?_) fun hc41=>?_
    ·refine tG <| sm 5 rfl <| c0 (sBx rfl rfl rfl rfl ((fun h=>h)) tS3 (rfl) (lb rfl)) <| sm 1 rfl <| c0 (sBx rfl rfl rfl rfl ((fun h=>h)) tS3 (rfl) (lb rfl)) <| nL <| tQ <| tG <| cV rfl (lBP rfl rfl rfl Tryz.underlying108 rfl z8c (lb rfl) rfl trivial) <| c0 (sBA rfl rfl rfl rfl rfl ((fun h=>h)) z8c (flk rfl) (lb rfl)) <| nL <| tRt <| rCk (.inl rfl) (fun _ _ ho=>lBP ho rfl rfl Tryz.underlying108 rfl z8c (lb rfl) rfl trivial) ?_ nPo
     simp_all [z2h,kyP]
    refine tSk <| tQ <| tG <| cV rfl (lBP rfl rfl rfl Tryz.underlying108 rfl z8c (lb rfl) rfl trivial) <| c0 (sBA rfl rfl rfl rfl rfl ((fun h=>h)) z8c (flk rfl) (lb rfl)) <| nL <| tRt <| rCk (.inl rfl) (fun _ _ ho=>lBP ho rfl rfl Tryz.underlying108 rfl z8c (lb rfl) rfl trivial) ?_ nPo
    (simp_all [z2h,kyP];rw [if_neg oM0];simp)
   refine sm 6 rfl <| nL <| Tr.condF rfl <| tSk <| tQ <| tG <| cV rfl (lBP rfl rfl rfl Tryz.underlying108 rfl z8c (lb rfl) rfl trivial) <| c0 (sBA rfl rfl rfl rfl rfl ((fun h=>h)) z8c (flk rfl) (lb rfl)) <| nL <| tRt <| rCk (.inl rfl) (fun _ _ ho=>lBP ho rfl rfl Tryz.underlying108 rfl z8c (lb rfl) rfl trivial) ?_ nPo
   simp_all [z2h,kyP]
  have hk4:(x.kind==4)=false:=hc20
  refine tSk <| tQ <| tG <| cV rfl (lBP rfl rfl rfl Tryz.underlying108 rfl z8c (lb rfl) rfl trivial) <| c0 (sBA rfl rfl rfl rfl rfl ((fun h=>h)) z8c (flk rfl) (lb rfl)) <| nL <| tRt <| rCk (.inl rfl) (fun _ _ ho=>lBP ho rfl rfl Tryz.underlying108 rfl z8c (lb rfl) rfl trivial) ?_ nPo
  simp_all [z2h,kyP]
theorem yi3 (l:List Int) (tb:Tb) (to:TT) (hb:l.length<=1073741824):SC Tryz.prog 39 [tV,.pv (ints l)] (tH tb to) (fun k=>k=3001∨k=3002∨k=3003) (.pv (ints (l.map (z0x to)))) (tH tb to):=by
  refine SC.of Tryz.func39 rfl (lb rfl) fun F ρ w=>?_
  refine Tr.lenOf (t:=1) rfl (fun hl=>?_)
  simp only [List.length_map] at hl
  refine tQ <| tG <| cE rfl (z5e (k:=102) rfl rfl rfl rfl rfl rfl rfl) <| sm 1 rfl <| nL <| tQ <| tQ <| Tr.grow (t:=4) (k:=104) ⟨3,1⟩ rfl rfl rfl rfl rfl <| tG <| sm 1 rfl <| cV rfl (oSm uT35 rfl) <| sm 1 rfl ?_
  refine nL <| tBk <| Tr.sub (Sub.of (fr':=[(11,iInt 0),(10,iInt l.length),(9,.pv (ints l)),(4,.sl 104 (([]:List Int).map eInt).length),(2,.ptr 102 0)]) ⟨rfl,rfl,rfl,rfl,rfl,trivial⟩) ?_
  refine Tr.loop (fun fr σ m=>∃ (k:Nat) (acc:List Int),(k<=l.length)/\(acc++(l.drop k).map (z0x to)=l.map (z0x to))/\fr=[(11,iInt k),(10,iInt l.length),(9,.pv (ints l)),(4,.sl 104 (acc.map eInt).length),(2,.ptr 102 0)] /\ σ = look [(104,some (.row ⟨3,1⟩ (acc.map eInt))),(102,some (.box [.mp 3001,.mp 3002,.mp 3003])),(3001,some (.map (kyEs tb.seen))),(3002,some (.map (inEs tb.nums))),(3003,some (.map (inEs to)))]/\m=l.length - k) (n:=l.length - 0) ?_ ?_
  ·exact ⟨0,([]:List Int),Nat.zero_le _,rfl,rfl,rfl,rfl⟩
  rintro fr σ m ⟨k,acc,hI0,hI1,rfl,rfl,rfl⟩
  refine tQ <| tG <| sm 1 rfl <| nL <| tQ ?_
  refine tC rfl (fun hc12=>?_) fun hc12=>?_
  ·have hlt:k<l.length:=by simpa using hc12
   have hd:=List.drop_eq_getElem_cons hlt
   have hm:=List.getElem_mem hlt
   have hi:=z0a (f:=eInt) (List.getElem?_eq_getElem hlt)
   generalize l[k]=x at hd hm hi
   have hal:(acc.map eInt).length=acc.length:=by simp
   have hol:acc.length+1<=1073741824:=by
     have:=congrArg List.length hI1
     rw [hd] at this
     simp only [List.length_append,List.length_map,List.length_cons] at this
     omega
   have hgd:=zq5 x to
   have hg1:=congrArg Prod.fst hgd
   have hg2:=congrArg Prod.snd hgd
   dsimp only at hg1 hg2
   refine tSk <| tQ <| tBk <| tQ <| tG <| cV rfl (iSq rfl rfl rfl uT35 hi tS3 rfl (by rfl)) <| sm 2 rfl <| nL <| tQ <| tQ <| tG <| sm 3 rfl ?_
   refine cV rfl (z7f (kv:=vKey x) rfl rfl rfl rfl Tryz.underlying60 uT3 rfl (z6e _) tZ3 (by trivial)) ?_
   rw [hg1,hg2]
   refine sm 1 rfl <| cV rfl (z0v rfl rfl rfl) <| cV rfl (z0v rfl rfl rfl) <| sm 2 rfl <| nL <| tQ <| tG <| sm 1 rfl <| nL ?_
   refine tC rfl (fun hc22=>?_) fun hc22=>?_
   ·have hval:(aGet x to).getD 0=z0x to x:=y8o hc22
    refine tG <| sm 2 rfl <| nL <| tG <| sm 2 rfl <| cE rfl (bSl rfl rfl uT35 tZ3 tS3 rfl rfl rfl rfl (fbk rfl) rfl) ?_
    refine cE rfl (aPp rfl rfl rfl rfl (by rfl) sI0 uT35 tB3 dC0 (by (simp [z08];done)) (by (simp [z08,PV.one];rfl)) (by simp [maxLen,z08];omega) (by simp [z08];omega)) ?_
    refine sm 1 rfl <| nL ?_
    refine Tr.heap (σ':=look [(104,some (.row ⟨3,1⟩ ((acc++[z0x to x]).map eInt))),(102,some (.box [.mp 3001,.mp 3002,.mp 3003])),(3001,some (.map (kyEs tb.seen))),(3002,some (.map (inEs tb.nums))),(3003,some (.map (inEs to)))]) (by
      rw [List.map_append,<- hval]
      intro j
      try simp only [look]
      by_cases h104:104=j
      · subst h104;rfl
      · by_cases h102:102=j
        · subst h102;rfl
        · by_cases h3001:3001=j
          · subst h3001;rfl
          · by_cases h3002:3002=j
            · subst h3002;rfl
            · by_cases h3003:3003=j
              · subst h3003;rfl
              · simp [tH,look,up,z06 h104,z06 h102,z06 h3001,z06 h3002,z06 h3003]) ?_
    refine tG <| cV rfl (oB rfl rfl (z04 rfl oM0)) <| sm 1 rfl <| nL ?_
    refine ⟨_,_,?_,Sub.of (fr':=[(11,iInt (k+1)),(10,iInt l.length),(9,.pv (ints l)),(4,.sl 104 ((acc++[z0x to x]).map eInt).length),(2,.ptr 102 0)]) ⟨rfl,rfl,rfl,congrArg (fun z=>some (IV.sl _ z)) (by rw [List.map_append];simp [z08]),rfl,trivial⟩,(k+1),(acc++[z0x to x]),?_,?_,rfl,rfl,rfl⟩
    ·omega
    ·omega
    rw [<- hI1,hd,List.append_assoc];rfl
   have hval:x=z0x to x:=(y8n hc22).symm
   refine tSk <| tG <| sm 2 rfl <| cE rfl (bSl rfl rfl uT35 tZ3 tS3 rfl rfl rfl rfl (fbk rfl) rfl) ?_
   refine cE rfl (aPp rfl rfl rfl rfl (by rfl) sI0 uT35 tB3 dC0 (by (simp [z08];done)) (by (simp [z08,PV.one];rfl)) (by simp [maxLen,z08];omega) (by simp [z08];omega)) ?_
   refine sm 1 rfl <| nL ?_
   refine Tr.heap (σ':=look [(104,some (.row ⟨3,1⟩ ((acc++[z0x to x]).map eInt))),(102,some (.box [.mp 3001,.mp 3002,.mp 3003])),(3001,some (.map (kyEs tb.seen))),(3002,some (.map (inEs tb.nums))),(3003,some (.map (inEs to)))]) (by
     rw [List.map_append,<- hval]
     intro j
     try simp only [look]
     by_cases h104:104=j
     · subst h104;rfl
     · by_cases h102:102=j
       · subst h102;rfl
       · by_cases h3001:3001=j
         · subst h3001;rfl
         · by_cases h3002:3002=j
           · subst h3002;rfl
           · by_cases h3003:3003=j
             · subst h3003;rfl
             · simp [tH,look,up,z06 h104,z06 h102,z06 h3001,z06 h3002,z06 h3003]) ?_
   refine tG <| cV rfl (oB rfl rfl (z04 rfl oM0)) <| sm 1 rfl <| nL ?_
   refine ⟨_,_,?_,Sub.of (fr':=[(11,iInt (k+1)),(10,iInt l.length),(9,.pv (ints l)),(4,.sl 104 ((acc++[z0x to x]).map eInt).length),(2,.ptr 102 0)]) ⟨rfl,rfl,rfl,congrArg (fun z=>some (IV.sl _ z)) (by rw [List.map_append];simp [z08]),rfl,trivial⟩,(k+1),(acc++[z0x to x]),?_,?_,rfl,rfl,rfl⟩
   ·omega
   ·omega
   rw [<- hI1,hd,List.append_assoc];rfl
  refine tEx <| tQ <| Tr.freeze (t:=4) (k:=104) rfl rfl sI0 <| tG <| sm 2 rfl <| nL <| tRt <| rOk rfl ?_ (po3 rfl rfl rfl)
  have hge:l.length<=k:=by simpa using hc12
  have he:acc=l.map (z0x to):=by rw [<- hI1,List.drop_eq_nil_of_le hge];simp
  rw [he]
  rfl
theorem y8g (x:Nd) (tb:Tb) (to:TT) (h4:x.kind=4->1<x.args.length):SC Tryz.prog 64 [tV,.pv (ndv x)] (tH tb to) (fun k=>k=3001∨k=3002∨k=3003) (.tup [iInt ((z2d tb.nums x).getD 0),iBool (z2d tb.nums x).isSome]) (tH tb to):=by
  refine SC.of Tryz.func64 rfl (lb rfl) fun F ρ w=>?_
  refine tQ <| tG <| cE rfl (z5e (k:=102) rfl rfl rfl rfl rfl rfl rfl) <| cE rfl (z2m rfl rfl) <| sm 2 rfl <| nL <| tQ <| tQ <| tG <| sm 3 rfl <| nL ?_
  refine tC rfl (fun hc12=>?_) fun hc12=>?_
  ·refine tQ <| tG <| sm 2 rfl <| nL <| tRt <| rOk rfl ?_ (po3 rfl rfl rfl)
   simp_all [z2d,z5a]
  have hk:x.kind=4:=by simpa using hc12
  have hl:=h4 hk
  have hi0:=ze3 (l:=x.args) (i:=0) oM0
  have hi1:=ze3 (l:=x.args) (i:=1) hl
  have hgda:=zq5 (x.args.getD 0 0) tb.nums
  have hg1a:=congrArg Prod.fst hgda
  have hg2a:=congrArg Prod.snd hgda
  dsimp only at hg1a hg2a
  have hgdb:=zq5 (x.args.getD 1 0) tb.nums
  have hg1b:=congrArg Prod.fst hgdb
  have hg2b:=congrArg Prod.snd hgdb
  dsimp only at hg1b hg2b
  refine tSk <| tQ <| tQ <| Tr.still z78 kR0 rfl <| smS 4 rfl <| sV rfl (iSq rfl rfl rfl uT35 hi1 tS3 rfl (by rfl)) <| smS 1 rfl <| sV rfl (z7f (kv:=vKey (x.args.getD 1 0)) rfl rfl rfl rfl Tryz.underlying60 uT3 rfl (z6e _) tZ3 (by trivial)) ?_
  rw [hg1b,hg2b]
  refine smS 1 rfl <| sV rfl (z0v rfl rfl rfl) <| sV rfl (z0v rfl rfl rfl) <| smS 2 rfl <| WS.nil <| tQ <| tG <| sm 2 rfl ?_
  refine wS 24 rfl (fun hb24=>?_) fun hb24=>?_
  ·refine sm 3 rfl <| WL.yes rfl rfl rfl rfl rfl rfl (z1s (zj6 x.op ((aGet (x.args.getD 1 0) tb.nums).getD 0)) ent89 rfl rfl (sRf _ _) rfl) <| sm 1 rfl <| nL ?_
   refine tC rfl (fun hc29=>?_) fun hc29=>?_
   ·refine tQ <| tG <| sm 2 rfl <| cV rfl (iSq rfl rfl rfl uT35 hi0 tS3 rfl (by rfl)) <| sm 3 rfl <| nL <| tRt <| rOk rfl ?_ (po3 rfl rfl rfl)
    simp_all [z2d,z5a]
   refine tSk <| tQ <| tQ <| Tr.still z78 kR0 rfl <| smS 4 rfl <| sV rfl (iSq rfl rfl rfl uT35 hi0 tS3 rfl (by rfl)) <| smS 1 rfl <| sV rfl (z7f (kv:=vKey (x.args.getD 0 0)) rfl rfl rfl rfl Tryz.underlying60 uT3 rfl (z6e _) tZ3 (by trivial)) ?_
   rw [hg1a,hg2a]
   refine smS 1 rfl <| sV rfl (z0v rfl rfl rfl) <| sV rfl (z0v rfl rfl rfl) <| smS 2 rfl <| WS.nil <| tQ <| tG <| sm 2 rfl ?_
   refine wS 45 rfl (fun hb45=>?_) fun hb45=>?_
   ·refine sm 2 rfl <| WL.yes rfl rfl rfl rfl rfl rfl (z1s (zj7 x.op) ent90 rfl rfl (sRf _ _) rfl) <| sm 2 rfl ?_
    refine wS 50 rfl (fun hb50=>?_) fun hb50=>?_
    ·refine sm 3 rfl <| WL.yes rfl rfl rfl rfl rfl rfl (z1s (zj6 x.op ((aGet (x.args.getD 0 0) tb.nums).getD 0)) ent89 rfl rfl (sRf _ _) rfl) <| sm 1 rfl <| nL ?_
     refine tC rfl (fun hc55=>?_) fun hc55=>?_
     ·refine tQ <| tG <| sm 2 rfl <| cV rfl (iSq rfl rfl rfl uT35 hi1 tS3 rfl (by rfl)) <| sm 3 rfl <| nL <| tRt <| rOk rfl ?_ (po3 rfl rfl rfl)
      simp_all [z2d,z5a]
     refine tSk <| tQ <| tG <| sm 2 rfl <| nL <| tRt <| rOk rfl ?_ (po3 rfl rfl rfl)
     simp_all [z2d,z5a]
    refine sm 5 rfl <| nL <| Tr.condF rfl <| tSk <| tQ <| tG <| sm 2 rfl <| nL <| tRt <| rOk rfl ?_ (po3 rfl rfl rfl)
    simp_all [z2d,z5a]
   refine sm 10 rfl <| nL <| Tr.condF rfl <| tSk <| tQ <| tG <| sm 2 rfl <| nL <| tRt <| rOk rfl ?_ (po3 rfl rfl rfl)
   simp_all [z2d,z5a]
  refine sm 5 rfl <| nL <| Tr.condF rfl <| tSk <| tQ <| tQ <| Tr.still z78 kR0 rfl <| smS 4 rfl <| sV rfl (iSq rfl rfl rfl uT35 hi0 tS3 rfl (by rfl)) <| smS 1 rfl <| sV rfl (z7f (kv:=vKey (x.args.getD 0 0)) rfl rfl rfl rfl Tryz.underlying60 uT3 rfl (z6e _) tZ3 (by trivial)) ?_
  rw [hg1a,hg2a]
  refine smS 1 rfl <| sV rfl (z0v rfl rfl rfl) <| sV rfl (z0v rfl rfl rfl) <| smS 2 rfl <| WS.nil <| tQ <| tG <| sm 2 rfl ?_
  refine wS 45 rfl (fun hb45=>?_) fun hb45=>?_
  ·refine sm 2 rfl <| WL.yes rfl rfl rfl rfl rfl rfl (z1s (zj7 x.op) ent90 rfl rfl (sRf _ _) rfl) <| sm 2 rfl ?_
   refine wS 50 rfl (fun hb50=>?_) fun hb50=>?_
   ·refine sm 3 rfl <| WL.yes rfl rfl rfl rfl rfl rfl (z1s (zj6 x.op ((aGet (x.args.getD 0 0) tb.nums).getD 0)) ent89 rfl rfl (sRf _ _) rfl) <| sm 1 rfl <| nL ?_
    refine tC rfl (fun hc55=>?_) fun hc55=>?_
    ·refine tQ <| tG <| sm 2 rfl <| cV rfl (iSq rfl rfl rfl uT35 hi1 tS3 rfl (by rfl)) <| sm 3 rfl <| nL <| tRt <| rOk rfl ?_ (po3 rfl rfl rfl)
     simp_all [z2d,z5a]
    refine tSk <| tQ <| tG <| sm 2 rfl <| nL <| tRt <| rOk rfl ?_ (po3 rfl rfl rfl)
    simp_all [z2d,z5a]
   refine sm 5 rfl <| nL <| Tr.condF rfl <| tSk <| tQ <| tG <| sm 2 rfl <| nL <| tRt <| rOk rfl ?_ (po3 rfl rfl rfl)
   simp_all [z2d,z5a]
  refine sm 10 rfl <| nL <| Tr.condF rfl <| tSk <| tQ <| tG <| sm 2 rfl <| nL <| tRt <| rOk rfl ?_ (po3 rfl rfl rfl)
  simp_all [z2d,z5a]
theorem zf6 (x:Nd) (tb:Tb) (to:TT) (ho:x.outs≠[]) (h3:x.kind=3->0<x.args.length) (h4:x.kind=4->1<x.args.length):SC Tryz.prog 41 [tV,.pv (ndv x)] (tH tb to) (fun _=>False) (iBool (z1w tb to x).1) (tH (z1w tb to x).2.1 (z1w tb to x).2.2):=by
  refine SC.of Tryz.func41 rfl (lb rfl) fun F ρ w=>?_
  obtain ⟨f0,f1,f2,f3,f4,key5⟩:=key5E
  have hi0:(x.outs.map eInt)[0]? = some [vInt (x.outs.headD 0)]:=by
    cases hx:x.outs with
    | nil=>exact absurd hx ho
    | cons a r=>rfl
  refine tQ <| tG <| cE rfl (z5e (k:=102) rfl rfl rfl rfl rfl rfl rfl) <| cE rfl (z2m rfl rfl) <| sm 1 rfl <| nL <| tQ <| tG <| sm 2 rfl <| cV rfl (iSq rfl rfl rfl uT35 hi0 tS3 rfl (by rfl)) <| sm 2 rfl <| nL ?_
  refine tQ <| tQ <| tG <| cV rfl (z15 rfl rfl rfl Tryz.underlying62 rfl tS62 (lb rfl) trivial) <| cV rfl (lEA rfl rfl uT43 rfl tS43 (lb rfl)) <| cE rfl (ocr (y8g x tb to h4) ent64 rfl (po3 rfl rfl rfl) rfl nf rfl rfl) <| sm 1 rfl <| cV rfl (z0v rfl rfl rfl) <| cV rfl (z0v rfl rfl rfl) <| sm 2 rfl <| nL <| tQ ?_
  refine tG <| sm 1 rfl <| nL ?_
  refine tC rfl (fun hc21=>?_) fun hc21=>?_
  ·obtain ⟨y,hy⟩:=Option.isSome_iff_exists.1 hc21
   have hP:z1w tb to x=(false,tb,aPut (x.outs.headD 0) y to):=by simp [z1w,hy]
   have hy2:(z2d tb.nums x).getD 0=y:=by rw [hy];rfl
   refine tQ <| tG <| sm 4 rfl <| c0 (z6y (kv:=vKey (x.outs.headD 0)) rfl rfl rfl rfl rfl ((fun h=>h)) Tryz.underlying60 uT3 rfl (z6e _)) <| nL <| tQ ?_
   refine Tr.heap (σ':=look [(102,some (.box [.mp 3001,.mp 3002,.mp 3003])),(3001,some (.map (kyEs tb.seen))),(3002,some (.map (inEs tb.nums))),(3003,some (.map (inEs (aPut (x.outs.headD 0) y to))))]) (by
     rw [<- zm8,<- hy2]
     intro j
     try simp only [look]
     by_cases h102:102=j
     · subst h102;rfl
     · by_cases h3001:3001=j
       · subst h3001;rfl
       · by_cases h3002:3002=j
         · subst h3002;rfl
         · by_cases h3003:3003=j
           · subst h3003;rfl
           · simp [tH,look,up,z06 h102,z06 h3001,z06 h3002,z06 h3003]) ?_
   refine tG <| sm 1 rfl <| nL <| tRt ?_
   rw [hP]
   refine rOk rfl rfl (po3 rfl rfl rfl)
  have hnp:z2d tb.nums x=none:=by simpa using hc21
  refine tSk <| tQ <| tG <| cV rfl (lEA rfl rfl uT43 rfl tS43 (lb rfl)) <| cE rfl (ocq (sc_stKey x h3 h4) ent65 rfl rfl) <| cE rfl (aLc (k:=108) rfl tZ108 rfl rfl rfl rfl) <| c0 (sBA rfl rfl rfl rfl rfl ((fun h=>h)) z8c (flk rfl) (lb rfl)) <| nL <| tQ <| tQ <| tG <| sm 2 rfl ?_
  refine cV rfl (lBP rfl rfl rfl Tryz.underlying108 rfl z8c (lb rfl) rfl trivial) <| cV rfl (y4n (q:=z2h x) key5 rfl rfl rfl rfl Tryz.underlying59 tZ3 trivial) <| sm 1 rfl <| cV rfl (z0v rfl rfl rfl) <| cV rfl (z0v rfl rfl rfl) <| sm 2 rfl <| nL <| tQ <| tG <| sm 1 rfl <| nL ?_
  refine tC rfl (fun hc35=>?_) fun hc35=>?_
  ·obtain ⟨y,hy⟩:=Option.isSome_iff_exists.1 hc35
   have hP:z1w tb to x=(false,tb,aPut (x.outs.headD 0) y to):=by simp [z1w,hnp,hy]
   have hy2:(aGet (z2h x) tb.seen).getD 0=y:=by rw [hy];rfl
   refine tQ <| tG <| sm 4 rfl <| c0 (z6y (kv:=vKey (x.outs.headD 0)) rfl rfl rfl rfl rfl ((fun h=>h)) Tryz.underlying60 uT3 rfl (z6e _)) <| nL <| tQ <| Tr.drop (k:=108) ?_
   refine Tr.heap (σ':=look [(102,some (.box [.mp 3001,.mp 3002,.mp 3003])),(3001,some (.map (kyEs tb.seen))),(3002,some (.map (inEs tb.nums))),(3003,some (.map (inEs (aPut (x.outs.headD 0) y to))))]) (by
     rw [<- zm8,<- hy2]
     intro j
     try simp only [look]
     by_cases h108:108=j
     · subst h108;rfl
     · by_cases h102:102=j
       · subst h102;rfl
       · by_cases h3001:3001=j
         · subst h3001;rfl
         · by_cases h3002:3002=j
           · subst h3002;rfl
           · by_cases h3003:3003=j
             · subst h3003;rfl
             · simp [tH,look,up,z06 h108,z06 h102,z06 h3001,z06 h3002,z06 h3003]) ?_
   refine tG <| sm 1 rfl <| nL <| tRt ?_
   rw [hP]
   refine rOk rfl rfl (po3 rfl rfl rfl)
  have hnk:aGet (z2h x) tb.seen=none:=by simpa using hc35
  have hP:z1w tb to x=(true,⟨aPut (z2h x) (x.outs.headD 0) tb.seen,if x.kind==1 then aPut (x.outs.headD 0) x.n tb.nums else tb.nums⟩,to):=by simp only [z1w,hnp,hnk]
  refine tSk <| tQ <| tG <| sm 2 rfl <| cV rfl (lBP rfl rfl rfl Tryz.underlying108 rfl z8c (lb rfl) rfl trivial) <| sm 1 rfl <| c0 (y0i (q:=z2h x) (v:=(x.outs.headD 0)) key5 rfl rfl rfl rfl rfl ((fun h=>h)) Tryz.underlying59 hnk) <| nL <| tQ <| tQ <| tG <| sm 3 rfl ?_
  refine nL ?_
  refine tC rfl (fun hc46=>?_) fun hc46=>?_
  ·refine tG <| sm 5 rfl <| c0 (z6y (kv:=vKey (x.outs.headD 0)) rfl rfl rfl rfl rfl ((fun h=>h)) Tryz.underlying60 uT3 rfl (z6e _)) <| nL <| tQ ?_
   have hk1:(x.kind==1)=true:=hc46
   rw [hk1] at hP
   simp only [if_true] at hP
   refine Tr.drop (k:=108) ?_
   refine Tr.heap (σ':=look [(102,some (.box [.mp 3001,.mp 3002,.mp 3003])),(3001,some (.map (kyEs (aPut (z2h x) (x.outs.headD 0) tb.seen)))),(3002,some (.map (inEs (aPut (x.outs.headD 0) x.n tb.nums)))),(3003,some (.map (inEs to)))]) (by
     rw [<- zm8]
     intro j
     try simp only [look]
     by_cases h108:108=j
     · subst h108;rfl
     · by_cases h102:102=j
       · subst h102;rfl
       · by_cases h3001:3001=j
         · subst h3001;rfl
         · by_cases h3002:3002=j
           · subst h3002;rfl
           · by_cases h3003:3003=j
             · subst h3003;rfl
             · simp [tH,look,up,z06 h108,z06 h102,z06 h3001,z06 h3002,z06 h3003]) ?_
   refine tG <| sm 1 rfl <| nL <| tRt ?_
   rw [hP]
   refine rOk rfl rfl (po3 rfl rfl rfl)
  refine tSk <| tQ ?_
  have hk1:(x.kind==1)=false:=hc46
  rw [hk1] at hP
  simp only [Bool.false_eq_true,if_false] at hP
  refine Tr.drop (k:=108) ?_
  refine Tr.heap (σ':=look [(102,some (.box [.mp 3001,.mp 3002,.mp 3003])),(3001,some (.map (kyEs (aPut (z2h x) (x.outs.headD 0) tb.seen)))),(3002,some (.map (inEs tb.nums))),(3003,some (.map (inEs to)))]) (by
    skip
    intro j
    try simp only [look]
    by_cases h108:108=j
    · subst h108;rfl
    · by_cases h102:102=j
      · subst h102;rfl
      · by_cases h3001:3001=j
        · subst h3001;rfl
        · by_cases h3002:3002=j
          · subst h3002;rfl
          · by_cases h3003:3003=j
            · subst h3003;rfl
            · simp [tH,look,up,z06 h108,z06 h102,z06 h3001,z06 h3002,z06 h3003]) ?_
  refine tG <| sm 1 rfl <| nL <| tRt ?_
  rw [hP]
  refine rOk rfl rfl (po3 rfl rfl rfl)
theorem sc_stKid (tb:Tb) (to:TT):SC Tryz.prog 40 [tV] (tH tb to) (fun k=>k=3001∨k=3002∨k=3003) (.agg [.mp 3101,.mp 3102,.mp 3003]) ([(3101,.map (kyEs tb.seen)),(3102,.map (inEs tb.nums))]++tH tb to):=by
  refine SC.ofC Tryz.func40 rfl (lb rfl) rfl fun F ρ w=>?_
  refine tQ <| tG <| cE rfl (z5e (k:=101) rfl rfl rfl rfl rfl rfl rfl) <| cE rfl (aLc (k:=102) rfl tZ62 rfl rfl rfl rfl) <| nL <| tQ <| tDr z78 (fun k=>k∈([3001,3002,3003,101]:List Nat)) <| wR 4 [0,1,3,4,6,7] kR0 h30 <| smR 1 rfl <| rV rfl rfl (oLb Tryz.underlying59 rfl rfl rfl dC0) <| smR 1 rfl <| rV rfl rfl (oLb Tryz.underlying60 rfl rfl rfl dC0) ?_
  refine smR 1 rfl <| rV rfl rfl (oLb Tryz.underlying60 rfl rfl rfl dC0) <| nR <| wO 2 kR0 <| wI rfl rfl (fun k (h:_)=>by (simp at h ⊢;omega)) (zi4 rfl) (fun _ _=>y6m (k2:=3101) y1k ent62 rfl rfl rfl rfl rfl rfl rfl) <| wO 5 kR0 <| wI rfl rfl (fun k (h:_)=>by (simp at h ⊢;omega)) (zi4 rfl) (fun _ _=>y6m (k2:=3102) y1j ent63 rfl rfl rfl rfl rfl rfl rfl) <| wR 1 [8] kR0 h30 <| rV rfl rfl (z9m rfl rfl tZ62 tP62 rfl (z8s ⟨⟨_,rfl⟩,⟨_,rfl⟩,⟨_,rfl⟩,trivial⟩)) <| nR <| wO 9 kR0 <| wI rfl rfl (fun k (h:_)=>by (simp at h ⊢;omega)) (nOl rfl) (fun _ _=>sBA rfl rfl rfl rfl rfl sI0 tS62 (firm3 ⟨_,rfl⟩ ⟨_,rfl⟩ ⟨_,rfl⟩) (lb rfl)) ?_
  refine wDn kR0 <| tRt <| rCk (.inl rfl) (fun _ _ ho=>z15 ho rfl rfl Tryz.underlying62 rfl tS62 (lb rfl) trivial) ?_ (z2p (And.intro rfl (And.intro rfl (And.intro rfl (And.intro rfl (And.intro rfl trivial))))))
  rfl
theorem y0w (N:Nat):∀ (l:List Nd) (tb:Tb) (to:TT) (hok:zk3 l=true) (hb:lsW l<=1073741824),SizeOf.sizeOf l<N->SC Tryz.prog 23 [tV,.pv (z0o l)] (tH tb to) (fun _=>False) (.pv (z0o (z0e tb to l).1)) (tH (z0e tb to l).2.1 (z0e tb to l).2.2):=by
  induction N with
  | zero=>intro l tb to hok hb hN;exact absurd hN (Nat.not_lt_zero _)
  | succ N ih =>
    intro l tb to hok hb hN
    refine SC.of Tryz.func23 rfl (lb rfl) fun F ρ w=>?_
    refine Tr.lenOf (t:=1) rfl (fun hl=>?_)
    simp only [List.length_map] at hl
    refine tQ <| tG <| cE rfl (z5e (k:=102) rfl rfl rfl rfl rfl rfl rfl) <| sm 1 rfl <| nL <| tQ <| tQ <| Tr.grow (t:=4) (k:=104) ⟨43,8⟩ rfl rfl rfl rfl rfl <| tG <| sm 1 rfl <| cV rfl (oSm uT44 rfl) <| sm 1 rfl ?_
    refine nL <| tBk <| Tr.sub (Sub.of (fr':=[(12,iInt 0),(11,iInt l.length),(10,.pv (z0o l)),(4,.sl 104 (([]:List Nd).map Nd.enc).length),(2,.ptr 102 0)]) ⟨rfl,rfl,rfl,rfl,rfl,trivial⟩) ?_
    refine Tr.loop (fun fr σ m=>∃ (k:Nat) (out:List Nd) (tb2:Tb) (to2:TT),(k<=l.length)/\((out++(z0e tb2 to2 (l.drop k)).1,(z0e tb2 to2 (l.drop k)).2)=z0e tb to l)/\fr=[(12,iInt k),(11,iInt l.length),(10,.pv (z0o l)),(4,.sl 104 (out.map Nd.enc).length),(2,.ptr 102 0)] /\ σ = look [(104,some (.row ⟨43,8⟩ (out.map Nd.enc))),(102,some (.box [.mp 3001,.mp 3002,.mp 3003])),(3001,some (.map (kyEs tb2.seen))),(3002,some (.map (inEs tb2.nums))),(3003,some (.map (inEs to2)))]/\m=l.length - k) (n:=l.length - 0) ?_ ?_
    ·exact ⟨0,([]:List Nd),tb,to,Nat.zero_le _,rfl,rfl,rfl,rfl⟩
    ·rintro fr σ m ⟨k,out,tb2,to2,hI0,hI1,rfl,rfl,rfl⟩
     refine tQ <| tG <| sm 1 rfl <| nL <| tQ ?_
     refine tC rfl (fun hc13=>?_) fun hc13=>?_
     ·have hlt:k<l.length:=by simpa using hc13
      have hd:=List.drop_eq_getElem_cons hlt
      have hm:=List.getElem_mem hlt
      have hi:=z0k (List.getElem?_eq_getElem hlt)
      generalize l[k]=x at hd hm hi
      have hxok:=y3c hok hm
      rw [z9w] at hxok
      simp only [Bool.and_eq_true] at hxok
      have hlen1:=z9v l tb to
      have hlen2:=ls_len l
      have hol:out.length+(z02 tb2 to2 x).1.length<=1073741824:=by
        have:=congrArg (fun p=>p.1.length) hI1
        rw [hd] at this
        simp only [z0e,List.length_append] at this
        omega
      have hWx:=z92 x
      have hWl:=y4f hm
      have hkl:x.kids.length<=1073741824:=by
        have:=yc3 x.kids;omega
      have hml:(out.map Nd.enc).length=out.length:=by simp
      refine tSk <| tQ <| tBk <| tQ <| tG <| cV rfl (iSq rfl rfl rfl uT44 hi tS43 rfl (by rfl)) <| cV rfl (lEA rfl rfl uT43 rfl tS43 (lb rfl)) <| cE rfl (aLc (k:=106) rfl tZ43 rfl rfl rfl rfl) <| c0 (sBA rfl rfl rfl rfl rfl ((fun h=>h)) tS43 (flk rfl) (lb rfl)) <| nL <| tQ <| tG ?_
      refine cV rfl (z15 rfl rfl rfl Tryz.underlying62 rfl tS62 (lb rfl) trivial) <| sm 2 rfl <| cE rfl (ocr (yi3 x.args tb2 to2 oM0) ent39 rfl (po3 rfl rfl rfl) rfl nf rfl rfl) <| sm 1 rfl <| c0 (sBx rfl rfl rfl rfl ((fun h=>h)) tS35 (rfl) (lb rfl)) <| nL <| tQ <| tG <| sm 1 rfl <| nL <| tQ <| tQ ?_
      refine Tr.grow (t:=7) (k:=107) ⟨44,1⟩ rfl rfl rfl rfl rfl <| tG <| sm 2 rfl <| cV rfl (oSm uT41 rfl) <| sm 1 rfl <| nL <| tBk <| Tr.sub (Sub.of (fr':=[(24,iInt 0),(23,iInt x.kids.length),(22,.pv (kids x.kids)),(7,.sl 107 (([]:List (List Nd)).map eKid).length),(6,.ptr 106 0),(4,.sl 104 (out.map Nd.enc).length),(2,.ptr 102 0),(12,iInt k),(11,iInt l.length),(10,.pv (z0o l))]) ⟨rfl,rfl,rfl,rfl,rfl,rfl,rfl,rfl,rfl,rfl,trivial⟩) ?_
      refine Tr.heap (σ':=look [(107,some (.row ⟨44,1⟩ (([]:List (List Nd)).map eKid))),(106,some (.box [iInt x.kind,iInt x.op,iInt x.n,iStr x.name,.pv (ints (x.args.map (z0x to2))),.pv (ints x.outs),.pv (ints x.params),.pv (kids x.kids)])),(104,some (.row ⟨43,8⟩ (out.map Nd.enc))),(102,some (.box [.mp 3001,.mp 3002,.mp 3003])),(3001,some (.map (kyEs tb2.seen))),(3002,some (.map (inEs tb2.nums))),(3003,some (.map (inEs to2)))]) (by
  intro j
  try simp only [look]
  by_cases h107:107=j
  · subst h107;rfl
  · by_cases h106:106=j
    · subst h106;rfl
    · by_cases h104:104=j
      · subst h104;rfl
      · by_cases h102:102=j
        · subst h102;rfl
        · by_cases h3001:3001=j
          · subst h3001;rfl
          · by_cases h3002:3002=j
            · subst h3002;rfl
            · by_cases h3003:3003=j
              · subst h3003;rfl
              · simp [tH,look,up,z06 h107,z06 h106,z06 h104,z06 h102,z06 h3001,z06 h3002,z06 h3003]) ?_
      refine Tr.loop (fun fr σ m=>∃ (i:Nat) (acc:List (List Nd)) (to3:TT),(i<=x.kids.length)/\((acc++(z0g tb2 to3 (x.kids.drop i)).1,(z0g tb2 to3 (x.kids.drop i)).2)=z0g tb2 to2 x.kids)/\(acc.length=i)/\fr=[(24,iInt i),(23,iInt x.kids.length),(22,.pv (kids x.kids)),(7,.sl 107 (acc.map eKid).length),(6,.ptr 106 0),(4,.sl 104 (out.map Nd.enc).length),(2,.ptr 102 0),(12,iInt k),(11,iInt l.length),(10,.pv (z0o l))] /\ σ = look [(107,some (.row ⟨44,1⟩ (acc.map eKid))),(106,some (.box [iInt x.kind,iInt x.op,iInt x.n,iStr x.name,.pv (ints (x.args.map (z0x to2))),.pv (ints x.outs),.pv (ints x.params),.pv (kids x.kids)])),(104,some (.row ⟨43,8⟩ (out.map Nd.enc))),(102,some (.box [.mp 3001,.mp 3002,.mp 3003])),(3001,some (.map (kyEs tb2.seen))),(3002,some (.map (inEs tb2.nums))),(3003,some (.map (inEs to3)))]/\m=x.kids.length - i) (n:=x.kids.length - 0) ?_ ?_
      ·exact ⟨0,([]:List (List Nd)),to2,Nat.zero_le _,rfl,rfl,rfl,rfl,rfl⟩
      rintro fr σ m ⟨i,acc,to3,hJ0,hJ1,hJ2,rfl,rfl,rfl⟩
      refine tQ <| tG <| sm 1 rfl <| nL <| tQ ?_
      refine tC rfl (fun hc25=>?_) fun hc25=>?_
      ·have hlt2:i<x.kids.length:=by simpa using hc25
       have hd2:=List.drop_eq_getElem_cons hlt2
       have hm2:=List.getElem_mem hlt2
       have hi2:=z0a (f:=eKid) (List.getElem?_eq_getElem hlt2)
       generalize x.kids[i]=q at hd2 hm2 hi2
       have hdec:SizeOf.sizeOf q<N:=Nat.lt_of_lt_of_le (z8g hm rfl hm2) (Nat.le_of_lt_succ hN)
       have hqok:=y3b hxok.2 hm2
       have hqb:lsW q<=1073741824:=by have:=z8x hm2;omega
       have hal:(acc.map eKid).length=acc.length:=by simp
       have hsw:SC Tryz.prog 23 [.agg [.mp 3101,.mp 3102,.mp 3003],.pv (z0o q)] [(3101,.map (kyEs tb2.seen)),(3102,.map (inEs tb2.nums)),(3003,.map (inEs to3))] (fun _=>False) (.pv (z0o (z0e tb2 to3 q).1)) [(3101,.map (kyEs (z0e tb2 to3 q).2.1.seen)),(3102,.map (inEs (z0e tb2 to3 q).2.1.nums)),(3003,.map (inEs (z0e tb2 to3 q).2.2))]:=SC.sw 3001 3101 (SC.sw 3002 3102 (ih q tb2 to3 hqok hqb hdec))
       refine tSk <| tQ <| tBk <| tQ <| tG <| cV rfl (iSq rfl rfl rfl uT41 hi2 tS44 rfl (by rfl)) <| sm 2 rfl <| nL <| tG <| sm 1 rfl <| cV rfl (z15 rfl rfl rfl Tryz.underlying62 rfl tS62 (lb rfl) trivial) <| cE rfl (y2g (ns:=[3101,3102]) (sc_stKid tb2 to3) ent40 rfl rfl (sRf _ _) (po3 rfl rfl rfl) rfl (mem2 rfl rfl) (mem2 rfl rfl) (mem2 rfl rfl) (mem2 rfl rfl) (fun k (h:_)=>(show False from h).elim) rfl (by rfl)) ?_
       refine sm 1 rfl <| cE rfl (ocr (hsw) ent23 rfl (po3 rfl rfl rfl) rfl (fun k (h:_)=>.inr h) rfl rfl) <| cE rfl (bSl rfl rfl uT41 tZ44 tS44 rfl rfl rfl rfl (fbk rfl) rfl) ?_
       refine cE rfl (aPp rfl rfl rfl rfl (by rfl) ((fun h=>h)) uT41 tB44 dC0 (by (simp [z08];done)) (by (simp [z08,PV.one];rfl)) (by simp [maxLen,z08];omega) (by simp [z08];omega)) ?_
       refine sm 1 rfl <| nL <| Tr.drop (k:=3101) <| Tr.drop (k:=3102) ?_
       refine Tr.heap (σ':=look [(107,some (.row ⟨44,1⟩ ((acc++[(z0e tb2 to3 q).1]).map eKid))),(106,some (.box [iInt x.kind,iInt x.op,iInt x.n,iStr x.name,.pv (ints (x.args.map (z0x to2))),.pv (ints x.outs),.pv (ints x.params),.pv (kids x.kids)])),(104,some (.row ⟨43,8⟩ (out.map Nd.enc))),(102,some (.box [.mp 3001,.mp 3002,.mp 3003])),(3001,some (.map (kyEs tb2.seen))),(3002,some (.map (inEs tb2.nums))),(3003,some (.map (inEs (z0e tb2 to3 q).2.2)))]) (by
         rw [List.map_append]
         intro j
         try simp only [look]
         by_cases h3102:3102=j
         · subst h3102;rfl
         · by_cases h3101:3101=j
           · subst h3101;rfl
           · by_cases h107:107=j
             · subst h107;rfl
             · by_cases h106:106=j
               · subst h106;rfl
               · by_cases h104:104=j
                 · subst h104;rfl
                 · by_cases h102:102=j
                   · subst h102;rfl
                   · by_cases h3001:3001=j
                     · subst h3001;rfl
                     · by_cases h3002:3002=j
                       · subst h3002;rfl
                       · by_cases h3003:3003=j
                         · subst h3003;rfl
                         · simp [tH,look,up,z06 h3102,z06 h3101,z06 h107,z06 h106,z06 h104,z06 h102,z06 h3001,z06 h3002,z06 h3003]) ?_
       refine tG <| cV rfl (oB rfl rfl (z04 rfl oM0)) <| sm 1 rfl <| nL ?_
       refine ⟨_,_,?_,Sub.of (fr':=[(24,iInt (i+1)),(23,iInt x.kids.length),(22,.pv (kids x.kids)),(7,.sl 107 ((acc++[(z0e tb2 to3 q).1]).map eKid).length),(6,.ptr 106 0),(4,.sl 104 (out.map Nd.enc).length),(2,.ptr 102 0),(12,iInt k),(11,iInt l.length),(10,.pv (z0o l))]) ⟨rfl,rfl,rfl,congrArg (fun z=>some (IV.sl _ z)) (by rw [List.map_append];simp [z08]),rfl,rfl,rfl,rfl,rfl,rfl,trivial⟩,(i+1),(acc++[(z0e tb2 to3 q).1]),(z0e tb2 to3 q).2.2,?_,?_,?_,rfl,rfl,rfl⟩
       ·omega
       ·omega
       ·rw [<- hJ1,hd2]
        simp only [z0g,List.append_assoc,List.singleton_append]
       simp [hJ2]
      refine tEx <| tQ ?_
      have hks:(acc,to3)=z0g tb2 to2 x.kids:=by
        have:=hJ1
        rw [List.drop_eq_nil_of_le (by simpa using hc25)] at this
        simpa [z0g] using this
      have hks1:acc=(z0g tb2 to2 x.kids).1:=congrArg Prod.fst hks
      have hks2:to3=(z0g tb2 to2 x.kids).2:=congrArg Prod.snd hks
      clear hks hJ1
      subst hks1
      subst hks2
      refine tG <| sm 2 rfl <| c0 (sBx rfl rfl rfl rfl ((fun h=>h)) tS41 (⟨_,_,rfl,rfl⟩) (lb rfl)) <| nL <| tQ <| tQ <| Tr.freezeCell (k:=107) (k2:=106) (j:=7) rfl (by rfl) rfl rfl dC0 ?_
      refine Tr.heap (σ':=look [(106,some (.box [iInt x.kind,iInt x.op,iInt x.n,iStr x.name,.pv (ints (x.args.map (z0x to2))),.pv (ints x.outs),.pv (ints x.params),.pv (kids (z0g tb2 to2 x.kids).1)])),(104,some (.row ⟨43,8⟩ (out.map Nd.enc))),(102,some (.box [.mp 3001,.mp 3002,.mp 3003])),(3001,some (.map (kyEs tb2.seen))),(3002,some (.map (inEs tb2.nums))),(3003,some (.map (inEs (z0g tb2 to2 x.kids).2)))]) (by
        skip
        intro j
        try simp only [look]
        by_cases h107:107=j
        · subst h107;rfl
        · by_cases h106:106=j
          · subst h106;rfl
          · by_cases h104:104=j
            · subst h104;rfl
            · by_cases h102:102=j
              · subst h102;rfl
              · by_cases h3001:3001=j
                · subst h3001;rfl
                · by_cases h3002:3002=j
                  · subst h3002;rfl
                  · by_cases h3003:3003=j
                    · subst h3003;rfl
                    · simp [tH,look,up,z06 h107,z06 h106,z06 h104,z06 h102,z06 h3001,z06 h3002,z06 h3003]) ?_
      refine tG <| sm 2 rfl <| nL <| tBk <| tQ <| tQ <| tG <| sm 2 rfl <| nL ?_
      refine tC rfl (fun hc40=>?_) fun hc40=>?_
      ·have hK:stK x.kind=true:=by simp only [stK,hc40,Bool.or_true,Bool.true_or]
       have hno:(z0j tb2 to2 x).outs≠[]:=by
         have h1:=hxok.1.1.1
         rw [hK] at h1
         intro e
         rw [show x.outs=[] from e] at h1
         cases h1
       have hn3':(z0j tb2 to2 x).kind=3->0<(z0j tb2 to2 x).args.length:=fun e=>by
         have h1:=hxok.1.1.2
         rw [show x.kind=3 from e] at h1
         simp only [bne_self_eq_false,Bool.false_or,decide_eq_true_eq] at h1
         have h2:(z0j tb2 to2 x).args.length=x.args.length:=List.length_map _
         omega
       have hn4':(z0j tb2 to2 x).kind=4->1<(z0j tb2 to2 x).args.length:=fun e=>by
         have h1:=hxok.1.2
         rw [show x.kind=4 from e] at h1
         simp only [bne_self_eq_false,Bool.false_or,decide_eq_true_eq] at h1
         have h2:(z0j tb2 to2 x).args.length=x.args.length:=List.length_map _
         omega
       have hN:z02 tb2 to2 x=(if (z1w tb2 (z0g tb2 to2 x.kids).2 (z0j tb2 to2 x)).1 then [z0j tb2 to2 x] else [],(z1w tb2 (z0g tb2 to2 x.kids).2 (z0j tb2 to2 x)).2):=by rw [z4w,hK];rfl
       refine tSk ?_
       refine tC rfl (fun hd40=>?_) fun hd40=>?_
       ·refine tQ <| tG <| cV rfl (z15 rfl rfl rfl Tryz.underlying62 rfl tS62 (lb rfl) trivial) <| cV rfl (lBP rfl rfl rfl uT43 rfl tS43 (lb rfl) rfl trivial) <| cE rfl (ocr (zf6 (z0j tb2 to2 x) tb2 (z0g tb2 to2 x.kids).2 hno hn3' hn4') ent41 rfl (po3 rfl rfl rfl) rfl (fun k (h:_)=>.inr h) rfl rfl) <| sm 1 rfl <| nL ?_
        refine tC rfl (fun hc48=>?_) fun hc48=>?_
        ·have hPf:(z1w tb2 (z0g tb2 to2 x.kids).2 (z0j tb2 to2 x)).1=false:=by simpa using hc48
         have hN1:(z02 tb2 to2 x).1=[]:=by rw [hN,hPf];rfl
         refine tEx ?_
         have hNq:(z02 tb2 to2 x).2=(z02 tb2 to2 x).2:=rfl
         refine Tr.drop (k:=106) ?_
         refine Tr.heap (σ':=look [(104,some (.row ⟨43,8⟩ ((out++(z02 tb2 to2 x).1).map Nd.enc))),(102,some (.box [.mp 3001,.mp 3002,.mp 3003])),(3001,some (.map (kyEs (z02 tb2 to2 x).2.1.seen))),(3002,some (.map (inEs (z02 tb2 to2 x).2.1.nums))),(3003,some (.map (inEs (z02 tb2 to2 x).2.2)))]) (by
           rw [hN1,List.append_nil,hN]
           intro j
           try simp only [look]
           by_cases h106:106=j
           · subst h106;rfl
           · by_cases h104:104=j
             · subst h104;rfl
             · by_cases h102:102=j
               · subst h102;rfl
               · by_cases h3001:3001=j
                 · subst h3001;rfl
                 · by_cases h3002:3002=j
                   · subst h3002;rfl
                   · by_cases h3003:3003=j
                     · subst h3003;rfl
                     · simp [tH,look,up,z06 h106,z06 h104,z06 h102,z06 h3001,z06 h3002,z06 h3003]) ?_
         refine tG <| cV rfl (oB rfl rfl (z04 rfl oM0)) <| sm 1 rfl <| nL ?_
         refine ⟨_,_,?_,Sub.of (fr':=[(12,iInt (k+1)),(11,iInt l.length),(10,.pv (z0o l)),(4,.sl 104 ((out++(z02 tb2 to2 x).1).map Nd.enc).length),(2,.ptr 102 0)]) ⟨rfl,rfl,rfl,congrArg (fun z=>some (IV.sl _ z)) (by rw [hN1];simp [z08]),rfl,trivial⟩,(k+1),(out++(z02 tb2 to2 x).1),(z02 tb2 to2 x).2.1,(z02 tb2 to2 x).2.2,?_,?_,rfl,rfl,rfl⟩
         ·omega
         ·omega
         rw [<- hI1,hd]
         simp only [z0e,List.append_assoc]
        have hPt:(z1w tb2 (z0g tb2 to2 x.kids).2 (z0j tb2 to2 x)).1=true:=by simpa using hc48
        have hN1:(z02 tb2 to2 x).1=[z0j tb2 to2 x]:=by rw [hN,hPt];rfl
        have hol2:out.length+1<=1073741824:=by rw [hN1] at hol;exact hol
        refine tSk <| tG <| sm 1 rfl <| cV rfl (lBP rfl rfl rfl uT43 rfl tS43 (lb rfl) rfl trivial) <| cE rfl (bSl rfl rfl uT44 tZ43 tS43 rfl rfl rfl rfl (fbk rfl) rfl) ?_
        refine cE rfl (aPp rfl rfl rfl rfl (by rfl) ((fun h=>h)) uT44 tB43 dC0 (by (simp [z08];done)) (z6d _ _ _ _ _ _ _ _) (by simp [maxLen,z08];omega) (by simp [z08];omega)) ?_
        refine sm 1 rfl <| nL ?_
        have hNq:(z02 tb2 to2 x).2=(z02 tb2 to2 x).2:=rfl
        refine Tr.drop (k:=106) ?_
        refine Tr.heap (σ':=look [(104,some (.row ⟨43,8⟩ ((out++(z02 tb2 to2 x).1).map Nd.enc))),(102,some (.box [.mp 3001,.mp 3002,.mp 3003])),(3001,some (.map (kyEs (z02 tb2 to2 x).2.1.seen))),(3002,some (.map (inEs (z02 tb2 to2 x).2.1.nums))),(3003,some (.map (inEs (z02 tb2 to2 x).2.2)))]) (by
          rw [hN1,zd7,hN]
          intro j
          try simp only [look]
          by_cases h106:106=j
          · subst h106;rfl
          · by_cases h104:104=j
            · subst h104;rfl
            · by_cases h102:102=j
              · subst h102;rfl
              · by_cases h3001:3001=j
                · subst h3001;rfl
                · by_cases h3002:3002=j
                  · subst h3002;rfl
                  · by_cases h3003:3003=j
                    · subst h3003;rfl
                    · simp [tH,look,up,z06 h106,z06 h104,z06 h102,z06 h3001,z06 h3002,z06 h3003]) ?_
        refine tG <| cV rfl (oB rfl rfl (z04 rfl oM0)) <| sm 1 rfl <| nL ?_
        refine ⟨_,_,?_,Sub.of (fr':=[(12,iInt (k+1)),(11,iInt l.length),(10,.pv (z0o l)),(4,.sl 104 ((out++(z02 tb2 to2 x).1).map Nd.enc).length),(2,.ptr 102 0)]) ⟨rfl,rfl,rfl,congrArg (fun z=>some (IV.sl _ z)) (by rw [hN1];simp [z08]),rfl,trivial⟩,(k+1),(out++(z02 tb2 to2 x).1),(z02 tb2 to2 x).2.1,(z02 tb2 to2 x).2.2,?_,?_,rfl,rfl,rfl⟩
        ·omega
        ·omega
        rw [<- hI1,hd]
        simp only [z0e,List.append_assoc]
       exact absurd (hc40.symm.trans hd40) dC0
      refine tQ ?_
      have hn1:(x.kind==1)=false:=hc40
      refine tG <| sm 2 rfl <| nL ?_
      refine tC rfl (fun hc40=>?_) fun hc40=>?_
      ·have hK:stK x.kind=true:=by simp only [stK,hc40,Bool.or_true,Bool.true_or]
       have hno:(z0j tb2 to2 x).outs≠[]:=by
         have h1:=hxok.1.1.1
         rw [hK] at h1
         intro e
         rw [show x.outs=[] from e] at h1
         cases h1
       have hn3':(z0j tb2 to2 x).kind=3->0<(z0j tb2 to2 x).args.length:=fun e=>by
         have h1:=hxok.1.1.2
         rw [show x.kind=3 from e] at h1
         simp only [bne_self_eq_false,Bool.false_or,decide_eq_true_eq] at h1
         have h2:(z0j tb2 to2 x).args.length=x.args.length:=List.length_map _
         omega
       have hn4':(z0j tb2 to2 x).kind=4->1<(z0j tb2 to2 x).args.length:=fun e=>by
         have h1:=hxok.1.2
         rw [show x.kind=4 from e] at h1
         simp only [bne_self_eq_false,Bool.false_or,decide_eq_true_eq] at h1
         have h2:(z0j tb2 to2 x).args.length=x.args.length:=List.length_map _
         omega
       have hN:z02 tb2 to2 x=(if (z1w tb2 (z0g tb2 to2 x.kids).2 (z0j tb2 to2 x)).1 then [z0j tb2 to2 x] else [],(z1w tb2 (z0g tb2 to2 x.kids).2 (z0j tb2 to2 x)).2):=by rw [z4w,hK];rfl
       refine tSk ?_
       refine tC rfl (fun hd40=>?_) fun hd40=>?_
       ·refine tQ <| tG <| cV rfl (z15 rfl rfl rfl Tryz.underlying62 rfl tS62 (lb rfl) trivial) <| cV rfl (lBP rfl rfl rfl uT43 rfl tS43 (lb rfl) rfl trivial) <| cE rfl (ocr (zf6 (z0j tb2 to2 x) tb2 (z0g tb2 to2 x.kids).2 hno hn3' hn4') ent41 rfl (po3 rfl rfl rfl) rfl (fun k (h:_)=>.inr h) rfl rfl) <| sm 1 rfl <| nL ?_
        refine tC rfl (fun hc48=>?_) fun hc48=>?_
        ·have hPf:(z1w tb2 (z0g tb2 to2 x.kids).2 (z0j tb2 to2 x)).1=false:=by simpa using hc48
         have hN1:(z02 tb2 to2 x).1=[]:=by rw [hN,hPf];rfl
         refine tEx ?_
         have hNq:(z02 tb2 to2 x).2=(z02 tb2 to2 x).2:=rfl
         refine Tr.drop (k:=106) ?_
         refine Tr.heap (σ':=look [(104,some (.row ⟨43,8⟩ ((out++(z02 tb2 to2 x).1).map Nd.enc))),(102,some (.box [.mp 3001,.mp 3002,.mp 3003])),(3001,some (.map (kyEs (z02 tb2 to2 x).2.1.seen))),(3002,some (.map (inEs (z02 tb2 to2 x).2.1.nums))),(3003,some (.map (inEs (z02 tb2 to2 x).2.2)))]) (by
           rw [hN1,List.append_nil,hN]
           intro j
           try simp only [look]
           by_cases h106:106=j
           · subst h106;rfl
           · by_cases h104:104=j
             · subst h104;rfl
             · by_cases h102:102=j
               · subst h102;rfl
               · by_cases h3001:3001=j
                 · subst h3001;rfl
                 · by_cases h3002:3002=j
                   · subst h3002;rfl
                   · by_cases h3003:3003=j
                     · subst h3003;rfl
                     · simp [tH,look,up,z06 h106,z06 h104,z06 h102,z06 h3001,z06 h3002,z06 h3003]) ?_
         refine tG <| cV rfl (oB rfl rfl (z04 rfl oM0)) <| sm 1 rfl <| nL ?_
         refine ⟨_,_,?_,Sub.of (fr':=[(12,iInt (k+1)),(11,iInt l.length),(10,.pv (z0o l)),(4,.sl 104 ((out++(z02 tb2 to2 x).1).map Nd.enc).length),(2,.ptr 102 0)]) ⟨rfl,rfl,rfl,congrArg (fun z=>some (IV.sl _ z)) (by rw [hN1];simp [z08]),rfl,trivial⟩,(k+1),(out++(z02 tb2 to2 x).1),(z02 tb2 to2 x).2.1,(z02 tb2 to2 x).2.2,?_,?_,rfl,rfl,rfl⟩
         ·omega
         ·omega
         rw [<- hI1,hd]
         simp only [z0e,List.append_assoc]
        have hPt:(z1w tb2 (z0g tb2 to2 x.kids).2 (z0j tb2 to2 x)).1=true:=by simpa using hc48
        have hN1:(z02 tb2 to2 x).1=[z0j tb2 to2 x]:=by rw [hN,hPt];rfl
        have hol2:out.length+1<=1073741824:=by rw [hN1] at hol;exact hol
        refine tSk <| tG <| sm 1 rfl <| cV rfl (lBP rfl rfl rfl uT43 rfl tS43 (lb rfl) rfl trivial) <| cE rfl (bSl rfl rfl uT44 tZ43 tS43 rfl rfl rfl rfl (fbk rfl) rfl) ?_
        refine cE rfl (aPp rfl rfl rfl rfl (by rfl) ((fun h=>h)) uT44 tB43 dC0 (by (simp [z08];done)) (z6d _ _ _ _ _ _ _ _) (by simp [maxLen,z08];omega) (by simp [z08];omega)) ?_
        refine sm 1 rfl <| nL ?_
        have hNq:(z02 tb2 to2 x).2=(z02 tb2 to2 x).2:=rfl
        refine Tr.drop (k:=106) ?_
        refine Tr.heap (σ':=look [(104,some (.row ⟨43,8⟩ ((out++(z02 tb2 to2 x).1).map Nd.enc))),(102,some (.box [.mp 3001,.mp 3002,.mp 3003])),(3001,some (.map (kyEs (z02 tb2 to2 x).2.1.seen))),(3002,some (.map (inEs (z02 tb2 to2 x).2.1.nums))),(3003,some (.map (inEs (z02 tb2 to2 x).2.2)))]) (by
          rw [hN1,zd7,hN]
          intro j
          try simp only [look]
          by_cases h106:106=j
          · subst h106;rfl
          · by_cases h104:104=j
            · subst h104;rfl
            · by_cases h102:102=j
              · subst h102;rfl
              · by_cases h3001:3001=j
                · subst h3001;rfl
                · by_cases h3002:3002=j
                  · subst h3002;rfl
                  · by_cases h3003:3003=j
                    · subst h3003;rfl
                    · simp [tH,look,up,z06 h106,z06 h104,z06 h102,z06 h3001,z06 h3002,z06 h3003]) ?_
        refine tG <| cV rfl (oB rfl rfl (z04 rfl oM0)) <| sm 1 rfl <| nL ?_
        refine ⟨_,_,?_,Sub.of (fr':=[(12,iInt (k+1)),(11,iInt l.length),(10,.pv (z0o l)),(4,.sl 104 ((out++(z02 tb2 to2 x).1).map Nd.enc).length),(2,.ptr 102 0)]) ⟨rfl,rfl,rfl,congrArg (fun z=>some (IV.sl _ z)) (by rw [hN1];simp [z08]),rfl,trivial⟩,(k+1),(out++(z02 tb2 to2 x).1),(z02 tb2 to2 x).2.1,(z02 tb2 to2 x).2.2,?_,?_,rfl,rfl,rfl⟩
        ·omega
        ·omega
        rw [<- hI1,hd]
        simp only [z0e,List.append_assoc]
       exact absurd (hc40.symm.trans hd40) dC0
      refine tQ ?_
      have hn2:(x.kind==2)=false:=hc40
      refine tG <| sm 2 rfl <| nL ?_
      refine tC rfl (fun hc40=>?_) fun hc40=>?_
      ·have hK:stK x.kind=true:=by simp only [stK,hc40,Bool.or_true,Bool.true_or]
       have hno:(z0j tb2 to2 x).outs≠[]:=by
         have h1:=hxok.1.1.1
         rw [hK] at h1
         intro e
         rw [show x.outs=[] from e] at h1
         cases h1
       have hn3':(z0j tb2 to2 x).kind=3->0<(z0j tb2 to2 x).args.length:=fun e=>by
         have h1:=hxok.1.1.2
         rw [show x.kind=3 from e] at h1
         simp only [bne_self_eq_false,Bool.false_or,decide_eq_true_eq] at h1
         have h2:(z0j tb2 to2 x).args.length=x.args.length:=List.length_map _
         omega
       have hn4':(z0j tb2 to2 x).kind=4->1<(z0j tb2 to2 x).args.length:=fun e=>by
         have h1:=hxok.1.2
         rw [show x.kind=4 from e] at h1
         simp only [bne_self_eq_false,Bool.false_or,decide_eq_true_eq] at h1
         have h2:(z0j tb2 to2 x).args.length=x.args.length:=List.length_map _
         omega
       have hN:z02 tb2 to2 x=(if (z1w tb2 (z0g tb2 to2 x.kids).2 (z0j tb2 to2 x)).1 then [z0j tb2 to2 x] else [],(z1w tb2 (z0g tb2 to2 x.kids).2 (z0j tb2 to2 x)).2):=by rw [z4w,hK];rfl
       refine tSk ?_
       refine tC rfl (fun hd40=>?_) fun hd40=>?_
       ·refine tQ <| tG <| cV rfl (z15 rfl rfl rfl Tryz.underlying62 rfl tS62 (lb rfl) trivial) <| cV rfl (lBP rfl rfl rfl uT43 rfl tS43 (lb rfl) rfl trivial) <| cE rfl (ocr (zf6 (z0j tb2 to2 x) tb2 (z0g tb2 to2 x.kids).2 hno hn3' hn4') ent41 rfl (po3 rfl rfl rfl) rfl (fun k (h:_)=>.inr h) rfl rfl) <| sm 1 rfl <| nL ?_
        refine tC rfl (fun hc48=>?_) fun hc48=>?_
        ·have hPf:(z1w tb2 (z0g tb2 to2 x.kids).2 (z0j tb2 to2 x)).1=false:=by simpa using hc48
         have hN1:(z02 tb2 to2 x).1=[]:=by rw [hN,hPf];rfl
         refine tEx ?_
         have hNq:(z02 tb2 to2 x).2=(z02 tb2 to2 x).2:=rfl
         refine Tr.drop (k:=106) ?_
         refine Tr.heap (σ':=look [(104,some (.row ⟨43,8⟩ ((out++(z02 tb2 to2 x).1).map Nd.enc))),(102,some (.box [.mp 3001,.mp 3002,.mp 3003])),(3001,some (.map (kyEs (z02 tb2 to2 x).2.1.seen))),(3002,some (.map (inEs (z02 tb2 to2 x).2.1.nums))),(3003,some (.map (inEs (z02 tb2 to2 x).2.2)))]) (by
           rw [hN1,List.append_nil,hN]
           intro j
           try simp only [look]
           by_cases h106:106=j
           · subst h106;rfl
           · by_cases h104:104=j
             · subst h104;rfl
             · by_cases h102:102=j
               · subst h102;rfl
               · by_cases h3001:3001=j
                 · subst h3001;rfl
                 · by_cases h3002:3002=j
                   · subst h3002;rfl
                   · by_cases h3003:3003=j
                     · subst h3003;rfl
                     · simp [tH,look,up,z06 h106,z06 h104,z06 h102,z06 h3001,z06 h3002,z06 h3003]) ?_
         refine tG <| cV rfl (oB rfl rfl (z04 rfl oM0)) <| sm 1 rfl <| nL ?_
         refine ⟨_,_,?_,Sub.of (fr':=[(12,iInt (k+1)),(11,iInt l.length),(10,.pv (z0o l)),(4,.sl 104 ((out++(z02 tb2 to2 x).1).map Nd.enc).length),(2,.ptr 102 0)]) ⟨rfl,rfl,rfl,congrArg (fun z=>some (IV.sl _ z)) (by rw [hN1];simp [z08]),rfl,trivial⟩,(k+1),(out++(z02 tb2 to2 x).1),(z02 tb2 to2 x).2.1,(z02 tb2 to2 x).2.2,?_,?_,rfl,rfl,rfl⟩
         ·omega
         ·omega
         rw [<- hI1,hd]
         simp only [z0e,List.append_assoc]
        have hPt:(z1w tb2 (z0g tb2 to2 x.kids).2 (z0j tb2 to2 x)).1=true:=by simpa using hc48
        have hN1:(z02 tb2 to2 x).1=[z0j tb2 to2 x]:=by rw [hN,hPt];rfl
        have hol2:out.length+1<=1073741824:=by rw [hN1] at hol;exact hol
        refine tSk <| tG <| sm 1 rfl <| cV rfl (lBP rfl rfl rfl uT43 rfl tS43 (lb rfl) rfl trivial) <| cE rfl (bSl rfl rfl uT44 tZ43 tS43 rfl rfl rfl rfl (fbk rfl) rfl) ?_
        refine cE rfl (aPp rfl rfl rfl rfl (by rfl) ((fun h=>h)) uT44 tB43 dC0 (by (simp [z08];done)) (z6d _ _ _ _ _ _ _ _) (by simp [maxLen,z08];omega) (by simp [z08];omega)) ?_
        refine sm 1 rfl <| nL ?_
        have hNq:(z02 tb2 to2 x).2=(z02 tb2 to2 x).2:=rfl
        refine Tr.drop (k:=106) ?_
        refine Tr.heap (σ':=look [(104,some (.row ⟨43,8⟩ ((out++(z02 tb2 to2 x).1).map Nd.enc))),(102,some (.box [.mp 3001,.mp 3002,.mp 3003])),(3001,some (.map (kyEs (z02 tb2 to2 x).2.1.seen))),(3002,some (.map (inEs (z02 tb2 to2 x).2.1.nums))),(3003,some (.map (inEs (z02 tb2 to2 x).2.2)))]) (by
          rw [hN1,zd7,hN]
          intro j
          try simp only [look]
          by_cases h106:106=j
          · subst h106;rfl
          · by_cases h104:104=j
            · subst h104;rfl
            · by_cases h102:102=j
              · subst h102;rfl
              · by_cases h3001:3001=j
                · subst h3001;rfl
                · by_cases h3002:3002=j
                  · subst h3002;rfl
                  · by_cases h3003:3003=j
                    · subst h3003;rfl
                    · simp [tH,look,up,z06 h106,z06 h104,z06 h102,z06 h3001,z06 h3002,z06 h3003]) ?_
        refine tG <| cV rfl (oB rfl rfl (z04 rfl oM0)) <| sm 1 rfl <| nL ?_
        refine ⟨_,_,?_,Sub.of (fr':=[(12,iInt (k+1)),(11,iInt l.length),(10,.pv (z0o l)),(4,.sl 104 ((out++(z02 tb2 to2 x).1).map Nd.enc).length),(2,.ptr 102 0)]) ⟨rfl,rfl,rfl,congrArg (fun z=>some (IV.sl _ z)) (by rw [hN1];simp [z08]),rfl,trivial⟩,(k+1),(out++(z02 tb2 to2 x).1),(z02 tb2 to2 x).2.1,(z02 tb2 to2 x).2.2,?_,?_,rfl,rfl,rfl⟩
        ·omega
        ·omega
        rw [<- hI1,hd]
        simp only [z0e,List.append_assoc]
       exact absurd (hc40.symm.trans hd40) dC0
      have hn3:(x.kind==3)=false:=hc40
      refine tG <| sm 2 rfl <| nL ?_
      refine tC rfl (fun hc40=>?_) fun hc40=>?_
      ·have hK:stK x.kind=true:=by simp only [stK,hc40,Bool.or_true,Bool.true_or]
       have hno:(z0j tb2 to2 x).outs≠[]:=by
         have h1:=hxok.1.1.1
         rw [hK] at h1
         intro e
         rw [show x.outs=[] from e] at h1
         cases h1
       have hn3':(z0j tb2 to2 x).kind=3->0<(z0j tb2 to2 x).args.length:=fun e=>by
         have h1:=hxok.1.1.2
         rw [show x.kind=3 from e] at h1
         simp only [bne_self_eq_false,Bool.false_or,decide_eq_true_eq] at h1
         have h2:(z0j tb2 to2 x).args.length=x.args.length:=List.length_map _
         omega
       have hn4':(z0j tb2 to2 x).kind=4->1<(z0j tb2 to2 x).args.length:=fun e=>by
         have h1:=hxok.1.2
         rw [show x.kind=4 from e] at h1
         simp only [bne_self_eq_false,Bool.false_or,decide_eq_true_eq] at h1
         have h2:(z0j tb2 to2 x).args.length=x.args.length:=List.length_map _
         omega
       have hN:z02 tb2 to2 x=(if (z1w tb2 (z0g tb2 to2 x.kids).2 (z0j tb2 to2 x)).1 then [z0j tb2 to2 x] else [],(z1w tb2 (z0g tb2 to2 x.kids).2 (z0j tb2 to2 x)).2):=by rw [z4w,hK];rfl
       refine tQ <| tG <| cV rfl (z15 rfl rfl rfl Tryz.underlying62 rfl tS62 (lb rfl) trivial) <| cV rfl (lBP rfl rfl rfl uT43 rfl tS43 (lb rfl) rfl trivial) <| cE rfl (ocr (zf6 (z0j tb2 to2 x) tb2 (z0g tb2 to2 x.kids).2 hno hn3' hn4') ent41 rfl (po3 rfl rfl rfl) rfl (fun k (h:_)=>.inr h) rfl rfl) <| sm 1 rfl <| nL ?_
       refine tC rfl (fun hc48=>?_) fun hc48=>?_
       ·have hPf:(z1w tb2 (z0g tb2 to2 x.kids).2 (z0j tb2 to2 x)).1=false:=by simpa using hc48
        have hN1:(z02 tb2 to2 x).1=[]:=by rw [hN,hPf];rfl
        refine tEx ?_
        have hNq:(z02 tb2 to2 x).2=(z02 tb2 to2 x).2:=rfl
        refine Tr.drop (k:=106) ?_
        refine Tr.heap (σ':=look [(104,some (.row ⟨43,8⟩ ((out++(z02 tb2 to2 x).1).map Nd.enc))),(102,some (.box [.mp 3001,.mp 3002,.mp 3003])),(3001,some (.map (kyEs (z02 tb2 to2 x).2.1.seen))),(3002,some (.map (inEs (z02 tb2 to2 x).2.1.nums))),(3003,some (.map (inEs (z02 tb2 to2 x).2.2)))]) (by
          rw [hN1,List.append_nil,hN]
          intro j
          try simp only [look]
          by_cases h106:106=j
          · subst h106;rfl
          · by_cases h104:104=j
            · subst h104;rfl
            · by_cases h102:102=j
              · subst h102;rfl
              · by_cases h3001:3001=j
                · subst h3001;rfl
                · by_cases h3002:3002=j
                  · subst h3002;rfl
                  · by_cases h3003:3003=j
                    · subst h3003;rfl
                    · simp [tH,look,up,z06 h106,z06 h104,z06 h102,z06 h3001,z06 h3002,z06 h3003]) ?_
        refine tG <| cV rfl (oB rfl rfl (z04 rfl oM0)) <| sm 1 rfl <| nL ?_
        refine ⟨_,_,?_,Sub.of (fr':=[(12,iInt (k+1)),(11,iInt l.length),(10,.pv (z0o l)),(4,.sl 104 ((out++(z02 tb2 to2 x).1).map Nd.enc).length),(2,.ptr 102 0)]) ⟨rfl,rfl,rfl,congrArg (fun z=>some (IV.sl _ z)) (by rw [hN1];simp [z08]),rfl,trivial⟩,(k+1),(out++(z02 tb2 to2 x).1),(z02 tb2 to2 x).2.1,(z02 tb2 to2 x).2.2,?_,?_,rfl,rfl,rfl⟩
        ·omega
        ·omega
        rw [<- hI1,hd]
        simp only [z0e,List.append_assoc]
       have hPt:(z1w tb2 (z0g tb2 to2 x.kids).2 (z0j tb2 to2 x)).1=true:=by simpa using hc48
       have hN1:(z02 tb2 to2 x).1=[z0j tb2 to2 x]:=by rw [hN,hPt];rfl
       have hol2:out.length+1<=1073741824:=by rw [hN1] at hol;exact hol
       refine tSk <| tG <| sm 1 rfl <| cV rfl (lBP rfl rfl rfl uT43 rfl tS43 (lb rfl) rfl trivial) <| cE rfl (bSl rfl rfl uT44 tZ43 tS43 rfl rfl rfl rfl (fbk rfl) rfl) ?_
       refine cE rfl (aPp rfl rfl rfl rfl (by rfl) ((fun h=>h)) uT44 tB43 dC0 (by (simp [z08];done)) (z6d _ _ _ _ _ _ _ _) (by simp [maxLen,z08];omega) (by simp [z08];omega)) ?_
       refine sm 1 rfl <| nL ?_
       have hNq:(z02 tb2 to2 x).2=(z02 tb2 to2 x).2:=rfl
       refine Tr.drop (k:=106) ?_
       refine Tr.heap (σ':=look [(104,some (.row ⟨43,8⟩ ((out++(z02 tb2 to2 x).1).map Nd.enc))),(102,some (.box [.mp 3001,.mp 3002,.mp 3003])),(3001,some (.map (kyEs (z02 tb2 to2 x).2.1.seen))),(3002,some (.map (inEs (z02 tb2 to2 x).2.1.nums))),(3003,some (.map (inEs (z02 tb2 to2 x).2.2)))]) (by
         rw [hN1,zd7,hN]
         intro j
         try simp only [look]
         by_cases h106:106=j
         · subst h106;rfl
         · by_cases h104:104=j
           · subst h104;rfl
           · by_cases h102:102=j
             · subst h102;rfl
             · by_cases h3001:3001=j
               · subst h3001;rfl
               · by_cases h3002:3002=j
                 · subst h3002;rfl
                 · by_cases h3003:3003=j
                   · subst h3003;rfl
                   · simp [tH,look,up,z06 h106,z06 h104,z06 h102,z06 h3001,z06 h3002,z06 h3003]) ?_
       refine tG <| cV rfl (oB rfl rfl (z04 rfl oM0)) <| sm 1 rfl <| nL ?_
       refine ⟨_,_,?_,Sub.of (fr':=[(12,iInt (k+1)),(11,iInt l.length),(10,.pv (z0o l)),(4,.sl 104 ((out++(z02 tb2 to2 x).1).map Nd.enc).length),(2,.ptr 102 0)]) ⟨rfl,rfl,rfl,congrArg (fun z=>some (IV.sl _ z)) (by rw [hN1];simp [z08]),rfl,trivial⟩,(k+1),(out++(z02 tb2 to2 x).1),(z02 tb2 to2 x).2.1,(z02 tb2 to2 x).2.2,?_,?_,rfl,rfl,rfl⟩
       ·omega
       ·omega
       rw [<- hI1,hd]
       simp only [z0e,List.append_assoc]
      refine tSk ?_
      have hn4:(x.kind==4)=false:=hc40
      have hK:stK x.kind=false:=by simp only [stK,hn1,hn2,hn3,hn4];rfl
      have hN:z02 tb2 to2 x=([z0j tb2 to2 x],tb2,(z0g tb2 to2 x.kids).2):=z56 _ _ _ hK
      have hN1:(z02 tb2 to2 x).1=[z0j tb2 to2 x]:=by rw [hN]
      have hol2:out.length+1<=1073741824:=by rw [hN1] at hol;exact hol
      refine tG <| sm 1 rfl <| cV rfl (lBP rfl rfl rfl uT43 rfl tS43 (lb rfl) rfl trivial) <| cE rfl (bSl rfl rfl uT44 tZ43 tS43 rfl rfl rfl rfl (fbk rfl) rfl) ?_
      refine cE rfl (aPp rfl rfl rfl rfl (by rfl) ((fun h=>h)) uT44 tB43 dC0 (by (simp [z08];done)) (z6d _ _ _ _ _ _ _ _) (by simp [maxLen,z08];omega) (by simp [z08];omega)) ?_
      refine sm 1 rfl <| nL ?_
      have hNq:(z02 tb2 to2 x).2=(z02 tb2 to2 x).2:=rfl
      refine Tr.drop (k:=106) ?_
      refine Tr.heap (σ':=look [(104,some (.row ⟨43,8⟩ ((out++(z02 tb2 to2 x).1).map Nd.enc))),(102,some (.box [.mp 3001,.mp 3002,.mp 3003])),(3001,some (.map (kyEs (z02 tb2 to2 x).2.1.seen))),(3002,some (.map (inEs (z02 tb2 to2 x).2.1.nums))),(3003,some (.map (inEs (z02 tb2 to2 x).2.2)))]) (by
        rw [hN1,zd7,hN]
        intro j
        try simp only [look]
        by_cases h106:106=j
        · subst h106;rfl
        · by_cases h104:104=j
          · subst h104;rfl
          · by_cases h102:102=j
            · subst h102;rfl
            · by_cases h3001:3001=j
              · subst h3001;rfl
              · by_cases h3002:3002=j
                · subst h3002;rfl
                · by_cases h3003:3003=j
                  · subst h3003;rfl
                  · simp [tH,look,up,z06 h106,z06 h104,z06 h102,z06 h3001,z06 h3002,z06 h3003]) ?_
      refine tG <| cV rfl (oB rfl rfl (z04 rfl oM0)) <| sm 1 rfl <| nL ?_
      refine ⟨_,_,?_,Sub.of (fr':=[(12,iInt (k+1)),(11,iInt l.length),(10,.pv (z0o l)),(4,.sl 104 ((out++(z02 tb2 to2 x).1).map Nd.enc).length),(2,.ptr 102 0)]) ⟨rfl,rfl,rfl,congrArg (fun z=>some (IV.sl _ z)) (by rw [hN1];simp [z08]),rfl,trivial⟩,(k+1),(out++(z02 tb2 to2 x).1),(z02 tb2 to2 x).2.1,(z02 tb2 to2 x).2.2,?_,?_,rfl,rfl,rfl⟩
      ·omega
      ·omega
      rw [<- hI1,hd]
      simp only [z0e,List.append_assoc]
     refine tEx <| tQ <| Tr.freeze (t:=4) (k:=104) rfl rfl sI0 <| tG <| sm 2 rfl <| nL <| tRt ?_
     have hge:l.length<=k:=by simpa using hc13
     have he:z0e tb to l=(out,tb2,to2):=by
       rw [<- hI1,List.drop_eq_nil_of_le hge]
       simp [z0e]
     rw [he]
     refine rOk rfl rfl (po3 rfl rfl rfl)
theorem yi2 (l:List Nd) (tb:Tb) (to:TT) (hok:zk3 l=true) (hb:lsW l<=1073741824):SC Tryz.prog 23 [tV,.pv (z0o l)] (tH tb to) (fun _=>False) (.pv (z0o (z0e tb to l).1)) (tH (z0e tb to l).2.1 (z0e tb to l).2.2):=y0w _ l tb to hok hb (Nat.lt_succ_self _)
theorem y4y (u:Un) (hW:z0s u<=536870912) (hok:(z4c u).1=0->∀ f∈u.flows,zk3 f.body=true):SC Tryz.prog 11 [.pv u.enc] [] (fun _=>False) (.tup [.pv (z6h stB u).1.enc,iInt (z6h stB u).2]) []:=by
  refine SC.ofC2 Tryz.func11 rfl (lb rfl) rfl fun F ρ w=>?_
  have hW2:z0s u=u.arrays.length+u.flows.length+wtA u.arrays+wtF u.flows:=rfl
  refine tQ <| tG <| cE rfl (z2m rfl rfl) <| cE rfl (aLc (k:=102) rfl tZ25 rfl rfl rfl rfl) <| sm 1 rfl <| nL <| tQ <| tQ <| tG <| cV rfl (lEA rfl rfl uT25 rfl tS25 (lb rfl)) <| cE rfl (ocq (y8f u hW) ent22 rfl rfl) <| sm 1 rfl ?_
  refine cV rfl (z0v rfl rfl rfl) <| cV rfl (z0v rfl rfl rfl) <| sm 2 rfl <| nL <| tQ <| tG <| sm 2 rfl <| nL ?_
  refine tC rfl (fun hc15=>?_) fun hc15=>?_
  ·refine tQ <| tG <| cV rfl (bPu rfl rfl tZ25 tP25 rfl (fbk rfl) rfl) <| c0 (sBA rfl rfl rfl rfl rfl ((fun h=>h)) tS25 (flk rfl) (lb rfl)) <| sm 1 rfl <| nL <| tRt ?_
   have hz:((z4c u).1==0)=false:=by simpa using hc15
   have hH:z6h stB u=(⟨[],[]⟩,1):=by simp [z6h,hz]
   rw [hH]
   exact ⟨⟨_,_,(fun _ _ ho=>lBP ho rfl rfl uT25 rfl tS25 (lb rfl) rfl trivial),rfl,fun _ _ _ _ h=>tup2_sub (fun _ h=>zw1 h) h⟩,nPo⟩
  ·have hz:(z4c u).1=0:=by simpa using hc15
   have hH:z6h stB u=(z40 stB u,0):=by simp [z6h,hz]
   refine tSk <| tQ <| tG <| sm 2 rfl <| cV rfl (bPu rfl rfl tZ25 tP25 rfl (fbk rfl) rfl) <| cE rfl (aLc (k:=106) rfl tZ25 rfl rfl rfl rfl) <| c0 (sBA rfl rfl rfl rfl rfl ((fun h=>h)) tS25 (flk rfl) (lb rfl)) <| nL <| tQ <| tQ <| Tr.growCell (k:=199) (k2:=106) (j:=1) ⟨51,5⟩ rfl rfl rfl rfl rfl rfl <| tG ?_
   refine sm 2 rfl <| cV rfl (oSm uT23 rfl) <| sm 1 rfl <| nL <| tBk <| Tr.sub (Sub.of (fr':=[(23,iInt 0),(22,iInt u.flows.length),(21,.pv (flws u.flows)),(6,.ptr 106 0),(2,.ptr 102 0)]) ⟨rfl,rfl,rfl,rfl,rfl,trivial⟩) ?_
   refine Tr.heap (σ':=look [(106,some (.box [.pv (arrs u.arrays),.sl 199 (([]:List Fl).map Fl.enc).length])),(199,some (.row ⟨51,5⟩ (([]:List Fl).map Fl.enc))),(102,some (.box [.pv (.val (.slice none 0 0)),.pv (.val (.slice none 0 0))]))]) (by
  intro j
  try simp only [look]
  by_cases h106:106=j
  · subst h106;rfl
  · by_cases h199:199=j
    · subst h199;rfl
    · by_cases h102:102=j
      · subst h102;rfl
      · simp [tH,look,up,z06 h106,z06 h199,z06 h102]) ?_
   refine Tr.loop (fun fr σ m=>∃ (k:Nat) (out:List Fl),(k<=u.flows.length)/\(out++(u.flows.drop k).map (z43 stB)=u.flows.map (z43 stB))/\(out.length=k)/\fr=[(23,iInt k),(22,iInt u.flows.length),(21,.pv (flws u.flows)),(6,.ptr 106 0),(2,.ptr 102 0)] /\ σ = look [(106,some (.box [.pv (arrs u.arrays),.sl 199 (out.map Fl.enc).length])),(199,some (.row ⟨51,5⟩ (out.map Fl.enc))),(102,some (.box [.pv (.val (.slice none 0 0)),.pv (.val (.slice none 0 0))]))]/\m=u.flows.length - k) (n:=u.flows.length - 0) ?_ ?_
   ·exact ⟨0,([]:List Fl),Nat.zero_le _,rfl,rfl,rfl,rfl,rfl⟩
   rintro fr σ m ⟨k,out,hI0,hI1,hI2,rfl,rfl,rfl⟩
   refine tQ <| tG <| sm 1 rfl <| nL <| tQ ?_
   refine tC rfl (fun hc24=>?_) fun hc24=>?_
   ·have hlt:k<u.flows.length:=by simpa using hc24
    have hd:=List.drop_eq_getElem_cons hlt
    have hm:=List.getElem_mem hlt
    have hi:=z0a (f:=Fl.enc) (List.getElem?_eq_getElem hlt)
    generalize u.flows[k]=x at hd hm hi
    have hxok:=hok hz x hm
    have hxb:lsW x.body<=1073741824:=by have:=zh6 hW hm;omega
    have hol:(out.map Fl.enc).length=out.length:=by simp
    refine tSk <| tQ <| tBk <| tQ <| tG <| cV rfl (iSq rfl rfl rfl uT23 hi tS51 rfl (by rfl)) <| cV rfl (lEA rfl rfl Tryz.underlying51 rfl tS51 (lb rfl)) <| cE rfl (aLc (k:=108) rfl tZ51 rfl rfl rfl rfl) <| c0 (sBA rfl rfl rfl rfl rfl ((fun h=>h)) tS51 (flk rfl) (lb rfl)) <| nL <| tQ <| tG ?_
    refine cE rfl (z9p (k:=3001) rfl rfl rfl rfl rfl) <| cE rfl (z9p (k:=3002) rfl rfl rfl rfl rfl) <| cE rfl (z9p (k:=3003) rfl rfl rfl rfl rfl) <| cV rfl (z9m rfl rfl tZ62 tP62 rfl (z8s ⟨⟨_,rfl⟩,⟨_,rfl⟩,⟨_,rfl⟩,trivial⟩)) <| sm 2 rfl <| cE rfl (ocr (yi2 x.body ⟨[],[]⟩ [] hxok hxb) ent23 rfl (po3 rfl rfl rfl) rfl (fun k (h:_)=>.inr h) rfl rfl) <| sm 1 rfl <| c0 (sBx rfl rfl rfl rfl ((fun h=>h)) tS44 (rfl) (lb rfl)) <| nL <| tG <| sm 2 rfl <| cV rfl (lBP rfl rfl rfl Tryz.underlying51 rfl tS51 (lb rfl) rfl trivial) ?_
    refine cE rfl (bSl rfl rfl uT23 tZ51 tS51 rfl rfl rfl rfl (fbk rfl) rfl) ?_
    refine cE rfl (aPp rfl rfl rfl rfl (by rfl) ((fun h=>h)) uT23 tB51 dC0 (by (simp [z08];done)) (y7l _ _ _ _ _) (by simp [maxLen,z08];omega) (by simp [z08];omega)) ?_
    refine sm 1 rfl <| c0 (sBx rfl rfl rfl rfl ((fun h=>h)) tS23 (⟨_,_,rfl,by simp⟩) (lb rfl)) <| nL <| Tr.drop (k:=108) <| Tr.drop (k:=3001) <| Tr.drop (k:=3002) <| Tr.drop (k:=3003) ?_
    refine Tr.heap (σ':=look [(106,some (.box [.pv (arrs u.arrays),.sl 199 ((out++[z43 stB x]).map Fl.enc).length])),(199,some (.row ⟨51,5⟩ ((out++[z43 stB x]).map Fl.enc))),(102,some (.box [.pv (.val (.slice none 0 0)),.pv (.val (.slice none 0 0))]))]) (by
      rw [y9s,List.length_append]
      intro j
      try simp only [look]
      by_cases h3003:3003=j
      · subst h3003;rfl
      · by_cases h3002:3002=j
        · subst h3002;rfl
        · by_cases h3001:3001=j
          · subst h3001;rfl
          · by_cases h108:108=j
            · subst h108;rfl
            · by_cases h106:106=j
              · subst h106;rfl
              · by_cases h199:199=j
                · subst h199;rfl
                · by_cases h102:102=j
                  · subst h102;rfl
                  · simp [tH,look,up,z06 h3003,z06 h3002,z06 h3001,z06 h108,z06 h106,z06 h199,z06 h102]) ?_
    refine tG <| cV rfl (oB rfl rfl (z04 rfl oM0)) <| sm 1 rfl <| nL ?_
    refine ⟨_,_,?_,Sub.of (fr':=[(23,iInt (k+1)),(22,iInt u.flows.length),(21,.pv (flws u.flows)),(6,.ptr 106 0),(2,.ptr 102 0)]) ⟨rfl,rfl,rfl,rfl,rfl,trivial⟩,(k+1),(out++[z43 stB x]),?_,?_,?_,rfl,rfl,rfl⟩
    ·omega
    ·omega
    ·rw [List.append_assoc,<- hI1,hd];rfl
    simp [hI2]
   refine tEx <| tQ <| Tr.freezeCell (k:=199) (k2:=106) (j:=1) rfl rfl rfl rfl dC0 <| tG <| cV rfl (lBP rfl rfl rfl uT25 rfl tS25 (lb rfl) rfl trivial) <| c0 (sBA rfl rfl rfl rfl rfl ((fun h=>h)) tS25 (flk rfl) (lb rfl)) <| sm 1 rfl <| nL <| tRt <| retC2_ok (.inl rfl) (fun _ _ ho=>lBP ho rfl rfl uT25 rfl tS25 (lb rfl) rfl trivial) rfl ?_ nPo
   have hge:u.flows.length<=k:=by simpa using hc24
   have hout:out=u.flows.map (z43 stB):=by rw [<- hI1,List.drop_eq_nil_of_le hge];simp
   rw [hH,hout]
   rfl
theorem sc_alike (a b:Nd):SC Tryz.prog 42 [.pv (ndv a),.pv (ndv b)] [] (fun _=>False) (iBool (z2q a b)) []:=by
  refine SC.of Tryz.func42 rfl (lb rfl) fun F ρ w=>?_
  refine tQ <| tG <| cE rfl (z2m rfl rfl) <| cE rfl (z2m rfl rfl) <| sm 1 rfl <| nL <| tQ <| tQ <| tG <| sm 6 rfl ?_
  refine wS 11 rfl (fun hb11=>?_) fun hb11=>?_
  ·refine sm 27 rfl <| nL <| Tr.condT rfl <| tQ <| tG <| sm 1 rfl <| nL <| tRt <| rOk rfl ?_ nPo
   refine congrArg (fun b=>iBool b) ?_
   symm
   simp_all [z2q]
  refine sm 7 rfl ?_
  refine wS 18 rfl (fun hb18=>?_) fun hb18=>?_
  ·refine sm 20 rfl <| nL <| Tr.condT rfl <| tQ <| tG <| sm 1 rfl <| nL <| tRt <| rOk rfl ?_ nPo
   refine congrArg (fun b=>iBool b) ?_
   symm
   simp_all [z2q]
  refine sm 7 rfl ?_
  refine wS 25 rfl (fun hb25=>?_) fun hb25=>?_
  ·refine sm 13 rfl <| nL <| Tr.condT rfl <| tQ <| tG <| sm 1 rfl <| nL <| tRt <| rOk rfl ?_ nPo
   refine congrArg (fun b=>iBool b) ?_
   symm
   simp_all [z2q]
  refine sm 5 rfl ?_
  refine wS 30 rfl (fun hb30=>?_) fun hb30=>?_
  ·refine sm 8 rfl <| nL <| Tr.condT rfl <| tQ <| tG <| sm 1 rfl <| nL <| tRt <| rOk rfl ?_ nPo
   refine congrArg (fun b=>iBool b) ?_
   symm
   (simp_all [z2q];intros;omega)
  refine sm 2 rfl <| yV rfl rfl (oSm uT35 rfl) <| sm 2 rfl <| yV rfl rfl (oSm uT35 rfl) <| sm 2 rfl <| nL ?_
  refine tC rfl (fun hc38=>?_) fun hc38=>?_
  ·refine tQ <| tG <| sm 1 rfl <| nL <| tRt <| rOk rfl ?_ nPo
   refine congrArg (fun b=>iBool b) ?_
   symm
   (have hne:=args_ne (l:=a.args) (m:=b.args) (by simpa using hc38);unfold z2q;rw [hne,Bool.and_false];done)
  have hlen:a.args.length=b.args.length:=by
    (have:=hc38;simp at this;omega)
  have hS:z2q a b=(a.args==b.args):=by
    have h1:(a.kind==b.kind)=true:=by simpa using hb11
    have h2:(a.op==b.op)=true:=by simpa using hb18
    have h3:(a.n==b.n)=true:=by simpa using hb25
    have h4:decide (a.kind<=4)=true:=by simpa using hb30
    unfold z2q
    rw [h1,h2,h3,h4]
    rfl
  refine tSk <| tQ <| tQ <| tG <| sm 1 rfl <| nL <| tBk <| Tr.sub (Sub.of (fr':=[(5,iInt 0),(2,.pv (.ept [vInt a.kind,vInt a.op,vInt a.n,vStr a.name,ints a.args,ints a.outs,ints a.params,kids a.kids] 0)),(3,.pv (.ept [vInt b.kind,vInt b.op,vInt b.n,vStr b.name,ints b.args,ints b.outs,ints b.params,kids b.kids] 0))]) ⟨rfl,rfl,rfl,trivial⟩) ?_
  refine Tr.loop (fun fr σ m=>∃ (k:Nat),(k<=a.args.length)/\((a.args==b.args)=(a.args.drop k==b.args.drop k))/\fr=[(5,iInt k),(2,.pv (.ept [vInt a.kind,vInt a.op,vInt a.n,vStr a.name,ints a.args,ints a.outs,ints a.params,kids a.kids] 0)),(3,.pv (.ept [vInt b.kind,vInt b.op,vInt b.n,vStr b.name,ints b.args,ints b.outs,ints b.params,kids b.kids] 0))] /\ σ = look []/\m=a.args.length - k) (n:=a.args.length - 0) ?_ ?_
  ·exact ⟨0,Nat.zero_le _,rfl,rfl,rfl,rfl⟩
  rintro fr σ m ⟨k,hI0,hI1,rfl,rfl,rfl⟩
  refine tQ <| tQ <| tG <| sm 3 rfl ?_
  refine WL.lenOf (t:=41) rfl (fun hl2=>?_)
  simp only [List.length_map] at hl2
  refine cV rfl (oSm uT35 rfl) <| sm 1 rfl <| nL ?_
  refine tC rfl (fun hc43=>?_) fun hc43=>?_
  ·have hlt:k<a.args.length:=by simpa using hc43
   have hd:=List.drop_eq_getElem_cons hlt
   have hm:=List.getElem_mem hlt
   have hi:=z0a (f:=eInt) (List.getElem?_eq_getElem hlt)
   generalize a.args[k]=x at hd hm hi
   have hltw:k<b.args.length:=by omega
   have hdw:=List.drop_eq_getElem_cons hltw
   have hw:=z0a (f:=eInt) (List.getElem?_eq_getElem hltw)
   generalize b.args[k]=y at hdw hw
   refine tSk <| tQ <| tBk <| tQ <| Tr.still z78 kR0 rfl <| smS 3 rfl <| sV rfl (iSq rfl rfl rfl uT35 hi tS3 rfl (by rfl)) <| smS 4 rfl <| sV rfl (iSq rfl rfl rfl uT35 hw tS3 rfl (by rfl)) <| smS 2 rfl <| WS.nil ?_
   refine tC rfl (fun hc56=>?_) fun hc56=>?_
   ·refine tQ <| tG <| sm 1 rfl <| nL <| tRt <| rOk rfl ?_ nPo
    have hxy:(x==y)=false:=by simpa using hc56
    rw [hS,hI1,hd,hdw,List.cons_beq_cons,hxy]
    rfl
   refine tSk <| tG <| sm 1 rfl <| cV rfl (oB rfl rfl (z04 rfl oM0)) <| sm 1 rfl <| nL ?_
   refine ⟨_,_,?_,Sub.of (fr':=[(5,iInt (k+1)),(2,.pv (.ept [vInt a.kind,vInt a.op,vInt a.n,vStr a.name,ints a.args,ints a.outs,ints a.params,kids a.kids] 0)),(3,.pv (.ept [vInt b.kind,vInt b.op,vInt b.n,vStr b.name,ints b.args,ints b.outs,ints b.params,kids b.kids] 0))]) ⟨rfl,rfl,rfl,trivial⟩,(k+1),?_,?_,rfl,rfl,rfl⟩
   ·omega
   ·omega
   rw [hI1,hd,hdw]
   have hxy:(x==y)=true:=by simpa using hc56
   rw [List.cons_beq_cons,hxy,Bool.true_and]
  refine tEx <| tQ <| tG <| sm 1 rfl <| nL <| tRt <| rOk rfl ?_ nPo
  have hge:a.args.length<=k:=by simpa using hc43
  rw [hS,hI1,List.drop_eq_nil_of_le hge,List.drop_eq_nil_of_le oM0]
  rfl
set_option maxRecDepth 20000
set_option maxHeartbeats 2000000
def run0 (ins:List Int) (fuel:Int):Rs:={ ins:=ins,ar:=[],st:=0,code:=0,out:=[],cost:=0,fuel:=if fuel<0 then 0 else fuel,spent:=false }
def mEnd (r:Int × Rs):Rs:=if z14 r.2 then r.2 else { r.2 with st:=1,code:=r.1 }
def runv (s:Rs):PV:=.agg [vInt s.st,vInt s.code,ints s.out,vInt s.cost,vInt s.fuel]
theorem yj7 (fs:List Fl) (hW:z0s ⟨[],fs⟩<=536870912) (hz:(z1b ⟨[],fs⟩).1=0) (ins:List Int) (fuel:Int) (d:Nat) (r:Int × Rs) (h:z3t ⟨[],fs⟩ d (z05 z0d fs 0) [] { run0 ins fuel with ar:=[] }=some r):SC Tryz.prog 17 [.pv (Un.enc ⟨[],fs⟩),.pv (ints ins),iInt fuel] [] (fun _=>False) (.pv (runv (mEnd r))) []:=by
  refine SC.anyR (SC.vc tb { gh:=[(5,[.growC 1001 6 1002 3 1]),(12,[.fzC 1001 6 1002])],ids:=[(26,1001),(45,1004),(47,1003)] } [] Tryz.func17 rfl rfl ?_)
  have hub:∀ f∈fs,lsW f.body<=1073741824:=fun f hf=>Nat.le_trans (zh6 (u:=⟨[],fs⟩) hW hf) oM0
  have hcall:=(zk0 ⟨[],fs⟩ hub (d+1)).1 d (Nat.lt_succ_self d) _ _ _ _ h sI0
  have hal:=y99 h
  have hC:=zy4 ⟨[],fs⟩ hW
  rw [hz] at hC
  have hP:=z4i ⟨[],fs⟩ z0d
  obtain ⟨n,ins',ar',st',code',out',cost',fuel',spent'⟩:=r
  obtain rfl:ar'=[]:=List.eq_nil_of_length_eq_zero hal
  have hO:=z4d ⟨[],fs⟩ ⟨ins',[],st',code',out',cost',fuel',spent'⟩
  obtain ⟨ov,hov⟩:∃ b,z14 ⟨ins',[],st',code',out',cost',fuel',spent'⟩=b:=⟨_,rfl⟩
  rw [hov] at hO
  have hend:mEnd (n,⟨ins',[],st',code',out',cost',fuel',spent'⟩)=if ov then (⟨ins',[],st',code',out',cost',fuel',spent'⟩:Rs) else ⟨ins',[],1,n,out',cost',fuel',spent'⟩:=by unfold mEnd;rw [hov]
  rw [hend]
  clear hend
  refine ⟨[],hC,sR,trivial,rfl,Unit,fun _=>[(10,iInt 0)],fun _=>[],fun _=>0,fun _=>True,[],(),trivial,⟨rfl,trivial⟩,trivial,fun _ _=>⟨[],hP,sR,trivial,rfl,[],hcall,SubA.same (SubA.same (SubA.cons sN sR)),⟨rfl,rfl,trivial⟩,rfl,[],hO,sR,⟨rfl,rfl,trivial⟩,rfl,?_⟩⟩
  cases ov with
  | true=>exact ⟨rfl,sI,trivial⟩
  | false=>exact ⟨rfl,sI,trivial⟩
theorem sr_run1 (fs:List Fl) (A:Ar) (hW:z0s ⟨[A],fs⟩<=536870912) (hz:(z1b ⟨[A],fs⟩).1=0) (ins:List Int) (fuel:Int) (d:Nat) (r:Int × Rs) (h:z3t ⟨[A],fs⟩ d (z05 z0d fs 0) [] { run0 ins fuel with ar:=[List.replicate A.size.toNat 0] }=some r) (hsz:0<=A.size/\A.size<=1000):SC Tryz.prog 17 [.pv (Un.enc ⟨[A],fs⟩),.pv (ints ins),iInt fuel] [] (fun _=>False) (.pv (runv (mEnd r))) []:=by
  refine SC.anyR (SC.vc tb { gh:=[(5,[.growC 1001 6 1002 3 1]),(12,[.fzC 1001 6 1002])],ids:=[(26,1001),(45,1004),(47,1003)] } [] Tryz.func17 rfl rfl ?_)
  have hub:∀ f∈fs,lsW f.body<=1073741824:=fun f hf=>Nat.le_trans (zh6 (u:=⟨[A],fs⟩) hW hf) oM0
  have hcall:=(zk0 ⟨[A],fs⟩ hub (d+1)).1 d (Nat.lt_succ_self d) _ _ _ _ h sI0
  have hal:=y99 h
  have hC:=zy4 ⟨[A],fs⟩ hW
  rw [hz] at hC
  have hP:=z4i ⟨[A],fs⟩ z0d
  obtain ⟨n,ins',ar',st',code',out',cost',fuel',spent'⟩:=r
  obtain ⟨q2,rfl⟩:∃ q2,ar'=[q2]:=List.length_eq_one_iff.1 hal
  have hO:=z4d ⟨[A],fs⟩ ⟨ins',[q2],st',code',out',cost',fuel',spent'⟩
  obtain ⟨ov,hov⟩:∃ b,z14 ⟨ins',[q2],st',code',out',cost',fuel',spent'⟩=b:=⟨_,rfl⟩
  rw [hov] at hO
  have hend:mEnd (n,⟨ins',[q2],st',code',out',cost',fuel',spent'⟩)=if ov then (⟨ins',[q2],st',code',out',cost',fuel',spent'⟩:Rs) else ⟨ins',[q2],1,n,out',cost',fuel',spent'⟩:=by unfold mEnd;rw [hov]
  rw [hend]
  clear hend
  have hTl:((A.size:Int))=(A.size.toNat:Nat):=by omega
  refine ⟨[],hC,sR,trivial,rfl,Bool,fun b=>[(10,iInt (if b then 1 else 0))],fun b=>if b then [(1001,rBox ⟨[A],fs⟩ { run0 ins fuel with ar:=[List.replicate A.size.toNat 0] }),(1003,.box [.sl 1004 ((List.replicate A.size.toNat (0:Int)).map eInt).length]),(1004,rowI (List.replicate A.size.toNat 0))] else [(1001,rBox ⟨[A],fs⟩ { run0 ins fuel with ar:=[] })],fun b=>if b then 0 else 1,fun _=>True,[],false,trivial,⟨rfl,trivial⟩,⟨rfl,trivial⟩,fun b _=>?_⟩
  cases b with
  | false =>
    exact ⟨at0 (a:=Ar.enc A),rfl,rfl,hTl,by omega,by simp,rfl,Nat.zero_lt_one,by decide,z04 (m:=0) (n:=1) rfl dC0,true,Nat.zero_lt_one,trivial,⟨rfl,trivial⟩,⟨rfl,boq (show [IV.sl 1004 A.size.toNat]=_ by simp),rwq (by simp [eInt];exact .inr rfl),trivial⟩,rfl,rfl,rfl,rfl⟩
  | true =>
    refine ⟨[],hP,sR,trivial,rfl,[],hcall,SubA.same (SubA.same (SubA.cons sN sR)),⟨rfl,rfl,rfl,rfl,trivial⟩,rfl,[],hO,sR,⟨rfl,rfl,rfl,rfl,trivial⟩,rfl,?_⟩
    cases ov with
    | true=>exact ⟨rfl,sI,trivial⟩
    | false=>exact ⟨rfl,sI,trivial⟩
set_option maxRecDepth 20000
set_option maxHeartbeats 2000000
mutual
theorem nsz_W:∀ x:Nd,nsz x<=ndW x
  | .mk _ _ _ _ _ _ _ ks=>by have:=kdz_W ks;simp only [nsz,ndW];omega
theorem lsz_W:∀ l:List Nd,lsz l<=lsW l
  | []=>Nat.le_refl _
  | x::r=>by have:=nsz_W x;have:=lsz_W r;simp only [lsz,lsW];omega
theorem kdz_W:∀ ks:List (List Nd),kdz ks<=kdW ks
  | []=>Nat.le_refl _
  | l::r=>by have:=lsz_W l;have:=kdz_W r;simp only [kdz,kdW];omega
end
def szK:List Nd->Nat
  | []=>0
  | x::r=>kdz x.kids+szK r
theorem y5h:∀ a b:List Nd,szK (a++b)=szK a+szK b
  | [],b=>by simp [szK]
  | x::r,b=>by simp only [List.cons_append,szK,y5h r b];omega
theorem y49:∀ a b:List (List Nd),kdz (a++b)=kdz a+kdz b
  | [],b=>by simp [kdz]
  | x::r,b=>by simp only [List.cons_append,kdz,y49 r b];omega
theorem yd0:∀ l:List Nd,lsz l=l.length+szK l
  | []=>rfl
  | x::r=>by simp only [lsz,szK,List.length_cons,zx7,yd0 r];omega
theorem yi1:∀ (N:Nat) (l:List Nd),SizeOf.sizeOf l<N->lsW l<=1073741824->SC Tryz.prog 45 [.pv (z0o l)] [] (fun k=>k∈[]) (iInt (lsz l)) []
  | 0,_,h,_=>absurd h (Nat.not_lt_zero _)
  | N+1,l,hN,hb=>by
    refine SC.vc tb {} [] Tryz.func45 rfl rfl ?_
    have hl:=yd0 l
    have hw:=lsz_W l
    refine ⟨Nat,fun i=>[(4,iInt i),(3,iInt ((l.length+szK (l.take i):Nat)))],fun _=>[],fun i=>l.length - i,fun i=>i<=l.length,[],0,Nat.zero_le _,⟨rfl,ivq (by simp [szK]),trivial⟩,trivial,?_⟩
    intro i hi
    refine z00 (fun hc=>?_) fun hc=>?_
    · have hlt:=z7s (f:=Nd.enc) rfl hc
      obtain ⟨x,hx,ht,hd,hm⟩:=z69 hlt
      have happ:szK l=szK (l.take i)+(kdz x.kids+szK (l.drop (i+1))):=by
        conv=>lhs;rw [<- List.take_append_drop i l,hd]
        rw [y5h];rfl
      have hone:szK (l.take (i+1))=szK (l.take i)+kdz x.kids:=by rw [ht,y5h];simp [szK]
      have hxw:=(@zx4 l).2 x hm
      have hxe:=z92 x
      refine ⟨Nat,fun j=>[(5,iInt j),(3,iInt ((l.length+szK (l.take i)+kdz (x.kids.take j):Nat)))],fun _=>[],fun j=>x.kids.length - j,fun j=>j<=x.kids.length,[],0,Nat.zero_le _,⟨rfl,ivq (by simp [kdz]),trivial⟩,trivial,?_⟩
      intro j hj
      refine ⟨z0k hx,rfl,z00 (fun hc2=>?_) fun hc2=>?_⟩
      · have hlt2:=z7s (f:=eKid) rfl hc2
        obtain ⟨q,hq,ht2,hd2,hm2⟩:=z69 hlt2
        have happ2:kdz x.kids=kdz (x.kids.take j)+(lsz q+kdz (x.kids.drop (j+1))):=by
          conv=>lhs;rw [<- List.take_append_drop j x.kids,hd2]
          rw [y49];rfl
        have hone2:kdz (x.kids.take (j+1))=kdz (x.kids.take j)+lsz q:=by rw [ht2,y49];simp [kdz]
        have hqw:=z8x hm2
        have hkl:=yc3 x.kids
        exact ⟨z0k hx,rfl,z0a (f:=eKid) hq,rfl,[],yi1 N q (Nat.lt_of_lt_of_le (z8g hm rfl hm2) (Nat.le_of_lt_succ hN)) oM0,sR,trivial,rfl,z04 rfl oM0,z04 rfl oM0,j+1,z10 hlt2,hlt2,⟨rfl,ivq (by rw [hone2];omega),trivial⟩,trivial,rfl,rfl,rfl,rfl⟩
      · have hge:=z8k (f:=eKid) rfl hc2
        exact ⟨z04 rfl oM0,i+1,z10 hlt,hlt,⟨rfl,ivq (by rw [hone,List.take_of_length_le hge];omega),trivial⟩,trivial,rfl,rfl,rfl,rfl⟩
    · exact ⟨sE (by rw [List.take_of_length_le (z8k (f:=Nd.enc) rfl hc),hl]),trivial⟩
def uSz:List Fl->Nat
  | []=>0
  | f::r=>lsz f.body+uSz r
theorem y5o:∀ a b:List Fl,uSz (a++b)=uSz a+uSz b
  | [],b=>by simp [uSz]
  | x::r,b=>by simp only [List.cons_append,uSz,y5o r b];omega
theorem uSz_W:∀ l:List Fl,uSz l<=wtF l
  | []=>Nat.le_refl _
  | f::r=>by have:=uSz_W r;have:=lsz_W f.body;have:=y6f f.body;simp only [uSz,wtF,z4a];omega
theorem sc_nodes (u:Un) (hW:z0s u<=536870912):SC Tryz.prog 26 [.pv u.enc] [] (fun k=>k∈[]) (iInt (uSz u.flows)) []:=by
  refine SC.vc tb {} [] Tryz.func26 rfl rfl ?_
  have hw:=uSz_W u.flows
  have hw2:wtF u.flows<=z0s u:=by unfold z0s;omega
  have hw3:u.flows.length<=z0s u:=by unfold z0s;omega
  refine ⟨Nat,fun i=>[(4,iInt i),(3,iInt (uSz (u.flows.take i)))],fun _=>[],fun i=>u.flows.length - i,fun i=>i<=u.flows.length,[],0,Nat.zero_le _,⟨rfl,rfl,trivial⟩,trivial,?_⟩
  intro i hi
  refine z00 (fun hc=>?_) fun hc=>?_
  · have hlt:=z7s (f:=Fl.enc) rfl hc
    obtain ⟨f,hf,ht,hd,hm⟩:=z69 hlt
    have happ:uSz u.flows=uSz (u.flows.take i)+(lsz f.body+uSz (u.flows.drop (i+1))):=by
      conv=>lhs;rw [<- List.take_append_drop i u.flows,hd]
      rw [y5o];rfl
    have hone:uSz (u.flows.take (i+1))=uSz (u.flows.take i)+lsz f.body:=by rw [ht,y5o];simp [uSz]
    exact ⟨z0a (f:=Fl.enc) hf,rfl,[],yi1 _ f.body (Nat.lt_succ_self _) (Nat.le_trans (zh6 hW hm) oM0),sR,trivial,rfl,z04 rfl oM0,z04 rfl oM0,i+1,z10 hlt,hlt,⟨rfl,ivq (by rw [hone];omega),trivial⟩,trivial,rfl,rfl,rfl,rfl⟩
  · exact ⟨sE (by rw [List.take_of_length_le (z8k (f:=Fl.enc) rfl hc)]),trivial⟩
theorem sc_ins (l:List Int):SC Tryz.prog 14 [.pv (ints l)] [] (fun k=>k∈[]) (.pv (ints (l.take 10))) []:=by
  refine SC.vc tb {} [] Tryz.func14 rfl rfl ?_
  refine z00 (fun h=>?_) fun h=>?_
  · have h2:(10:Int)<l.length:=by simpa using h
    exact ⟨10,rfl,by omega,by simp;omega,z5p,sE (by simp [ints]),trivial⟩
  · have h2:(l.length:Int)<=10:=by simpa using h
    have:l.length<=10:=by omega
    exact ⟨sE (by rw [List.take_of_length_le this]),trivial⟩
theorem zy5 (l:List Int):SC Tryz.prog 43 [.pv (ints l),.pv (ints l)] [] (fun k=>k∈[]) (iBool true) []:=by
  refine SC.vc tb { gh:=[(1,[.len 0])] } [] Tryz.func43 rfl rfl ?_
  intro hl
  simp only [List.length_map] at hl
  refine z00 (fun h1=>absurd h1 sI0) fun _=>?_
  refine ⟨Nat,fun k=>[(5,iInt k)],fun _=>[],fun k=>l.length - k,fun k=>k<=l.length,[],0,Nat.zero_le _,⟨rfl,trivial⟩,trivial,?_⟩
  intro k hk
  refine z00 (fun hc=>?_) fun hc=>?_
  · have hlt:=z7s (f:=eInt) rfl hc
    obtain ⟨x,hx,ht,hd,_⟩:=z69 hlt
    exact ⟨z0a (f:=eInt) hx,rfl,z0a (f:=eInt) hx,rfl,z00 (fun h2=>absurd h2 sI0) fun _=>⟨z04 rfl oM0,k+1,z10 hlt,hlt,⟨rfl,trivial⟩,trivial,rfl,rfl,rfl,rfl⟩⟩
  · exact ⟨sI,trivial⟩
theorem yg0 (a b:Rs) (h1:b.st=a.st) (h2:b.code=a.code) (h3:b.out=a.out):SC Tryz.prog 44 [.pv (runv a),.pv (runv b)] [] (fun k=>k∈[]) (iBool true) []:=by
  refine SC.vc tb {} [] Tryz.func44 rfl rfl ?_
  have hS:=zy5 a.out
  obtain ⟨ins,ar,st,code,out,cost,fuel,spent⟩:=a
  obtain ⟨ins',ar',st',code',out',cost',fuel',spent'⟩:=b
  obtain rfl:st'=st:=h1
  obtain rfl:code'=code:=h2
  obtain rfl:out'=out:=h3
  refine z00 (fun _=>?_) fun h=>absurd h sI0
  refine z00 (fun _=>?_) fun h=>absurd h sI0
  exact ⟨[],hS,sR,trivial,rfl,sI,trivial⟩
def Fol (a b:Rs):Prop:=(a.st=0/\a.out <+: b.out)∨(a.st≠0/\b.st=a.st/\b.code=a.code/\b.out=a.out)
theorem zy3 (a b:Rs) (h:Fol a b) (hb:b.out.length<=1073741824):SC Tryz.prog 25 [.pv (runv a),.pv (runv b)] [] (fun k=>k∈[]) (iBool true) []:=by
  refine SC.vc tb {} [] Tryz.func25 rfl rfl ?_
  rcases h with ⟨h1,h2⟩ | ⟨h1,h2,h3,h4⟩
  · have hS:=zy5 a.out
    obtain ⟨ins,ar,st,code,out,cost,fuel,spent⟩:=a
    obtain ⟨ins',ar',st',code',out',cost',fuel',spent'⟩:=b
    obtain rfl:st=0:=h1
    obtain ⟨t,rfl⟩:∃ t,out++t=out':=h2
    refine z00 (fun _=>?_) fun h=>absurd h (by simp;omega)
    exact ⟨out.length,by simp,by omega,by simp,z5p,[],hS,SubA.same (SubA.cons (sE (by simp [ints])) sR),trivial,rfl,sI,trivial⟩
  · have hA:=yg0 a b h2 h3 h4
    obtain ⟨ins,ar,st,code,out,cost,fuel,spent⟩:=a
    refine z00 (fun h=>absurd (by simpa using h) h1) fun _=>?_
    exact ⟨[],hA,sR,trivial,rfl,sI,trivial⟩
def runA (u:Un) (ins:List Int) (fuel:Int):Rs:={ run0 ins fuel with ar:=u.arrays.map fun a=>List.replicate a.size.toNat 0 }
theorem y0q (u:Un) (ins:List Int) {fuel:Int} (h0:0<=fuel) {B M:Int} (hB:fuel<=B) (hM:fuel<=M):Inv u.arrays.length B M (runA u ins fuel):=by
  have e:(runA u ins fuel).fuel=fuel:=by show (if fuel<0 then 0 else fuel)=fuel;rw [if_neg oM0]
  refine ⟨⟨by rw [e];exact h0,Int.le_refl _,by rw [e];show (0:Int)+fuel<=B;omega⟩,by rw [e];show ((0:Nat):Int)+fuel<=M;omega,by simp [runA]⟩
theorem main_ok {u:Un} (h:(z1b u).1=0):0<=z05 z0d u.flows 0/\∃ g,u.flows[(z05 z0d u.flows 0).toNat]? = some g/\g.params=0:=by
  obtain ⟨h1,_⟩:=(z4o u).1 h
  unfold z16 at h1
  simp only [Bool.and_eq_true] at h1
  have h2:=h1.2
  unfold z70 at h2
  simp only [Bool.and_eq_true,decide_eq_true_eq,beq_iff_eq] at h2
  obtain ⟨⟨h3,h4⟩,h5⟩:=h2
  obtain ⟨j,hj,hjl⟩:=zj3 z0d u.flows 0 oM0 h3
  refine ⟨h3,_,List.getElem?_eq_getElem oM0,?_⟩
  rw [List.getD_eq_getElem?_getD,List.getElem?_eq_getElem oM0] at h5
  exact h5
theorem y0r {u:Un} (hz:(z1b u).1=0) (ins:List Int) {fuel:Int} (h0:0<=fuel) {B M:Int} (hB:B<=4611686018427387903) (hM:M<=1073741824) (hfB:fuel<=B) (hfM:fuel<=M) :
    ∃ d r,z3t u d (z05 z0d u.flows 0) [] (runA u ins fuel)=some r/\Inv u.arrays.length B M r.2:=by
  obtain ⟨m1,g,m2,m3⟩:=main_ok hz
  have hi:=y0q u ins h0 hfB hfM
  have e:(runA u ins fuel).fuel=fuel:=by show (if fuel<0 then 0 else fuel)=fuel;rw [if_neg oM0]
  obtain ⟨r,h1,h2⟩:=(yk3 hB hM rfl (vf_of hz) (3*fuel.toNat+2)).2.2.1 _ [] _ m1 ⟨g,m2,by rw [m3];rfl⟩ hi (by rw [e];omega)
  exact ⟨_,r,h1,h2⟩
structure URel (u v:Un):Prop where
  ar:v.arrays=u.arrays
  pl:∀ name,z05 name v.flows 0=z05 name u.flows 0
  fl:∀ (i:Nat) f g,u.flows[i]? = some f->v.flows[i]? = some g->FRel (uSz u.flows) f g
theorem yk9:∀ {l:List Fl} {f:Fl},f∈l->lsz f.body<=uSz l
  | g::r,f,h=>by
    rcases List.mem_cons.1 h with rfl | h
    ·simp only [uSz];omega
    have:=yk9 h;simp only [uSz];omega
theorem y6r (m:Bool) {u v:Un} (R:URel u v) (ins:List Int) (hi:P64 ins) {F F':Int} (h0:0<=F) (h0':0<=F') {B M:Int} (hB:B<=4611686018427387903) (hfB:F<=B) (hfB':F'<=B) (hfM:F<=M) (hfM':F'<=M)
    (hG:G m (uSz u.flows) 0 (uSz u.flows+1) F F') {d d':Nat} {q q':Int × Rs} (h:z3t u d (z05 z0d u.flows 0) [] (runA u ins F)=some q) (h':z3t v d' (z05 z0d v.flows 0) [] (runA v ins F')=some q'):RC m (uSz u.flows) q q':=by
  have e:∀ (u:Un) {fuel:Int},0<=fuel->(runA u ins fuel).fuel=fuel:=fun u fuel h0=>by show (if fuel<0 then 0 else fuel)=fuel;rw [if_neg oM0]
  rw [R.pl] at h'
  refine y1l (B:=B) hB R.ar R.pl R.fl (d+1) d d' _ [] _ _ _ _ (Nat.lt_succ_self _) (fun _ h=>by simp at h) h h' (y0q u ins h0 hfB hfM).ok (y0q v ins h0' hfB' hfM').ok ⟨⟨⟨rfl,rfl⟩,⟨rfl,rfl⟩,rfl,?_,rfl,rfl,hi,fun row hr y hy=>?_⟩,?_,?_⟩
  ·simp only [runA,R.ar]
  ·obtain ⟨a,_,rfl⟩:=List.mem_map.1 hr
   rw [(List.mem_replicate.1 hy).2];simp [I64]
  ·rw [e u h0,e v h0'];exact hG
  exact Int.le_refl _
theorem z9h {q:Int × Rs} (h:z14 q.2=true):mEnd q=q.2:=if_pos h
theorem zm4 {q:Int × Rs} (h:Live q.2):mEnd q={ q.2 with st:=1,code:=q.1 }:=if_neg (by rw [z0r h];decide)
theorem zh4 (q:Int × Rs):(mEnd q).out=q.2.out:=by unfold mEnd;split<;>rfl
theorem rc_fol {N:Nat} {q q':Int × Rs} (h:RC true N q q'):Fol (mEnd q) (mEnd q')/\((mEnd q).st≠0->(mEnd q').cost<=(mEnd q).cost/\(mEnd q).fuel<=(mEnd q').fuel):=by
  cases h with
  | ok hv _ hr =>
    rw [zm4 hr.al.l,zm4 hr.al.l']
    have hg:=hr.g
    unfold G at hg
    simp only [if_true] at hg
    have hc:=hr.co
    exact ⟨.inr ⟨show (1:Int)≠0 by decide,rfl,hv,hr.al.out⟩,fun _=>⟨by simpa using hc,by simpa using hg⟩⟩
  | halt hh =>
    obtain ⟨o1,o2⟩:=hh.over
    rw [z9h o1,z9h o2]
    exact ⟨.inr ⟨hh.st,hh.st',hh.code,hh.out⟩,fun _=>⟨hh.co,hh.fu rfl⟩⟩
  | cut hc =>
    unfold Cut at hc
    simp only [if_true] at hc
    have e:=z9h (z67 hc.1)
    refine ⟨.inl ⟨by rw [e];exact hc.2.1,by rw [zh4,zh4];exact hc.2.2⟩,fun h=>absurd (by rw [e];exact hc.2.1) h⟩
theorem rc_fol2 {N:Nat} {q q':Int × Rs} (h:RC false N q q'):Fol (mEnd q') (mEnd q):=by
  cases h with
  | ok hv _ hr =>
    rw [zm4 hr.al.l,zm4 hr.al.l']
    exact .inr ⟨show (1:Int)≠0 by decide,rfl,hv.symm,hr.al.out.symm⟩
  | halt hh =>
    obtain ⟨o1,o2⟩:=hh.over
    rw [z9h o1,z9h o2]
    exact .inr ⟨by rw [hh.st'];exact hh.st,hh.st'.symm,hh.code.symm,hh.out.symm⟩
  | cut hc =>
    unfold Cut at hc
    simp only [Bool.false_eq_true,if_false] at hc
    have e:=z9h (z67 hc.1)
    exact .inl ⟨by rw [e];exact hc.2.1,by rw [zh4,zh4];exact hc.2.2⟩
section
structure Gn where
  pos:Nat
  types:List Int
  left:Nat
structure Plc where
  If:Bool
  Loop:Bool
  Yield:List Int
  Next:List Int
  Left:List Int
def plc0:Plc:=⟨false,false,[],[],[]⟩
section
variable (l:List UInt8)
def z07 (n:Nat) (g:Gn):Nat × Gn:=(if g.pos+1 > l.length∨g.pos+1 > 150 then 0 else (l.getD g.pos 0).toNat % n,{ g with pos:=g.pos+1 })
def z0b (t:Int) (g:Gn):Int × Gn:=(g.types.length,{ g with types:=g.types++[t] })
def gS1 (tys:List Int) (t:Int):Bool->Int->Int->List Int->Int
  | _,_,v,[]=>v
  | b,k,v,s::r=>if tys.getD s.toNat 0==t&&(b||decide (k > 0)) then gS1 tys t false (k - 1) s r else gS1 tys t false k v r
def gS2 (tys:List Int) (t:Int):Int->List Int->Int
  | v,[]=>v
  | v,s::r=>if tys.getD v.toNat 0 != t then gS2 tys t (if tys.getD s.toNat 0==t then s else v) r else v
def ze0 (seen:List Int) (t:Int) (g:Gn):Int × Gn :=
  (gS2 g.types t (gS1 g.types t true (z07 l 8 g).1 0 seen) seen,(z07 l 8 g).2)
def z1l (seen:List Int):List Int->Gn->List Int × Gn
  | [],g=>([],g)
  | t::r,g=>((ze0 l seen t g).1::(z1l seen r (ze0 l seen t g).2).1,(z1l seen r (ze0 l seen t g).2).2)
def gTyN:Nat->Gn->List Int × Gn
  | 0,g=>([],g)
  | n+1,g=>((1+((z07 l 2 g).1:Int))::(gTyN n (z07 l 2 g).2).1,(gTyN n (z07 l 2 g).2).2)
def z0q (g:Gn):List Int × Gn:=gTyN l (z07 l 3 g).1 (z07 l 3 g).2
def z0n:List Int->Gn->List Int × Gn
  | [],g=>([],g)
  | t::r,g=>((z0b t g).1::(z0n r (z0b t g).2).1,(z0n r (z0b t g).2).2)
def z7m:ByteArray:=⟨#[97]⟩
def z3r:ByteArray:=⟨#[102]⟩
def z0p:ByteArray:=⟨#[]⟩
def gNums:List Int:=[0,1,2,3,-1,100]
def y43:List Int:=[20,21,23,27]
def z3s (kind op n:Int) (name:ByteArray) (seen ins outs:List Int) (g:Gn):Nd × Gn :=
  (.mk kind op n name (z1l l seen ins g).1 (z0n outs (z1l l seen ins g).2).1 [] [],(z0n outs (z1l l seen ins g).2).2)
def z1m (seen:List Int) (g0:Gn):Nd × Gn :=
  let k:=(z07 l 12 g0).1
  let g:=(z07 l 12 g0).2
  if k=0 then z3s l 1 0 (gNums.getD (z07 l 6 g).1 0) z0p seen [] [1] (z07 l 6 g).2
  else if k=1 then z3s l 2 0 (z07 l 2 g).1 z0p seen [] [2] (z07 l 2 g).2
  else if k=2 then z3s l 3 (y43.getD (z07 l 4 g).1 0) 0 z0p seen [1] [1] (z07 l 4 g).2
  else if k=3 then z3s l 3 22 0 z0p seen [2] [2] g
  else if k=4∨k=5∨k=6 then z3s l 4 (1+((z07 l 11 g).1:Int)) 0 z0p seen [1,1] [1] (z07 l 11 g).2
  else if k=7∨k=8 then z3s l 4 (12+((z07 l 6 g).1:Int)) 0 z0p seen [1,1] [2] (z07 l 6 g).2
  else if k=9 then z3s l 5 0 0 z7m seen [1] [1] g
  else if k=10 then z3s l 6 0 0 z7m seen [1,1] [] g
  else if (z07 l 4 g).1=0 then z3s l 7 0 0 z3r seen [1,2] [1] (z07 l 4 g).2
  else if (z07 l 4 g).1=1 then z3s l 8 0 0 z0p seen [] [1] (z07 l 4 g).2
  else z3s l 9 0 0 z0p seen [1] [] (z07 l 4 g).2
def gEnd (seen:List Int) (p:Plc) (g0:Gn):Nd × Gn :=
  let k:=(z07 l 6 g0).1
  let g:=(z07 l 6 g0).2
  if p.If=true/\k<4 then z3s l 12 0 0 z0p seen p.Yield [] g
  else if p.Loop=true/\k % 2=0 then z3s l 13 0 0 z0p seen p.Next [] g
  else if p.Loop=true then z3s l 14 0 0 z0p seen p.Left [] g
  else z3s l 15 0 0 z0p seen [1] [] g
abbrev GRec:=List Int->Plc->Gn->List Nd × Gn
def z76 (x:List Int->Nd) (t:List Int) (g:Gn):Nd × Gn:=if z01 (x []) then (x [],g) else (x (z0n t g).1,(z0n t g).2)
def gIf (rec:GRec) (all:List Int) (p:Plc) (g:Gn):Nd × Gn :=
  let t:=z0q l g
  let x:Plc:=⟨true,p.Loop,t.1,p.Next,p.Left⟩
  let c:=z1l l all [2] t.2
  let a:=rec all x c.2
  let b:=rec all x a.2
  z76 (fun o=>.mk 10 0 0 z0p c.1 o [] [a.1,b.1]) t.1 b.2
def z8t (rec:GRec) (all:List Int) (g:Gn):Nd × Gn :=
  let t:=z0q l g
  let o:=z0q l t.2
  let a:=z1l l all t.1 o.2
  let q:=z0n t.1 a.2
  let b:=rec (all++q.1) ⟨false,true,[],t.1,o.1⟩ q.2
  z76 (fun z=>.mk 11 0 0 z0p a.1 z q.1 [b.1]) o.1 b.2
def gAny (rec:Option GRec) (all:List Int) (p:Plc) (g:Gn):Nd × Gn :=
  let s:=z1m l all { g with left:=g.left - 1 }
  let k:=z07 l 6 s.2
  match rec with
  | none=>(s.1,k.2)
  | some rec=>if k.1=0 then gIf l rec all p k.2 else if k.1=1 then z8t l rec all k.2 else (s.1,k.2)
def z3g (rec:Option GRec) (p:Plc):Nat->List Nd->List Int->Gn->List Nd × Gn
  | 0,out,all,g=>(out++[(gEnd l all p g).1],(gEnd l all p g).2)
  | i+1,out,all,g =>
    if g.left=0 then (out++[(gEnd l all p g).1],(gEnd l all p g).2)
    else
      let x:=gAny l rec all p g
      if z01 x.1 then (out++[x.1],x.2) else z3g rec p i (out++[x.1]) (all++x.1.outs) x.2
def z2y:Nat->GRec
  | 0,seen,p,g=>z3g l none p (z07 l 6 g).1 [] seen (z07 l 6 g).2
  | d+1,seen,p,g=>z3g l (some (z2y d)) p (z07 l 6 g).1 [] seen (z07 l 6 g).2
def zq3 (i b:Int):List Nd:=[.mk 1 0 3 z0p [] [i] [] [],.mk 2 0 1 z0p [] [b] [] []]
def z2s (name:ByteArray) (params:List Int) (g0:Gn):Fl × Gn :=
  let s:=z0n params { g0 with types:=[],left:=30 }
  let i:=z0b 1 s.2
  let b:=z0b 2 i.2
  let r:=z2y l 3 (s.1++[i.1,b.1]) plc0 b.2
  (⟨name,1,params.length,r.2.types,zq3 i.1 b.1++r.1⟩,r.2)
def made:Un :=
  let m:=z2s l z0d [] ⟨0,[],0⟩
  ⟨[⟨z7m,4⟩],[m.1,(z2s l z3r [1,2] m.2).1]⟩
end
end
def eB (x:UInt8):List PV:=[.val (.int .u8 (x.toNat:Int))]
def bts (l:List UInt8):PV:=.seq (l.map eB)
def z3h (l:List UInt8) (g:Gn):HO:=.box [.pv (bts l),iInt (g.pos:Int),.sl 2002 (g.types.map eInt).length,iInt (g.left:Int)]
def gH (l:List UInt8) (g:Gn):List (Nat × HO):=[(2001,z3h l g),(2002,rowI g.types)]
def gHs (l:List UInt8) (g:Gn) (seen:List Int):List (Nat × HO):=[(2001,z3h l g),(2002,rowI g.types),(2003,rowI seen)]
def InR (tys seen:List Int):Prop:=∀ s∈seen,0<=s/\s.toNat<tys.length
theorem InR.at {tys seen:List Int} (h:InR tys seen) {s:Int} (hs:s∈seen):s.toNat<(tys.map eInt).length/\(tys.map eInt)[s.toNat]? = some [vInt (tys.getD s.toNat 0)]/\s=((s.toNat:Nat):Int):=by
  obtain ⟨h1,h2⟩:=h s hs
  refine ⟨by simpa using h2,?_,by omega⟩
  rw [List.getElem?_map,List.getD,List.getElem?_eq_getElem h2];rfl
theorem z1y {l:List UInt8} {n:Nat} {g:Gn} (hn:0<n):(z07 l n g).1<n:=by
  unfold z07
  simp only
  split
  ·exact hn
  exact Nat.mod_lt _ hn
theorem u8_i64 (x:UInt8):IntKind.i64.wrap (x.toNat:Int)=(x.toNat:Int):=IntWalk.i64_in _ (by have:=x.toNat_lt;omega)
theorem i64_rem {m n:Nat} (hn:0<n):z3x .rem .i64 (m:Int) (n:Int)=some (.int .i64 ((m % n:Nat):Int)):=by
  simp only [z3x,Int.natCast_emod]
  rw [if_neg oM0,Int.tmod_eq_emod_of_nonneg oM0]
theorem yb0 {tys:List Int} {t:Int}:∀ (r:List Int) (b:Bool) (k v:Int),InR tys r->(0<=v/\(v.toNat<tys.length∨v=0))->0<=gS1 tys t b k v r/\((gS1 tys t b k v r).toNat<tys.length∨gS1 tys t b k v r=0)
  | [],_,_,_,_,hv=>hv
  | s::r,b,k,v,h,hv=>by
    unfold gS1
    have hr:InR tys r:=fun x hx=>h x (.tail _ hx)
    split
    ·have:=h s (.head _)
     exact yb0 r _ _ _ hr ⟨this.1,.inl this.2⟩
    exact yb0 r _ _ _ hr hv
theorem z1j (l:List UInt8) (seen:List Int):∀ (ts:List Int) (g:Gn),(z1l l seen ts g).2={ g with pos:=g.pos+ts.length }/\(z1l l seen ts g).1.length=ts.length
  | [],g=>⟨rfl,rfl⟩
  | t::r,g=>by
    have:=z1j l seen r (ze0 l seen t g).2
    simp only [z1l,List.length_cons,this]
    refine ⟨?_,trivial⟩
    simp only [ze0,z07]
    congr 1
    omega
theorem yb1 (l:List UInt8):∀ (n:Nat) (g:Gn),(gTyN l n g).2={ g with pos:=g.pos+n }/\(gTyN l n g).1.length=n
  | 0,g=>⟨rfl,rfl⟩
  | n+1,g=>by
    have:=yb1 l n (z07 l 2 g).2
    simp only [gTyN,List.length_cons,this]
    refine ⟨?_,trivial⟩
    simp only [z07]
    congr 1
    omega
theorem z4p (l:List UInt8) (g:Gn):(z0q l g).2={ g with pos:=g.pos+1+(z07 l 3 g).1 }/\(z0q l g).1.length=(z07 l 3 g).1:=by
  have:=yb1 l (z07 l 3 g).1 (z07 l 3 g).2
  unfold z0q
  rw [this.1]
  exact ⟨rfl,this.2⟩
theorem z24:∀ (ts:List Int) (g:Gn),(z0n ts g).2={ g with types:=g.types++ts }/\(z0n ts g).1.length=ts.length
  | [],g=>⟨by simp [z0n],rfl⟩
  | t::r,g=>by
    have:=z24 r (z0b t g).2
    simp only [z0n,List.length_cons,this]
    refine ⟨?_,trivial⟩
    simp [z0b]
theorem y62:∀ (ts:List Int) (g:Gn),∀ s∈(z0n ts g).1,(g.types.length:Int)<=s/\s<((g.types.length+ts.length:Nat):Int)
  | [],_,s,h=>by simp [z0n] at h
  | t::r,g,s,h=>by
    simp only [z0n,List.mem_cons] at h
    rcases h with rfl | h
    ·simp only [z0b,List.length_cons];omega
    have:=y62 r (z0b t g).2 s h
    simp only [z0b,List.length_append,List.length_cons,List.length_nil] at this ⊢
    omega
theorem yb2 {a:List Int} {i:Nat} (h:i<a.length):(a.map eInt)[i]? = some [vInt (a.getD i 0)]:=by
  rw [List.getElem?_map,List.getD,List.getElem?_eq_getElem h];rfl
def plcv (p:Plc):PV:=.agg [vBool p.If,vBool p.Loop,ints p.Yield,ints p.Next,ints p.Left]
def y6k:IV->IV
  | .pv (.val (.slice none 0 0))=>.pv (.seq [])
  | x=>x
theorem y7p (x:IV):ISub x (y6k x):=by
  unfold y6k
  split
  ·exact ISub.pv PSub.nil
  exact ISub.refl _
theorem zq9:∀ cs:List IV,ISubs cs (cs.map y6k)
  | []=>trivial
  | x::r=>⟨y7p x,zq9 r⟩
theorem Tr.fixNil {P:Program} {c:Cx} {fr:Fr} {hp:Hp} {Q:Exit->Fr->Heap'->Prop} {x:Code} {k:Nat} {cs:List IV} (hk:look hp k=some (.box cs)) (hR:¬ c.R k) (h:Tr P c x fr (look ((k,some (.box (cs.map y6k)))::hp)) Q):Tr P c x fr (look hp) Q :=
  Tr.subBox _ hk (zq9 cs) hR h
section
structure Bd (a b:Nat) (g g':Gn):Prop where
  lf:g'.left<=g.left
  ps:g'.pos+60*g'.left<=g.pos+60*g.left+a
  t1:g.types.length<=g'.types.length
  t2:g'.types.length+10*g'.left<=g.types.length+10*g.left+b
theorem Bd.trans {a b a' b':Nat} {g g' g'':Gn} (h:Bd a b g g') (h':Bd a' b' g' g''):Bd (a+a') (b+b') g g'' :=
  ⟨by have:=h.lf;have:=h'.lf;omega,by have:=h.ps;have:=h'.ps;omega,by have:=h.t1;have:=h'.t1;omega,by have:=h.t2;have:=h'.t2;omega⟩
theorem Bd.mono {a b a' b':Nat} {g g':Gn} (h:Bd a b g g') (ha:a<=a') (hb:b<=b'):Bd a' b' g g' :=
  ⟨h.lf,by have:=h.ps;omega,h.t1,by have:=h.t2;omega⟩
section
variable (l:List UInt8)
theorem z8q (n:Nat) (g:Gn):Bd 1 0 g (z07 l n g).2:=⟨Nat.le_refl _,by simp only [z07];omega,Nat.le_refl _,Nat.le_refl _⟩
theorem zh1 (seen ts:List Int) (g:Gn):Bd ts.length 0 g (z1l l seen ts g).2:=by
  rw [(z1j l seen ts g).1]
  exact ⟨Nat.le_refl _,by simp only [];omega,Nat.le_refl _,Nat.le_refl _⟩
theorem zp0 (ts:List Int) (g:Gn):Bd 0 ts.length g (z0n ts g).2:=by
  rw [(z24 ts g).1]
  exact ⟨Nat.le_refl _,Nat.le_refl _,by simp,by simp only [List.length_append];omega⟩
theorem z3q (g:Gn):Bd 3 0 g (z0q l g).2/\(z0q l g).1.length<=2:=by
  have h3:(z07 l 3 g).1<3:=z1y oM0
  obtain ⟨h1,h2⟩:=z4p l g
  refine ⟨?_,by omega⟩
  rw [h1]
  exact ⟨Nat.le_refl _,by simp only [];omega,Nat.le_refl _,Nat.le_refl _⟩
theorem y9d (kind op n:Int) (name:ByteArray) (seen ins outs:List Int) (g:Gn):Bd ins.length outs.length g (z3s l kind op n name seen ins outs g).2:=by
  have:=(zh1 l seen ins g).trans (zp0 outs (z1l l seen ins g).2)
  simpa [z3s] using this
theorem zp1 (seen:List Int) (g:Gn):Bd 4 1 g (z1m l seen g).2:=by
  unfold z1m
  have h0:=z8q l 12 g
  have P:=fun n=>z8q l n (z07 l 12 g).2
  have N:=fun kind op n name ins outs g'=>y9d l kind op n name seen ins outs g'
  simp only
  split
  ·exact ((h0.trans (P 6)).trans (N _ _ _ _ [] [1] _)).mono sI0 sI0
  split
  ·exact ((h0.trans (P 2)).trans (N _ _ _ _ [] [2] _)).mono sI0 sI0
  split
  ·exact ((h0.trans (P 4)).trans (N _ _ _ _ [1] [1] _)).mono sI0 sI0
  split
  ·exact (h0.trans (N _ _ _ _ [2] [2] _)).mono sI0 sI0
  split
  ·exact ((h0.trans (P 11)).trans (N _ _ _ _ [1,1] [1] _)).mono sI0 sI0
  split
  ·exact ((h0.trans (P 6)).trans (N _ _ _ _ [1,1] [2] _)).mono sI0 sI0
  split
  ·exact (h0.trans (N _ _ _ _ [1] [1] _)).mono sI0 sI0
  split
  ·exact (h0.trans (N _ _ _ _ [1,1] [] _)).mono sI0 sI0
  split
  ·exact ((h0.trans (P 4)).trans (N _ _ _ _ [1,2] [1] _)).mono sI0 sI0
  split
  ·exact ((h0.trans (P 4)).trans (N _ _ _ _ [] [1] _)).mono sI0 sI0
  exact ((h0.trans (P 4)).trans (N _ _ _ _ [1] [] _)).mono sI0 sI0
def Plc.small (p:Plc):Prop:=p.Yield.length<=2/\p.Next.length<=2/\p.Left.length<=2
theorem bd_end (seen:List Int) (p:Plc) (hp:p.small) (g:Gn):Bd 3 0 g (gEnd l seen p g).2:=by
  obtain ⟨h1,h2,h3⟩:=hp
  unfold gEnd
  have h0:=z8q l 6 g
  have N:=fun kind op n name ins outs g'=>y9d l kind op n name seen ins outs g'
  simp only
  split
  ·exact (h0.trans (N _ _ _ _ p.Yield [] _)).mono oM0 sI0
  split
  ·exact (h0.trans (N _ _ _ _ p.Next [] _)).mono oM0 sI0
  split
  ·exact (h0.trans (N _ _ _ _ p.Left [] _)).mono oM0 sI0
  exact (h0.trans (N _ _ _ _ [1] [] _)).mono sI0 sI0
def y3s (rec:GRec):Prop:=∀ seen p g,p.small->Bd 4 0 g (rec seen p g).2
theorem y9e (x:List Int->Nd) (t:List Int) (ht:t.length<=2) (g:Gn):Bd 0 2 g (z76 x t g).2:=by
  unfold z76
  split
  ·exact ⟨Nat.le_refl _,Nat.le_refl _,Nat.le_refl _,by show g.types.length+10*g.left<=g.types.length+10*g.left+2;omega⟩
  exact (zp0 t g).mono (Nat.le_refl _) ht
theorem bd_if {rec:GRec} (hr:y3s rec) (all:List Int) (p:Plc) (hp:p.small) (g:Gn):Bd 12 2 g (gIf l rec all p g).2:=by
  unfold gIf
  simp only
  obtain ⟨h1,h2⟩:=z3q l g
  have h3:=h1.trans (zh1 l all [2] (z0q l g).2)
  have hsm:Plc.small ⟨true,p.Loop,(z0q l g).1,p.Next,p.Left⟩:=⟨h2,hp.2.1,hp.2.2⟩
  have h4:=h3.trans (hr all ⟨true,p.Loop,(z0q l g).1,p.Next,p.Left⟩ _ hsm)
  have h5:=h4.trans (hr all ⟨true,p.Loop,(z0q l g).1,p.Next,p.Left⟩ _ hsm)
  exact (h5.trans (y9e _ _ h2 _)).mono sI0 sI0
theorem y9c {rec:GRec} (hr:y3s rec) (all:List Int) (g:Gn):Bd 12 4 g (z8t l rec all g).2:=by
  unfold z8t
  simp only
  obtain ⟨h1,h2⟩:=z3q l g
  obtain ⟨h3,h4⟩:=z3q l (z0q l g).2
  have h5:=(h1.trans h3).trans ((zh1 l all (z0q l g).1 (z0q l (z0q l g).2).2).mono h2 (Nat.le_refl 0))
  have h6:=h5.trans ((zp0 (z0q l g).1 (z1l l all (z0q l g).1 (z0q l (z0q l g).2).2).2).mono (Nat.le_refl 0) h2)
  have h7:=h6.trans (hr (all++(z0n (z0q l g).1 (z1l l all (z0q l g).1 (z0q l (z0q l g).2).2).2).1) ⟨false,true,[],(z0q l g).1,(z0q l (z0q l g).2).1⟩ _ ⟨by simp,h2,h4⟩)
  exact (h7.trans (y9e _ _ h4 _)).mono oM0 oM0
theorem bd_any {rec:Option GRec} (hr:∀ r,rec=some r->y3s r) (all:List Int) (p:Plc) (hp:p.small) (g:Gn) (hg:0<g.left):Bd 0 0 g (gAny l rec all p g).2:=by
  have h0:({ g with left:=g.left - 1 }:Gn).left+1=g.left:=by show g.left - 1+1=g.left;omega
  have key:∀ g',Bd 17 5 { g with left:=g.left - 1 } g'->Bd 0 0 g g':=fun g' h =>
    ⟨by have:=h.lf;omega,by have:=h.ps;have e:({ g with left:=g.left - 1 }:Gn).pos=g.pos:=rfl;omega,h.t1,by have:=h.t2;have e:({ g with left:=g.left - 1 }:Gn).types=g.types:=rfl;rw [e] at this;omega⟩
  have hs:=(zp1 l all { g with left:=g.left - 1 }).trans (z8q l 6 _)
  unfold gAny
  simp only
  cases rec with
  | none=>exact key _ (hs.mono oM0 oM0)
  | some r =>
    simp only
    split
    ·exact key _ ((hs.trans (bd_if l (hr r rfl) all p hp _)).mono oM0 oM0)
    split
    ·exact key _ ((hs.trans (y9c l (hr r rfl) all _)).mono oM0 oM0)
    exact key _ (hs.mono oM0 oM0)
theorem zz5 {rec:Option GRec} (hr:∀ r,rec=some r->y3s r) (p:Plc) (hp:p.small):∀ (i:Nat) (out:List Nd) (all:List Int) (g:Gn),Bd 3 0 g (z3g l rec p i out all g).2
  | 0,out,all,g=>bd_end l all p hp g
  | i+1,out,all,g=>by
    unfold z3g
    split
    ·exact bd_end l all p hp g
    rename_i hl
    have h1:=bd_any l hr all p hp g oM0
    simp only
    split
    ·exact h1.mono oM0 oM0
    exact (h1.trans (zz5 hr p hp i _ _ _)).mono oM0 oM0
theorem z7o:∀ d:Nat,y3s (z2y l d)
  | 0=>fun seen p g hp=>((z8q l 6 g).trans (zz5 l (rec:=none) (fun r h=>by cases h) p hp _ _ _ _)).mono oM0 oM0
  | d+1=>fun seen p g hp=>((z8q l 6 g).trans (zz5 l (rec:=some (z2y l d)) (fun r h=>by cases h;exact z7o d) p hp _ _ _ _)).mono oM0 oM0
def gRec:Nat->Option GRec
  | 0=>none
  | d+1=>some (z2y l d)
theorem ya9 (d:Nat):∀ r,gRec l d=some r->y3s r:=by
  intro r h
  cases d with
  | zero=>cases h
  | succ d=>cases h;exact z7o l d
theorem z5s (d:Nat) (seen:List Int) (p:Plc) (g:Gn):z2y l d seen p g=z3g l (gRec l d) p (z07 l 6 g).1 [] seen (z07 l 6 g).2:=by cases d<;>rfl
end
theorem InR.mono {tys tys' seen:List Int} (h:InR tys seen) (hl:tys.length<=tys'.length):InR tys' seen:=fun s hs=>⟨(h s hs).1,Nat.lt_of_lt_of_le (h s hs).2 hl⟩
theorem InR.app {tys a b:List Int} (h:InR tys a) (h':InR tys b):InR tys (a++b):=fun s hs=>(List.mem_append.1 hs).elim (h s) (h' s)
theorem InR.outs (ts:List Int) (g:Gn):InR (z0n ts g).2.types (z0n ts g).1:=by
  intro s hs
  have:=y62 ts g s hs
  rw [(z24 ts g).1]
  simp only [List.length_append]
  omega
section
variable (l:List UInt8)
theorem yd8 (kind op n:Int) (name:ByteArray) (seen ins outs:List Int) (g:Gn):InR (z3s l kind op n name seen ins outs g).2.types (z3s l kind op n name seen ins outs g).1.outs/\(z3s l kind op n name seen ins outs g).1.outs.length=outs.length :=
  ⟨InR.outs outs _,(z24 outs _).2⟩
theorem y5e (seen:List Int) (g:Gn):InR (z1m l seen g).2.types (z1m l seen g).1.outs/\(z1m l seen g).1.outs.length<=1:=by
  have N:=fun kind op n name ins outs g'=>yd8 l kind op n name seen ins outs g'
  have fin:∀ {x:Nd × Gn} {k:Nat},InR x.2.types x.1.outs/\x.1.outs.length=k->k<=1->InR x.2.types x.1.outs/\x.1.outs.length<=1:=fun h hk=>⟨h.1,by omega⟩
  unfold z1m
  simp only
  split
  ·exact fin (N _ _ _ _ _ [1] _) sI0
  split
  ·exact fin (N _ _ _ _ _ [2] _) sI0
  split
  ·exact fin (N _ _ _ _ _ [1] _) sI0
  split
  ·exact fin (N _ _ _ _ _ [2] _) sI0
  split
  ·exact fin (N _ _ _ _ _ [1] _) sI0
  split
  ·exact fin (N _ _ _ _ _ [2] _) sI0
  split
  ·exact fin (N _ _ _ _ _ [1] _) sI0
  split
  ·exact fin (N _ _ _ _ _ [] _) sI0
  split
  ·exact fin (N _ _ _ _ _ [1] _) sI0
  split
  ·exact fin (N _ _ _ _ _ [1] _) sI0
  exact fin (N _ _ _ _ _ [] _) sI0
theorem y38 (x:List Int->Nd) (hx:∀ o,(x o).outs=o) (t:List Int) (ht:t.length<=2) (g:Gn):InR (z76 x t g).2.types (z76 x t g).1.outs/\(z76 x t g).1.outs.length<=2:=by
  unfold z76
  split
  ·rw [hx];exact ⟨fun s hs=>by simp at hs,by simp⟩
  rw [hx];exact ⟨InR.outs t g,by rw [(z24 t g).2];exact ht⟩
theorem y5x {rec:Option GRec} (all:List Int) (p:Plc) (g:Gn):InR (gAny l rec all p g).2.types (gAny l rec all p g).1.outs/\(gAny l rec all p g).1.outs.length<=2:=by
  have hs:=y5e l all { g with left:=g.left - 1 }
  unfold gAny
  simp only
  cases rec with
  | none=>exact ⟨hs.1,Nat.le_trans hs.2 dC0⟩
  | some r =>
    simp only
    split
    ·unfold gIf;exact y38 _ (fun _=>rfl) _ (z3q l _).2 _
    split
    ·unfold z8t;exact y38 _ (fun _=>rfl) _ (z3q l _).2 _
    exact ⟨hs.1,Nat.le_trans hs.2 dC0⟩
end
theorem any_left (l:List UInt8) {rec:Option GRec} (hr:∀ r,rec=some r->y3s r) (all:List Int) (p:Plc) (hp:p.small) (g:Gn) (hg:0<g.left):(gAny l rec all p g).2.left+1<=g.left:=by
  have h0:({ g with left:=g.left - 1 }:Gn).left+1=g.left:=by show g.left - 1+1=g.left;omega
  have hs:=(zp1 l all { g with left:=g.left - 1 }).trans (z8q l 6 _)
  have fin:∀ {a b:Nat} {g':Gn},Bd a b { g with left:=g.left - 1 } g'->g'.left+1<=g.left:=fun h=>by have:=h.lf;omega
  unfold gAny
  simp only
  cases rec with
  | none=>exact fin hs
  | some r =>
    simp only
    split
    ·exact fin (hs.trans (bd_if l (hr r rfl) all p hp _))
    split
    ·exact fin (hs.trans (y9c l (hr r rfl) all _))
    exact fin hs
theorem zw7 (l:List UInt8) (rec:Option GRec) (p:Plc):∀ (i:Nat) (out:List Nd) (all:List Int) (g:Gn),(z3g l rec p i out all g).1.length<=out.length+i+1
  | 0,out,all,g=>by simp [z3g]
  | i+1,out,all,g=>by
    unfold z3g
    split
    ·simp
    simp only
    split
    ·simp
    have:=zw7 l rec p i (out++[(gAny l rec all p g).1]) (all++(gAny l rec all p g).1.outs) (gAny l rec all p g).2
    simp only [List.length_append,List.length_cons,List.length_nil] at this
    omega
theorem zq4 (l:List UInt8) (d:Nat) (seen:List Int) (p:Plc) (g:Gn):(z2y l d seen p g).1.length<=6:=by
  rw [z5s]
  have h6:(z07 l 6 g).1<6:=z1y oM0
  have:=zw7 l (gRec l d) p (z07 l 6 g).1 [] seen (z07 l 6 g).2
  simp only [List.length_nil] at this
  omega
theorem ya8 (l:List UInt8) (name:ByteArray) (params:List Int) (g:Gn) (hp:params.length<=10) (hg:g.pos<=100):(z2s l name params g).2.pos<=2000:=by
  have hS:=(z24 params { g with types:=[],left:=30 }).1
  have hb:=(z7o l 3 ((z0n params { g with types:=[],left:=30 }).1++[(z0b 1 (z0n params { g with types:=[],left:=30 }).2).1,(z0b 2 (z0b 1 (z0n params { g with types:=[],left:=30 }).2).2).1]) plc0 (z0b 2 (z0b 1 (z0n params { g with types:=[],left:=30 }).2).2).2 ⟨by simp [plc0],by simp [plc0],by simp [plc0]⟩).ps
  have h1:(z0b 2 (z0b 1 (z0n params { g with types:=[],left:=30 }).2).2).2.pos=g.pos:=by rw [hS];rfl
  have h2:(z0b 2 (z0b 1 (z0n params { g with types:=[],left:=30 }).2).2).2.left=30:=by rw [hS];rfl
  rw [h1,h2] at hb
  show (z2y l 3 _ plc0 _).2.pos<=2000
  omega
end
section
section
variable (l:List UInt8)
theorem y78 (kind op n:Int) (name:ByteArray) (seen ins outs:List Int) (g:Gn):wtN (z3s l kind op n name seen ins outs g).1=ins.length+outs.length+name.size:=by
  rw [wtN_eq]
  show (z1l l seen ins g).1.length+(z0n outs _).1.length+0+name.size+0=_
  rw [(z1j l seen ins g).2,(z24 outs _).2]
  omega
theorem yn3 (seen:List Int) (g:Gn):wtN (z1m l seen g).1<=4:=by
  unfold z1m
  simp only
  have hn:z0p.size=0:=rfl
  have ha:z7m.size=1:=rfl
  have hf:z3r.size=1:=rfl
  repeat' split
  all_goals (rw [y78];simp only [List.length_cons,List.length_nil,hn,ha,hf];omega)
theorem wt_end (seen:List Int) (p:Plc) (hp:p.small) (g:Gn):wtN (gEnd l seen p g).1<=2:=by
  obtain ⟨h1,h2,h3⟩:=hp
  unfold gEnd
  simp only
  have hn:z0p.size=0:=rfl
  repeat' split
  all_goals (rw [y78];simp only [List.length_cons,List.length_nil,hn];omega)
def y97 (N:Nat) (rec:GRec):Prop:=∀ seen p g,p.small->wtL (rec seen p g).1<=N/\(rec seen p g).1.length<=6
theorem yn2 (x:List Int->Nd) (t:List Int) (ht:t.length<=2) (g:Gn) (N:Nat) (hx:∀ o,wtN (x o)=o.length+N):wtN (z76 x t g).1<=N+2:=by
  unfold z76
  split
  ·rw [hx];simp
  rw [hx,(z24 t g).2];omega
theorem wt_if {N:Nat} {rec:GRec} (hr:y97 N rec) (all:List Int) (p:Plc) (hp:p.small) (g:Gn):wtN (gIf l rec all p g).1<=2*N+20:=by
  unfold gIf
  simp only
  obtain ⟨_,h2⟩:=z3q l g
  have hsm:Plc.small ⟨true,p.Loop,(z0q l g).1,p.Next,p.Left⟩:=⟨h2,hp.2.1,hp.2.2⟩
  refine Nat.le_trans (yn2 _ _ h2 _ (1+(1+((rec all ⟨true,p.Loop,(z0q l g).1,p.Next,p.Left⟩ (z1l l all [2] (z0q l g).2).2).1.length+wtL (rec all ⟨true,p.Loop,(z0q l g).1,p.Next,p.Left⟩ (z1l l all [2] (z0q l g).2).2).1)+(1+((rec all ⟨true,p.Loop,(z0q l g).1,p.Next,p.Left⟩ (rec all ⟨true,p.Loop,(z0q l g).1,p.Next,p.Left⟩ (z1l l all [2] (z0q l g).2).2).2).1.length+wtL (rec all ⟨true,p.Loop,(z0q l g).1,p.Next,p.Left⟩ (rec all ⟨true,p.Loop,(z0q l g).1,p.Next,p.Left⟩ (z1l l all [2] (z0q l g).2).2).2).1)))) fun o=>?_) ?_
  ·simp only [wtN,wtK,(z1j l all [2] (z0q l g).2).2,show z0p.size=0 from rfl,List.length_cons,List.length_nil]
   omega
  have h3:=hr all _ (z1l l all [2] (z0q l g).2).2 hsm
  have h4:=hr all _ (rec all ⟨true,p.Loop,(z0q l g).1,p.Next,p.Left⟩ (z1l l all [2] (z0q l g).2).2).2 hsm
  omega
theorem wt_loop {N:Nat} {rec:GRec} (hr:y97 N rec) (all:List Int) (g:Gn):wtN (z8t l rec all g).1<=2*N+20:=by
  unfold z8t
  simp only
  obtain ⟨_,h2⟩:=z3q l g
  obtain ⟨_,h4⟩:=z3q l (z0q l g).2
  generalize hA:z1l l all (z0q l g).1 (z0q l (z0q l g).2).2=A
  have hAl:A.1.length<=2:=by rw [<- hA,(z1j l all _ _).2];exact h2
  generalize hQ:z0n (z0q l g).1 A.2=Q
  have hQl:Q.1.length<=2:=by rw [<- hQ,(z24 _ _).2];exact h2
  have h5:=hr (all++Q.1) ⟨false,true,[],(z0q l g).1,(z0q l (z0q l g).2).1⟩ Q.2 ⟨by simp,h2,h4⟩
  generalize hB:rec (all++Q.1) ⟨false,true,[],(z0q l g).1,(z0q l (z0q l g).2).1⟩ Q.2=B at h5
  refine Nat.le_trans (yn2 _ _ h4 _ (A.1.length+Q.1.length+(1+(B.1.length+wtL B.1))) fun o=>?_) ?_
  ·simp only [wtN,wtK,show z0p.size=0 from rfl]
   omega
  omega
theorem wt_any {N:Nat} {rec:Option GRec} (hr:∀ r,rec=some r->y97 N r) (all:List Int) (p:Plc) (hp:p.small) (g:Gn):wtN (gAny l rec all p g).1<=2*N+20:=by
  have hs:=yn3 l all { g with left:=g.left - 1 }
  unfold gAny
  simp only
  cases rec with
  | none=>exact Nat.le_trans hs oM0
  | some r =>
    simp only
    split
    ·exact wt_if l (hr r rfl) all p hp _
    split
    ·exact wt_loop l (hr r rfl) all _
    exact Nat.le_trans hs oM0
theorem y1e {N:Nat} {rec:Option GRec} (hr:∀ r,rec=some r->y97 N r) (p:Plc) (hp:p.small):∀ (i:Nat) (out:List Nd) (all:List Int) (g:Gn),wtL (z3g l rec p i out all g).1<=wtL out+(i+1)*(2*N+20)
  | 0,out,all,g=>by
    have:=wt_end l all p hp g
    simp only [z3g,zd3,wtL]
    omega
  | i+1,out,all,g=>by
    have he:=wt_end l all p hp g
    have hx:=wt_any l hr all p hp g
    have e:(i+1+1)*(2*N+20)=(i+1)*(2*N+20)+(2*N+20):=Nat.succ_mul _ _
    unfold z3g
    split
    ·simp only [zd3,wtL];omega
    simp only
    split
    ·simp only [zd3,wtL];omega
    have:=y1e hr p hp i (out++[(gAny l rec all p g).1]) (all++(gAny l rec all p g).1.outs) (gAny l rec all p g).2
    simp only [zd3,wtL] at this ⊢
    omega
def zv3:Nat->Nat
  | 0=>120
  | d+1=>6*(2*zv3 d+20)
theorem y93 (d:Nat):zv3 (d+1)=6*(2*zv3 d+20):=rfl
theorem wt_gList (d:Nat):y97 (zv3 d) (z2y l d):=by
  induction d with
  | zero =>
    intro seen p g hp
    refine ⟨?_,zq4 l 0 seen p g⟩
    have h6:(z07 l 6 g).1<6:=z1y oM0
    have:=y1e l (N:=0) (rec:=none) (fun r h=>by cases h) p hp (z07 l 6 g).1 [] seen (z07 l 6 g).2
    rw [z5s]
    show wtL (z3g l none p (z07 l 6 g).1 [] seen (z07 l 6 g).2).1<=zv3 0
    generalize wtL (z3g l none p (z07 l 6 g).1 [] seen (z07 l 6 g).2).1=z at this
    generalize (z07 l 6 g).1=k at *
    have e:zv3 0=120:=rfl
    simp only [wtL,Nat.zero_add,Nat.mul_zero] at this
    rw [e]
    omega
  | succ d ih =>
    intro seen p g hp
    refine ⟨?_,zq4 l (d+1) seen p g⟩
    have h6:(z07 l 6 g).1<6:=z1y oM0
    have:=y1e l (N:=zv3 d) (rec:=some (z2y l d)) (fun r h=>by cases h;exact ih) p hp (z07 l 6 g).1 [] seen (z07 l 6 g).2
    rw [z5s]
    rw [show gRec l (d+1)=some (z2y l d) from rfl,y93]
    generalize wtL (z3g l (some (z2y l d)) p (z07 l 6 g).1 [] seen (z07 l 6 g).2).1=z at this
    generalize (z07 l 6 g).1=k at *
    generalize zv3 d=m at *
    have h7:(k+1)*(2*m+20)<=6*(2*m+20):=Nat.mul_le_mul_right _ oM0
    simp only [wtL,Nat.zero_add] at this
    exact Nat.le_trans this h7
theorem zd4 (name:ByteArray) (params:List Int) (hp:params.length<=10) (g:Gn):(z2s l name params g).1.types.length<=1000/\z4a (z2s l name params g).1.body<=1000000:=by
  have hs:plc0.small:=⟨by simp [plc0],by simp [plc0],by simp [plc0]⟩
  have hS:=(z24 params { g with types:=[],left:=30 }).1
  generalize hB:(z0b 2 (z0b 1 (z0n params { g with types:=[],left:=30 }).2).2).2=B
  generalize hE:(z0n params { g with types:=[],left:=30 }).1++[(z0b 1 (z0n params { g with types:=[],left:=30 }).2).1,(z0b 2 (z0b 1 (z0n params { g with types:=[],left:=30 }).2).2).1]=E
  have h1:B.types.length=params.length+2:=by rw [<- hB,hS];simp [z0b]
  have h2:B.left=30:=by rw [<- hB,hS];rfl
  have hb:=(z7o l 3 E plc0 B hs).t2
  have hw:=wt_gList l 3 E plc0 B hs
  have e:z2s l name params g=(⟨name,1,params.length,(z2y l 3 E plc0 B).2.types,zq3 (z0b 1 (z0n params { g with types:=[],left:=30 }).2).1 (z0b 2 (z0b 1 (z0n params { g with types:=[],left:=30 }).2).2).1++(z2y l 3 E plc0 B).1⟩,(z2y l 3 E plc0 B).2):=by
    unfold z2s
    simp only [hB,hE]
  rw [e]
  refine ⟨by simp only;omega,?_⟩
  simp only [z4a,List.length_append,zd3]
  have h3:wtL (zq3 (z0b 1 (z0n params { g with types:=[],left:=30 }).2).1 (z0b 2 (z0b 1 (z0n params { g with types:=[],left:=30 }).2).2).1)=2:=rfl
  have h4:(zq3 (z0b 1 (z0n params { g with types:=[],left:=30 }).2).1 (z0b 2 (z0b 1 (z0n params { g with types:=[],left:=30 }).2).2).1).length=2:=rfl
  have h5:zv3 3<=500000:=by simp only [zv3];omega
  omega
theorem wt_made:z0s (made l)<=536870912:=by
  have h1:=zd4 l z0d [] sI0 ⟨0,[],0⟩
  have h2:=zd4 l z3r [1,2] sI0 (z2s l z0d [] ⟨0,[],0⟩).2
  have e1:(z2s l z0d [] ⟨0,[],0⟩).1.name.size=4:=rfl
  have e2:(z2s l z3r [1,2] (z2s l z0d [] ⟨0,[],0⟩).2).1.name.size=1:=rfl
  have e3:z7m.size=1:=rfl
  simp only [z0s,made,wtA,wtF,List.length_cons,List.length_nil,e1,e2,e3]
  omega
end
end
theorem iota_mem {n:Nat} {v:Int} (h:v∈iota n):0<=v/\v<n:=by
  simp only [iota,List.mem_map,List.mem_range] at h
  obtain ⟨i,hi,rfl⟩:=h
  omega
theorem made_sz (l:List UInt8):uSz (made l).flows<=4000000:=by
  have h1:=(zd4 l z0d [] sI0 ⟨0,[],0⟩).2
  have h2:=(zd4 l z3r [1,2] sI0 (z2s l z0d [] ⟨0,[],0⟩).2).2
  refine Nat.le_trans (uSz_W _) ?_
  simp only [made,wtF]
  have e1:(z2s l z0d [] ⟨0,[],0⟩).1.name.size=4:=rfl
  have e2:(z2s l z3r [1,2] (z2s l z0d [] ⟨0,[],0⟩).2).1.name.size=1:=rfl
  have t1:=(zd4 l z0d [] sI0 ⟨0,[],0⟩).1
  have t2:=(zd4 l z3r [1,2] sI0 (z2s l z0d [] ⟨0,[],0⟩).2).1
  omega
section
def Px (g g':Gn):Prop:=∃ q,g'.types=g.types++q
theorem Px.refl (g:Gn):Px g g:=⟨[],by simp⟩
theorem Px.trans {a b c:Gn} (h:Px a b) (h':Px b c):Px a c:=by
  obtain ⟨q,e⟩:=h
  obtain ⟨r,e'⟩:=h'
  exact ⟨q++r,by rw [e',e,List.append_assoc]⟩
theorem Px.len {a b:Gn} (h:Px a b):a.types.length<=b.types.length:=by obtain ⟨q,e⟩:=h;rw [e];simp
section
variable (l:List UInt8)
theorem zj2 (n:Nat) (g:Gn):Px g (z07 l n g).2:=⟨[],by simp [z07]⟩
theorem zr7 (seen ts:List Int) (g:Gn):Px g (z1l l seen ts g).2:=⟨[],by rw [(z1j l seen ts g).1];simp⟩
theorem z80 (ts:List Int) (g:Gn):Px g (z0n ts g).2:=⟨ts,by rw [(z24 ts g).1]⟩
theorem y0n (g:Gn):Px g (z0q l g).2:=⟨[],by rw [(z4p l g).1];simp⟩
theorem y4r (kind op n:Int) (name:ByteArray) (seen ins outs:List Int) (g:Gn):Px g (z3s l kind op n name seen ins outs g).2:=(zr7 l seen ins g).trans (z80 outs _)
theorem zr8 (seen:List Int) (g:Gn):Px g (z1m l seen g).2:=by
  unfold z1m
  have h0:=zj2 l 12 g
  simp only
  repeat' split
  all_goals first
  | exact h0.trans ((zj2 l _ _).trans (y4r l _ _ _ _ _ _ _ _))
  | exact h0.trans (y4r l _ _ _ _ _ _ _ _)
theorem px_end (seen:List Int) (p:Plc) (g:Gn):Px g (gEnd l seen p g).2:=by
  unfold gEnd
  have h0:=zj2 l 6 g
  simp only
  repeat' split
  all_goals exact h0.trans (y4r l _ _ _ _ _ _ _ _)
def zh0 (rec:GRec):Prop:=∀ seen p g,Px g (rec seen p g).2
theorem y0m (x:List Int->Nd) (t:List Int) (g:Gn):Px g (z76 x t g).2:=by
  unfold z76
  split
  ·exact .refl _
  exact z80 t g
theorem px_if {rec:GRec} (hr:zh0 rec) (all:List Int) (p:Plc) (g:Gn):Px g (gIf l rec all p g).2:=by
  unfold gIf
  exact (y0n l g).trans ((zr7 l _ _ _).trans ((hr _ _ _).trans ((hr _ _ _).trans (y0m _ _ _))))
theorem px_loop {rec:GRec} (hr:zh0 rec) (all:List Int) (g:Gn):Px g (z8t l rec all g).2:=by
  unfold z8t
  exact (y0n l g).trans ((y0n l _).trans ((zr7 l _ _ _).trans ((z80 _ _).trans ((hr _ _ _).trans (y0m _ _ _)))))
theorem y6p {rec:Option GRec} (hr:∀ r,rec=some r->zh0 r) (all:List Int) (p:Plc) (g:Gn):Px g (gAny l rec all p g).2:=by
  have h0:Px g { g with left:=g.left - 1 }:=⟨[],by simp⟩
  have hs:=h0.trans ((zr8 l all { g with left:=g.left - 1 }).trans (zj2 l 6 _))
  unfold gAny
  simp only
  cases rec with
  | none=>exact hs
  | some r =>
    simp only
    split
    ·exact hs.trans (px_if l (hr r rfl) all p _)
    split
    ·exact hs.trans (px_loop l (hr r rfl) all _)
    exact hs
def z4z (rec:Option GRec) (p:Plc):Nat->List Int->Gn->List Nd × Gn
  | 0,all,g=>([(gEnd l all p g).1],(gEnd l all p g).2)
  | i+1,all,g =>
    if g.left=0 then ([(gEnd l all p g).1],(gEnd l all p g).2)
    else if z01 (gAny l rec all p g).1 then ([(gAny l rec all p g).1],(gAny l rec all p g).2)
      else ((gAny l rec all p g).1::(z4z rec p i (all++(gAny l rec all p g).1.outs) (gAny l rec all p g).2).1,(z4z rec p i (all++(gAny l rec all p g).1.outs) (gAny l rec all p g).2).2)
theorem z51 (rec:Option GRec) (p:Plc):∀ (i:Nat) (out:List Nd) (all:List Int) (g:Gn),z3g l rec p i out all g=(out++(z4z l rec p i all g).1,(z4z l rec p i all g).2)
  | 0,out,all,g=>rfl
  | i+1,out,all,g=>by
    unfold z3g z4z
    split
    ·rfl
    simp only
    split
    ·rfl
    rw [z51 rec p i];simp
theorem y01 (rec:Option GRec) (p:Plc):∀ (i:Nat) (all:List Int) (g:Gn),(z4z l rec p i all g).1≠[]
  | 0,all,g=>by simp [z4z]
  | i+1,all,g=>by
    unfold z4z
    repeat' split
    all_goals simp
theorem zr9 {rec:Option GRec} (hr:∀ r,rec=some r->zh0 r) (p:Plc):∀ (i:Nat) (all:List Int) (g:Gn),Px g (z4z l rec p i all g).2
  | 0,all,g=>px_end l all p g
  | i+1,all,g=>by
    unfold z4z
    split
    ·exact px_end l all p g
    split
    ·exact y6p l hr all p g
    exact (y6p l hr all p g).trans (zr9 hr p i _ _)
theorem y0l (d:Nat):zh0 (z2y l d):=by
  induction d with
  | zero =>
    intro seen p g
    rw [z5s,z51]
    exact (zj2 l 6 g).trans (zr9 l (fun r h=>by cases h) p _ _ _)
  | succ d ih =>
    intro seen p g
    rw [z5s,z51]
    exact (zj2 l 6 g).trans (zr9 l (fun r h=>by cases h;exact ih) p _ _ _)
theorem z60 (d:Nat) (seen:List Int) (p:Plc) (g:Gn):z2y l d seen p g=z4z l (gRec l d) p (z07 l 6 g).1 seen (z07 l 6 g).2:=by
  rw [z5s,z51];simp
def Fresh (a b:Nat) (ds:List Int):Prop:=ds.Nodup/\∀ v∈ds,(a:Int)<=v/\v<(b:Int)
theorem Fresh.nil (a b:Nat):Fresh a b []:=⟨List.nodup_nil,fun _ h=>by simp at h⟩
theorem Fresh.app {a b b' c:Nat} {x y:List Int} (h:Fresh a b x) (h':Fresh b' c y) (hb:b<=b') (ha:a<=b') (hc:b<=c):Fresh a c (x++y):=by
  refine ⟨List.nodup_append.2 ⟨h.1,h'.1,fun u hu v hv e=>?_⟩,fun v hv=>?_⟩
  ·have h1:=h.2 u hu
   have h2:=h'.2 v hv
   omega
  rcases List.mem_append.1 hv with hv | hv
  ·have:=h.2 v hv;omega
  have:=h'.2 v hv;omega
theorem Fresh.mono {a b a' b':Nat} {x:List Int} (h:Fresh a b x) (ha:a'<=a) (hb:b<=b'):Fresh a' b' x:=⟨h.1,fun v hv=>by have:=h.2 v hv;omega⟩
theorem z9i:∀ (ts:List Int) (g:Gn),Fresh g.types.length (z0n ts g).2.types.length (z0n ts g).1
  | [],g=>.nil _ _
  | t::r,g=>by
    have ih:=z9i r (z0b t g).2
    have h1:Fresh g.types.length (g.types.length+1) [(z0b t g).1]:=⟨by simp,fun v hv=>by
      rw [List.mem_singleton.1 hv];simp only [z0b];omega⟩
    have e:(z0b t g).2.types.length=g.types.length+1:=by simp [z0b]
    have hl:=(z80 r (z0b t g).2).len
    rw [e] at ih hl
    exact h1.app ih (Nat.le_refl _) oM0 hl
theorem zw5 (kind op n:Int) (name:ByteArray) (seen ins outs:List Int) (g:Gn):Fresh g.types.length (z3s l kind op n name seen ins outs g).2.types.length (dN (z3s l kind op n name seen ins outs g).1):=by
  have h:=z9i outs (z1l l seen ins g).2
  have e:(z1l l seen ins g).2.types=g.types:=by rw [(z1j l seen ins g).1]
  rw [e] at h
  simpa [z3s,zz8,Nd.params,Nd.kids,Nd.outs,dK] using h
theorem y1z (seen:List Int) (g:Gn):Fresh g.types.length (z1m l seen g).2.types.length (dN (z1m l seen g).1):=by
  have N:=fun kind op n name ins outs g'=>zw5 l kind op n name seen ins outs g'
  unfold z1m
  simp only
  repeat' split
  all_goals exact N _ _ _ _ _ _ _
theorem y1y (seen:List Int) (p:Plc) (g:Gn):Fresh g.types.length (gEnd l seen p g).2.types.length (dN (gEnd l seen p g).1):=by
  have N:=fun kind op n name ins outs g'=>zw5 l kind op n name seen ins outs g'
  unfold gEnd
  simp only
  repeat' split
  all_goals exact N _ _ _ _ _ _ _
def y94 (rec:GRec):Prop:=∀ seen p g,Fresh g.types.length (rec seen p g).2.types.length (dL (rec seen p g).1)
theorem zw6 (x:List Int->Nd) (D:List Int) (a:Nat) (hx:∀ o,dN (x o)=D++o) (t:List Int) (g:Gn) (hD:Fresh a g.types.length D) (ha:a<=g.types.length):Fresh a (z76 x t g).2.types.length (dN (z76 x t g).1):=by
  unfold z76
  split
  ·rw [hx,List.append_nil];exact hD
  rw [hx];exact hD.app (z9i t g) (Nat.le_refl _) ha (z80 t g).len
theorem fresh_if {rec:GRec} (hr:y94 rec) (hp:zh0 rec) (all:List Int) (p:Plc) (g:Gn):Fresh g.types.length (gIf l rec all p g).2.types.length (dN (gIf l rec all p g).1):=by
  unfold gIf
  simp only
  generalize hT:z0q l g=T
  generalize hC:z1l l all [2] T.2=C
  have eT:T.2.types=g.types:=by rw [<- hT,(z4p l g).1]
  have eC:C.2.types=g.types:=by rw [<- hC,(z1j l all [2] T.2).1];exact eT
  have hA:=hr all ⟨true,p.Loop,T.1,p.Next,p.Left⟩ C.2
  have pA:=(hp all ⟨true,p.Loop,T.1,p.Next,p.Left⟩ C.2).len
  generalize rec all ⟨true,p.Loop,T.1,p.Next,p.Left⟩ C.2=A at *
  have hB:=hr all ⟨true,p.Loop,T.1,p.Next,p.Left⟩ A.2
  have pB:=(hp all ⟨true,p.Loop,T.1,p.Next,p.Left⟩ A.2).len
  generalize rec all ⟨true,p.Loop,T.1,p.Next,p.Left⟩ A.2=B at *
  rw [eC] at hA pA
  refine zw6 _ (dL A.1++dL B.1) g.types.length (fun o=>by simp [dN,dK]) T.1 B.2 (hA.app hB (Nat.le_refl _) pA pB) oM0
theorem y7j {rec:GRec} (hr:y94 rec) (hp:zh0 rec) (all:List Int) (g:Gn):Fresh g.types.length (z8t l rec all g).2.types.length (dN (z8t l rec all g).1):=by
  unfold z8t
  simp only
  generalize hT:z0q l g=T
  generalize hO:z0q l T.2=O
  generalize hA:z1l l all T.1 O.2=A
  have eT:T.2.types=g.types:=by rw [<- hT,(z4p l g).1]
  have eO:O.2.types=g.types:=by rw [<- hO,(z4p l T.2).1];exact eT
  have eA:A.2.types=g.types:=by rw [<- hA,(z1j l all T.1 O.2).1];exact eO
  have hQ:=z9i T.1 A.2
  have pQ:=(z80 T.1 A.2).len
  generalize z0n T.1 A.2=Q at *
  have hB:=hr (all++Q.1) ⟨false,true,[],T.1,O.1⟩ Q.2
  have pB:=(hp (all++Q.1) ⟨false,true,[],T.1,O.1⟩ Q.2).len
  generalize rec (all++Q.1) ⟨false,true,[],T.1,O.1⟩ Q.2=B at *
  rw [eA] at hQ pQ
  refine zw6 _ (Q.1++dL B.1) g.types.length (fun o=>by simp [dN,dK]) O.1 B.2 (hQ.app hB (Nat.le_refl _) pQ pB) oM0
theorem ya7 {rec:Option GRec} (hr:∀ r,rec=some r->y94 r/\zh0 r) (all:List Int) (p:Plc) (g:Gn):Fresh g.types.length (gAny l rec all p g).2.types.length (dN (gAny l rec all p g).1):=by
  have hs:=y1z l all { g with left:=g.left - 1 }
  have ps:=(zr8 l all { g with left:=g.left - 1 }).len
  unfold gAny
  simp only
  cases rec with
  | none=>exact hs
  | some r =>
    simp only
    split
    ·exact (fresh_if l (hr r rfl).1 (hr r rfl).2 all p _).mono ps (Nat.le_refl _)
    split
    ·exact (y7j l (hr r rfl).1 (hr r rfl).2 all _).mono ps (Nat.le_refl _)
    exact hs
theorem zh8 {rec:Option GRec} (hr:∀ r,rec=some r->y94 r/\zh0 r) (p:Plc):∀ (i:Nat) (all:List Int) (g:Gn),Fresh g.types.length (z4z l rec p i all g).2.types.length (dL (z4z l rec p i all g).1)
  | 0,all,g=>by
    have:=y1y l all p g
    simpa [z4z,dL] using this
  | i+1,all,g=>by
    have he:=y1y l all p g
    have hx:=ya7 l hr all p g
    have px:=(y6p l (fun r h=>(hr r h).2) all p g).len
    unfold z4z
    split
    ·simpa [dL] using he
    split
    ·simpa [dL] using hx
    have ih:=zh8 hr p i (all++(gAny l rec all p g).1.outs) (gAny l rec all p g).2
    have pt:=(zr9 l (fun r h=>(hr r h).2) p i (all++(gAny l rec all p g).1.outs) (gAny l rec all p g).2).len
    simp only [dL]
    exact hx.app ih (Nat.le_refl _) px pt
theorem y7i (d:Nat):y94 (z2y l d):=by
  induction d with
  | zero =>
    intro seen p g
    rw [z60]
    exact zh8 l (fun r h=>by cases h) p (z07 l 6 g).1 seen (z07 l 6 g).2
  | succ d ih =>
    intro seen p g
    rw [z60]
    exact zh8 l (fun r h=>by cases h;exact ⟨ih,y0l l d⟩) p (z07 l 6 g).1 seen (z07 l 6 g).2
end
end
section
theorem else_s (u:Un) (f:Fl) (x:Nd) (hK:stK x.kind=false) (h10:x.kind≠10) (h11:x.kind≠11):SNd u f x:=by
  intro deep w all all' tb to nw hto hi hv hn r R' t0 S0 S1 tb0 tb1 y lv he hl0 hl1 h12 hlv hL hC
  have hb:=z29 u f deep _ all hv
  have e10:(x.kind==10)=false:=by simpa using h10
  have e11:(x.kind==11)=false:=by simpa using h11
  have hk0:x.kids=[]:=z50 hb e10 e11
  have e2:(z0g tb to x.kids).2=to:=by rw [hk0];simp [z0g]
  rw [z17 u f deep w all hb e10 e11] at hv
  obtain ⟨a1,ho1,a3,a4,a5⟩:=z89 hv
  rw [z56 tb to x hK,e2] at hL ⊢
  show LRel 0 0 (IS to all tb) (x::r) [] (z0j tb to x::R') _
  have mo:∀ v∈x.outs,v∈dN x:=fun v h=>by rw [zz8];simp [h]
  have cl:z01 x=z0u x.kind:=by unfold z01;rw [e10,e11];rfl
  have hXa:(z0j tb to x).args=x.args.map (z0x to):=rfl
  have hof:∀ {a b q:List Int},IS to all tb a b->mOf a x.args=some q->mOf b (z0j tb to x).args=some q:=fun {a b q} hI g=>by rw [hXa,hI.1.mof a1];exact g
  by_cases hE:12<=x.kind
  ·have hle:=a5 hE
   have ce:z01 x=true:=by
     rw [cl]
     rcases (show x.kind=12∨x.kind=13∨x.kind=14∨x.kind=15 by omega) with e | e | e | e<;>rw [e]<;>rfl
   obtain ⟨rfl,rfl⟩:=hC ce
   refine .ender hE hle rfl (.inl rfl) fun a b q q' hI g g'=>?_
   have h64:=hI.2.1.of (hof hI g)
   rw [hof hI g] at g'
   cases g'
   refine ⟨h64,rfl,?_⟩
   rcases (show x.kind=12∨x.kind=13∨x.kind=14∨x.kind=15 by omega) with e | e | e | e
   ·exact .inl ⟨e,h12 e,hI.to he.s0 hl0⟩
   ·exact .inr (.inl ⟨e,hI.to he.s1 hl1⟩)
   ·exact .inr (.inr (.inl ⟨e,hlv (by rw [z2n,e];rfl),hI.to he.s1 hl1⟩))
   exact .inr (.inr (.inr e))
  have ce:z01 x=false:=by
    rw [cl]
    simp [z0u];omega
  simp only [stK,Bool.or_eq_false_iff,beq_eq_false_iff_ne] at hK
  refine .eff (J:=IS to (all++x.outs) tb) oM0 rfl rfl rfl rfl (fun a b p hI g=>hI.2.1.of (hof hI g)) (fun a b p p' hI g g'=>?_) (fun a b p a2 b2 z hI g hz htw s1 s2=>?_) (hL ce)
  ·rw [hof hI g] at g';exact (Option.some.inj g').symm
  exact hI.seto hz ho1 s1 s2 (fun v hv hm=>nw.stv v hv _ (mo _ hm) rfl) (fun v hv=>nw.ft v (mo v hv)) hi fun v hv hm=>nw.fb v (mo v hm) hv
theorem restS {J:VR} {r:List Nd} {R':List Nd} {E:ER} {x:Nd} (hL:z01 x=false->LRel 0 0 J r [] R' E):LRel 0 0 (fun a b=>z01 x=false/\J a b) r [] R' E:=by
  cases hc:z01 x with
  | true=>exact .dead fun _ _ h=>by cases h.1
  | false=>exact .weak (fun _ _ h=>h.2) (hL hc)
theorem if_s (u:Un) (f:Fl) (x:Nd) (ih:∀ q∈x.kids,SA u f q) (h10:x.kind=10):SNd u f x:=by
  intro deep w all all' tb to nw hto hi hv hn r R' t0 S0 S1 tb0 tb1 y lv he hl0 hl1 h12 hlv hL hC
  have hok:=z3p u f x deep w all hv
  have hb:=z29 u f deep _ all hv
  obtain ⟨a,b,hk⟩:=z2x hb h10
  rw [z4x u f deep w all hb h10 hk] at hv
  simp only [Bool.and_eq_true] at hv
  rw [z9w,hk] at hok
  simp only [zk2,Bool.and_true,Bool.and_eq_true] at hok
  rw [yd2,hk] at hn
  simp only [nIK,Bool.and_true,Bool.and_eq_true] at hn
  have hdn:dN x=dL a++(dL b++x.outs):=dN_if hb h10 hk
  have hva:=hv.1.1.1.2
  have hvb:=hv.1.1.2
  simp only [z36,Bool.and_eq_true] at hva hvb
  have hna:a≠[]:=by intro e;subst e;simp at hva
  have hnb:b≠[]:=by intro e;subst e;simp at hvb
  obtain ⟨n1,n2,n3⟩:=List.nodup_append.1 (hdn ▸ nw.nd)
  obtain ⟨n4,n5,n6⟩:=List.nodup_append.1 n2
  have ma:∀ v∈dL a,v∈dN x:=fun v h=>by rw [hdn];simp [h]
  have mb:∀ v∈dL b,v∈dN x:=fun v h=>by rw [hdn];simp [h]
  have mo:∀ v∈x.outs,v∈dN x:=fun v h=>by rw [hdn];simp [h]
  have nwa:=nw.sub n1 ma
  have pa:=z55 a tb to hok.2.1
  have k1:∀ v∈all,aGet v (z0e tb to a).2.2=aGet v to:=fun v hv'=>pa v fun hm=>nw.na (ma v hm) hv'
  have nwb:New f (dL b) all all' (z0e tb to a).2.2:=(nw.sub n4 mb).to k1 fun v hm=>pa v fun h=>n3 v h v (by simp [hm]) rfl
  have pb:=z55 b tb (z0e tb to a).2.2 hok.2.2
  have k3:∀ v∈all,z0x (z0e tb (z0e tb to a).2.2 b).2.2 v=z0x to v:=fun v hv'=>z8b ((pb v fun hm=>nw.na (mb v hm) hv').trans (k1 v hv'))
  have hse:=z22 hv.1.1.1.1
  have hK2:stK x.kind=false:=by rw [h10];rfl
  have ekk:z0g tb to x.kids=([(z0e tb to a).1,(z0e tb (z0e tb to a).2.2 b).1],(z0e tb (z0e tb to a).2.2 b).2.2):=by rw [hk];simp [z0g]
  rw [z56 tb to x hK2,ekk] at hL ⊢
  have hkn:(z0j tb to x).kids=[(z0e tb to a).1,(z0e tb (z0e tb to a).2.2 b).1]:=by show (z0g tb to x.kids).1=_;rw [ekk]
  show LRel 0 0 (IS to all tb) (x::r) [] (z0j tb to x::R') _
  have hcx:z01 x=(z1o a != 12&&z1o b != 12):=by unfold z01;rw [h10,hk];rfl
  have hy:∀ q,(q=a∨q=b)->z1o q=12->(!z01 x)=true:=fun q hq e=>by
    rw [hcx]
    rcases hq with rfl | rfl<;>rw [e]<;>simp
  have hlq:∀ q,(q=a∨q=b)->z0l q=true->z1f x=true:=fun q hq e=>by
    rw [z2n,h10,hk]
    rcases hq with rfl | rfl<;>simp [z2b,e]
  refine .ite (J:=fun a' b'=>z01 x=false/\IS (z0e tb (z0e tb to a).2.2 b).2.2 (all++x.outs) tb a' b') (E2:=SE to all S1 tb tb1 (!z01 x) (z1f x)) h10 h10 hk hkn (fun a b p p' hI g g'=>?_) ?_ ?_ (fun n p p' a' b' he2=>?_) (restS hL)
  ·have e:=hI.1.mof hse
   rw [g] at e
   have e2:mOf b (x.args.map (z0x to))=some p':=g'
   rw [e] at e2
   rw [Option.some.inj e2]
  ·exact ih a (by rw [hk];simp) (deep+1) (w1 w f x) all all' tb to hna nwa hto hi hva.2 hn.2.1 to all S1 tb tb1 _ _ ⟨fun v hv=>⟨hv,rfl⟩,fun v hv=>⟨(he.s1 v hv).1,rfl⟩⟩ (.refl _) hl1 (hy a (.inl rfl)) (hlq a (.inl rfl))
  ·exact .weak (fun a' b' hI=>hI.to (fun v hv=>⟨hv,(z8b (k1 v hv)).symm⟩) (.refl _)) (ih b (by rw [hk];simp) (deep+1) (w1 w f x) all all' tb _ hnb nwb hto hi hvb.2 hn.2.2 to all S1 tb tb1 _ _ ⟨fun v hv=>⟨hv,z8b (k1 v hv)⟩,fun v hv=>⟨(he.s1 v hv).1,z8b (k1 v (he.s1 v hv).1)⟩⟩ (.refl _) hl1 (hy b (.inr rfl)) (hlq b (.inr rfl)))
  obtain ⟨h64,rfl,he2⟩:=he2
  rcases he2 with ⟨rfl,hy2,hI⟩ | ⟨rfl,hI⟩ | ⟨rfl,hy2,hI⟩ | rfl
  ·refine .inl ⟨rfl,fun a2 b2 g g'=>⟨by simpa using hy2,IS.sets (hI.to (fun v hv=>⟨hv,(k3 v hv).symm⟩) (.refl _)) h64 g g' (fun v hv hm=>?_) (fun v hv=>?_) hi fun v hv hm=>nw.fb v (mo v hm) hv⟩⟩
   ·rw [k3 v hv] at hm
    exact nw.stv v hv _ (mo _ hm) rfl
   rw [pb v fun hm=>n6 v hm v hv rfl,pa v fun hm=>n3 v hm v (by simp [hv]) rfl]
   exact nw.ft v (mo v hv)
  ·exact .inr ⟨by decide,by decide,.inl rfl,h64,rfl,.inr (.inl ⟨rfl,hI.to (fun v hv=>⟨hv,(he.s1 v hv).2⟩) (.refl _)⟩)⟩
  ·exact .inr ⟨by decide,by decide,.inl rfl,h64,rfl,.inr (.inr (.inl ⟨rfl,hlv hy2,hI.to (fun v hv=>⟨hv,(he.s1 v hv).2⟩) (.refl _)⟩))⟩
  exact .inr ⟨by decide,by decide,.inr rfl,h64,rfl,.inr (.inr (.inr rfl))⟩
theorem loop_s (u:Un) (f:Fl) (x:Nd) (ih:∀ q∈x.kids,SA u f q) (h11:x.kind=11):SNd u f x:=by
  intro deep w all all' tb to nw hto hi hv hn r R' t0 S0 S1 tb0 tb1 y lv he hl0 hl1 h12 hlv hL hC
  have hok:=z3p u f x deep w all hv
  have hb:=z29 u f deep _ all hv
  obtain ⟨a,hk⟩:=z1u hb h11
  rw [z37 u f deep w all hb h11 hk] at hv
  simp only [Bool.and_eq_true] at hv
  rw [z9w,hk] at hok
  simp only [zk2,Bool.and_true,Bool.and_eq_true] at hok
  rw [yd2,hk] at hn
  simp only [nIK,Bool.and_true,Bool.and_eq_true] at hn
  have hdn:dN x=x.params++(dL a++x.outs):=y41 hk
  have hva:=hv.1.1.2
  simp only [z36,Bool.and_eq_true] at hva
  have hne:a≠[]:=by intro e;subst e;simp at hva
  obtain ⟨n1,n2,n3⟩:=List.nodup_append.1 (hdn ▸ nw.nd)
  obtain ⟨n4,n5,n6⟩:=List.nodup_append.1 n2
  have mp:∀ v∈x.params,v∈dN x:=fun v h=>by rw [hdn];simp [h]
  have ma:∀ v∈dL a,v∈dN x:=fun v h=>by rw [hdn];simp [h]
  have mo:∀ v∈x.outs,v∈dN x:=fun v h=>by rw [hdn];simp [h]
  have hinp:inR f.types.length x.params:=z2e hv.1.1.1.2
  have hse:=z22 hv.1.1.1.1
  have hda:∀ v∈dL a,(all++x.params).contains v=false:=fun v hm=>by
    rw [List.contains_append,nw.fa v (ma v hm),Bool.false_or,<- Bool.not_eq_true,List.contains_iff_mem]
    exact fun hp=>n3 v hp v (by simp [hm]) rfl
  have hinr:inR f.types.length (all++x.params):=fun v hv=>by
    rcases List.mem_append.1 hv with h | h
    ·exact nw.inr v h
    exact hinp v h
  have pa:=z55 a tb to hok.2
  have hrp:Rel f.types to (all++x.params) (all'++x.params):=nw.rel.outs fun v hv=>nw.ft v (mp v hv)
  have nwa:New f (dL a) (all++x.params) (all'++x.params) to:=⟨n4,hda,fun v hm hh=>by
    rcases List.mem_append.1 hh with h | h
    · exact nw.fb v (ma v hm) h
    · exact n3 v h v (by simp [hm]) rfl,fun v hm=>nw.ft v (ma v hm),hrp,hinr⟩
  have k2:∀ v∈all,z0x (z0e tb to a).2.2 v=z0x to v:=fun v hv=>z8b (pa v fun hm=>nw.na (ma v hm) hv)
  have hK2:stK x.kind=false:=by rw [h11];rfl
  have ekk:z0g tb to x.kids=([(z0e tb to a).1],(z0e tb to a).2.2):=by rw [hk];simp [z0g]
  rw [z56 tb to x hK2,ekk] at hL ⊢
  have hkn:(z0j tb to x).kids=[(z0e tb to a).1]:=by show (z0g tb to x.kids).1=_;rw [ekk]
  show LRel 0 0 (IS to all tb) (x::r) [] (z0j tb to x::R') _
  have hcl:z01 x = !z0l a:=by unfold z01;rw [h11,hk];rfl
  have sp:∀ a b p a2 b2,IS to all tb a b->P64 p->mSet a x.params p=some a2->mSet b x.params p=some b2->IS to (all++x.params) tb a2 b2:=fun a b p a2 b2 hI h64 g g' =>
    hI.sets h64 g g' (fun v hv hm=>nw.stv v hv _ (mp _ hm) rfl) (fun v hv=>nw.ft v (mp v hv)) hi fun v hv hm=>nw.fb v (mp v hm) hv
  refine .loop (I2:=IS to (all++x.params) tb) (J:=fun a' b'=>z01 x=false/\IS (z0e tb to a).2.2 (all++x.outs) tb a' b') (E2:=SE to [] all tb tb false (z0l a)) h11 h11 hk hkn (fun a b p p' a2 b2 hI g g' t t'=>?_) ?_ (fun n p p' a' b' he2=>?_) (restS hL)
  ·have e:=hI.1.mof hse
   rw [g] at e
   have e2:mOf b (x.args.map (z0x to))=some p':=g'
   have h64:=hI.2.1.of e2
   rw [e] at e2
   obtain rfl:=Option.some.inj e2
   exact sp _ _ _ _ _ hI h64 t t'
  ·exact ih a (by rw [hk];simp) (deep+1) (w2 f x) (all++x.params) (all'++x.params) tb to hne nwa (hto.mono _) (hi.mono fun v hv=>List.mem_append_left _ hv) hva.2 hn.2 to [] all tb tb false _ ⟨fun v hv=>by simp at hv,fun v hv=>⟨List.mem_append_left _ hv,rfl⟩⟩ (.refl _) (.refl _) (fun h=>by
     have:=yc7 hva.2 h
     cases this) fun h=>h
  obtain ⟨h64,rfl,he2⟩:=he2
  rcases he2 with ⟨_,hy2,_⟩ | ⟨rfl,hI⟩ | ⟨rfl,hy2,hI⟩ | rfl
  ·cases hy2
  ·exact .inr (.inr ⟨rfl,fun a2 b2 g g'=>sp _ _ _ _ _ hI h64 g g'⟩)
  ·refine .inr (.inl ⟨rfl,fun a2 b2 g g'=>⟨by rw [hcl,hy2];rfl,IS.sets (hI.to (fun v hv=>⟨hv,(k2 v hv).symm⟩) (.refl _)) h64 g g' (fun v hv hm=>?_) (fun v hv=>?_) hi fun v hv hm=>nw.fb v (mo v hm) hv⟩⟩)
   ·rw [k2 v hv] at hm
    exact nw.stv v hv _ (mo _ hm) rfl
   rw [pa v fun hm=>n6 v hm v hv rfl]
   exact nw.ft v (mo v hv)
  exact .inl ⟨rfl,h64,rfl,.inr (.inr (.inr rfl))⟩
theorem node_s (u:Un) (f:Fl) (x:Nd) (ih:∀ q∈x.kids,SA u f q):SNd u f x:=by
  by_cases hK:stK x.kind=true
  ·exact pure_s u f x hK
  have hK2:stK x.kind=false:=by simpa using hK
  by_cases h10:x.kind=10
  ·exact if_s u f x ih h10
  by_cases h11:x.kind=11
  ·exact loop_s u f x ih h11
  exact else_s u f x hK2 h10 h11
theorem y84 {u:Un} {f:Fl} {deep:Int} {w:Wh} {all:List Int} {x:Nd} (h:z4g u f deep w all x=true):inR f.types.length x.outs:=by
  have hb:=z29 u f deep _ all h
  by_cases h10:x.kind=10
  ·obtain ⟨a,b,hk⟩:=z2x hb h10
   rw [z4x u f deep w all hb h10 hk] at h
   simp only [Bool.and_eq_true] at h
   exact z2e h.2
  by_cases h11:x.kind=11
  ·obtain ⟨a,hk⟩:=z1u hb h11
   rw [z37 u f deep w all hb h11 hk] at h
   simp only [Bool.and_eq_true] at h
   exact z2e h.2
  rw [z17 u f deep w all hb (by simpa using h10) (by simpa using h11)] at h
  exact ok_in h
theorem yd7 {u:Un} {f:Fl} {x:Nd} {D:List Int} {deep:Int} {w:Wh} {all all':List Int} {tb:Tb} {to:TT} (nw:New f (dN x++D) all all' to) (hto:TabOk f.types tb all') (hi:TabIn tb all') (hv:z4g u f deep w all x=true) :
    ∃ all2,New f D (all++x.outs) all2 (z02 tb to x).2.2/\TabOk f.types (z02 tb to x).2.1 all2/\TabIn (z02 tb to x).2.1 all2/\TabLe tb (z02 tb to x).2.1:=by
  obtain ⟨n1,n2,n3⟩:=List.nodup_append.1 nw.nd
  have nwx:=nw.sub n1 fun v h=>List.mem_append_left _ h
  have hok:=z3p u f x deep w all hv
  have hkx:=z8a x tb to hok
  have hE:=node_e u f x (fun q _=>ya1 u f _ q (Nat.lt_succ_self _)) deep w all all' tb to n1 nwx.fa nwx.ft nw.rel hto hv
  have mo:∀ v∈x.outs,v∈dN x:=fun v h=>by rw [zz8];simp [h]
  have base:∀ all2,(∀ v∈all2,v∈all'∨v∈x.outs)->Rel f.types (z02 tb to x).2.2 (all++x.outs) all2->New f D (all++x.outs) all2 (z02 tb to x).2.2:=fun all2 h2 hr=>by
    refine ⟨n2,fun v hm=>?_,fun v hm hh=>?_,fun v hm=>(hkx v fun hn=>n3 v hn v hm rfl).trans (nw.ft v (List.mem_append_right _ hm)),hr,fun v hh=>?_⟩
    ·rw [List.contains_append,nw.fa v (List.mem_append_right _ hm),Bool.false_or,<- Bool.not_eq_true,List.contains_iff_mem]
     exact fun ho=>n3 v (mo v ho) v hm rfl
    ·rcases h2 v hh with h | h
     ·exact nw.fb v (List.mem_append_right _ hm) h
     exact n3 v (mo v h) v hm rfl
    rcases List.mem_append.1 hh with h | h
    ·exact nw.inr v h
    exact y84 hv v h
  have ta:TabIn (z02 tb to x).2.1 (all'++(z02 tb to x).1.flatMap Nd.outs)/\TabLe tb (z02 tb to x).2.1:=by
    by_cases hK:stK x.kind=true
    ·have hb:=z29 u f deep _ all hv
     have hkk:x.kind=1∨x.kind=2∨x.kind=3∨x.kind=4:=by simp only [stK,Bool.or_eq_true,beq_iff_eq] at hK;omega
     have e10:(x.kind==10)=false:=by simp;omega
     have e11:(x.kind==11)=false:=by simp;omega
     have hk0:x.kids=[]:=z50 hb e10 e11
     have e2:(z0g tb to x.kids).2=to:=by rw [hk0];simp [z0g]
     have hv2:=hv
     rw [z17 u f deep w all hb e10 e11] at hv2
     obtain ⟨o,ho,_⟩:=zn8 hK hv2
     have a1:=(z89 hv2).1
     have hXo:(z0j tb to x).outs=[o]:=ho
     have hXa:(z0j tb to x).args=x.args.map (z0x to):=rfl
     rw [z9w] at hok
     simp only [Bool.and_eq_true] at hok
     rw [z4w,if_pos hK,e2]
     rcases zy0 (tb:=tb) (to:=to) hXo with ⟨y1,hp,hd⟩ | ⟨hp,hs⟩
     ·rw [hp]
      exact ⟨hi.mono fun v hv=>List.mem_append_left _ hv,.refl _⟩
     rw [hp]
     have hod:o∈dN x:=mo o (by rw [ho];simp)
     refine ⟨?_,kept_le hi (nwx.fb o hod) hs⟩
     have:([z0j tb to x]:List Nd).flatMap Nd.outs=[o]:=by simp [hXo]
     show TabIn (ze4 tb (z0j tb to x) o) (all'++([z0j tb to x]:List Nd).flatMap Nd.outs)
     rw [this]
     refine kept_in hi (y6j nwx a1) (fun h=>?_) fun h=>?_
     ·have h:x.kind=3:=h
      have:=hok.1.1.2
      rw [h] at this
      rw [hXa,List.length_map];simpa using this
     have h:x.kind=4:=h
     have:=hok.1.2
     rw [h] at this
     rw [hXa,List.length_map];simpa using this
    rw [z56 tb to x (by simpa using hK)]
    exact ⟨hi.mono fun v hv=>List.mem_append_left _ hv,.refl _⟩
  rcases hE with ⟨h1,h2,h3,h4⟩ | ⟨z,h1,h2,h3,h4,h5,h6⟩
  ·rw [h1] at ta
   have e:all'++([]:List Nd).flatMap Nd.outs=all':=by simp
   rw [e] at ta
   exact ⟨all',base all' (fun v hv=>.inl hv) h3,h4,ta.1,ta.2⟩
  rw [h1] at ta
  have e:([z]:List Nd).flatMap Nd.outs=x.outs:=by simp [h4]
  rw [e] at ta
  exact ⟨all'++x.outs,base _ (fun v hv=>List.mem_append.1 hv) h5,h6,ta.1,ta.2⟩
theorem go_s (u:Un) (f:Fl):∀ (l:List Nd),(∀ x∈l,SNd u f x)->SA u f l
  | [],_=>fun _ _ _ _ _ _ h=>absurd rfl h
  | x::r,ih=>fun deep w all all' tb to _ nw hto hi hv hn t0 S0 S1 tb0 tb1 y lv he hl0 hl1 h12 hlv=>by
    unfold vGo at hv
    simp only [Bool.and_eq_true,beq_iff_eq] at hv
    simp only [nIL,Bool.and_eq_true] at hn
    simp only [dL] at nw
    obtain ⟨n1,n2,n3⟩:=List.nodup_append.1 nw.nd
    have nwx:=nw.sub n1 fun v h=>List.mem_append_left _ h
    rw [show (z0e tb to (x::r)).1=(z02 tb to x).1++(z0e (z02 tb to x).2.1 (z02 tb to x).2.2 r).1 by rw [z0e]]
    obtain ⟨all2,m1,m2,m3,m4⟩:=yd7 nw hto hi hv.1.1.2
    have hx:=hv.1.1.2
    have hcr:=hv.1.2
    refine ih x (.head _) deep w all all' tb to nwx hto hi hx hn.1 r _ t0 S0 S1 tb0 tb1 y lv he hl0 hl1 (fun e=>?_) (fun e=>hlv (by simp [z0l,e])) (fun hc=>?_) fun hc=>?_
    ·have hc:z01 x=true:=by
       unfold z01;rw [e];rfl
     rw [hc] at hcr
     have:r=[]:=by cases r with | nil=>rfl | cons _ _=>cases hcr
     subst this
     exact h12 (by rw [y6a,e];rfl)
    ·have hne:r≠[]:=by rw [hc] at hcr;intro e;rw [e] at hcr;cases hcr
     exact go_s u f r (fun z hz=>ih z (.tail _ hz)) deep w _ all2 _ _ hne m1 m2 m3 hv.2 hn.2 t0 S0 S1 tb0 tb1 y lv
       (he.step (fun v hv=>List.mem_append_left _ hv) fun v hv=>z8a x tb to (z3p u f x deep w all hx) v fun hm=>nwx.na hm hv)
       (hl0.trans m4) (hl1.trans m4) (fun e=>h12 (by rw [y6g hne];exact e)) fun e=>hlv (by simp [z0l,e])
    have:r=[]:=by rw [hc] at hcr;cases r with | nil=>rfl | cons _ _=>cases hcr
    subst this
    exact ⟨rfl,by simp [z0e]⟩
theorem sa_all (u:Un) (f:Fl):∀ (N:Nat) (l:List Nd),SizeOf.sizeOf l<N->SA u f l
  | 0,_,h=>absurd h (Nat.not_lt_zero _)
  | N+1,l,hN=>go_s u f l fun x hx=>node_s u f x fun q hq=>sa_all u f N q (Nat.lt_of_lt_of_le (z8g hx rfl hq) (Nat.le_of_lt_succ hN))
theorem yf9 {u:Un} (hz:(z1b u).1=0) {f:Fl} (hf:f∈u.flows) (hn:nIL f.body=true):FRel (uSz u.flows) f (z43 stB f):=by
  refine ⟨rfl,yk9 hf,?_⟩
  have hF:=((z4o u).1 hz).2 f hf
  have h:=zp9 hF
  have hp:=z7q hF
  have hv:=h.1
  simp only [z36,Bool.and_eq_true] at hv
  have hne:f.body≠[]:=by intro e;rw [e] at hv;simp at hv
  have fa:∀ v∈dL f.body,(iota f.params.toNat).contains v=false:=fun v hm=>by
    have:=h.2.2 v hm
    cases hc:(iota f.params.toNat).contains v with
    | false=>rfl
    | true=>rw [zp8 hp hc] at this;cases this
  have nw:New f (dL f.body) (iota f.params.toNat) (iota f.params.toNat) []:=⟨h.2.1,fa,fun v hm hh=>Bool.noConfusion ((fa v hm).symm.trans (List.contains_iff_mem.2 hh)),fun _ _=>rfl,fun v hv v0 v1=>⟨hv,v0,v1,rfl⟩,fun v hv=>by
    have:=iota_mem hv
    omega⟩
  have hA:=sa_all u f _ f.body (Nat.lt_succ_self _) 1 z1k _ _ ⟨[],[]⟩ [] hne nw (fun e he=>by simp at he) ⟨fun _ _ h=>(by cases h),fun _ _ h=>(by cases h)⟩ hv.2 hn [] [] [] ⟨[],[]⟩ ⟨[],[]⟩ true true ⟨fun v hv=>by simp at hv,fun v hv=>by simp at hv⟩ (.refl _) (.refl _) (fun _=>rfl) fun _=>rfl
  refine .weak (fun a b h=>⟨fun v hv=>by rw [h.1];rfl,by rw [<- h.1];exact h.2.2,⟨fun _ _ h=>(by cases h),fun _ _ h=>(by cases h)⟩⟩) (hA.monoE fun n p p' a b h=>?_)
  obtain ⟨h64,rfl,_⟩:=h
  refine ⟨rfl,?_⟩
  cases p' with
  | nil=>simp [I64]
  | cons z r=>exact h64 z (.head _)
theorem same_rel {u:Un} (hz:(z1b u).1=0) (hn:∀ f∈u.flows,nIL f.body=true):URel u (z40 stB u):=by
  refine ⟨rfl,fun name=>zj1 stB name u.flows 0,fun i f g h h'=>?_⟩
  have:(z40 stB u).flows[i]? = (u.flows[i]?).map (z43 stB):=List.getElem?_map ..
  rw [h',h] at this
  obtain rfl:g=z43 stB f:=Option.some.inj this
  exact yf9 hz (List.mem_of_getElem? h) (hn f (List.mem_of_getElem? h))
section
variable (l:List UInt8)
theorem nI_app:∀ a b:List Nd,nIL (a++b)=(nIL a&&nIL b)
  | [],b=>by simp [nIL]
  | x::r,b=>by simp only [List.cons_append,nIL,nI_app r b,Bool.and_assoc]
theorem y0a {kind op n:Int} {name:ByteArray} {seen ins outs:List Int} {g:Gn} (hn:n64 n=true):nIN (z3s l kind op n name seen ins outs g).1=true:=by
  simp [z3s,nIN,nIK,hn]
theorem nums64 (i:Nat):n64 (gNums.getD i 0)=true:=by
  match i with
  | 0 | 1 | 2 | 3 | 4 | 5=>rfl
  | i+6=>rfl
theorem pick2 (g:Gn):(z07 l 2 g).1<=1:=by
  unfold z07
  dsimp only
  split
  ·omega
  omega
theorem n64_nat {k:Nat} (h:k<=1):n64 (k:Int)=true:=by
  unfold n64
  rw [decide_eq_true (show (-9223372036854775808:Int)<=k by omega),decide_eq_true (show (k:Int)<=9223372036854775807 by omega)]
  rfl
theorem yd4 (seen:List Int) (g:Gn):nIN (z1m l seen g).1=true:=by
  unfold z1m
  simp only
  repeat' split
  all_goals first
  | exact y0a l (nums64 _)
  | exact y0a l rfl
  | exact y0a l (n64_nat (pick2 l _))
theorem nI_end (seen:List Int) (p:Plc) (g:Gn):nIN (gEnd l seen p g).1=true:=by
  unfold gEnd
  simp only
  repeat' split
  all_goals exact y0a l rfl
def RecN (rec:GRec):Prop:=∀ seen p g,nIL (rec seen p g).1=true
theorem yd3 (x:List Int->Nd) (hx:∀ o,nIN (x o)=true) (t:List Int) (g:Gn):nIN (z76 x t g).1=true:=by
  unfold z76
  split
  ·exact hx _
  exact hx _
theorem nI_any {rec:Option GRec} (hr:∀ r,rec=some r->RecN r) (all:List Int) (p:Plc) (g:Gn):nIN (gAny l rec all p g).1=true:=by
  have hs:=yd4 l all { g with left:=g.left - 1 }
  unfold gAny
  simp only
  cases rec with
  | none=>exact hs
  | some r =>
    simp only
    split
    ·unfold gIf
     exact yd3 _ (fun o=>by simp [nIN,nIK,hr r rfl _ _ _,n64]) _ _
    split
    ·unfold z8t
     exact yd3 _ (fun o=>by simp [nIN,nIK,hr r rfl _ _ _,n64]) _ _
    exact hs
theorem y4e {rec:Option GRec} (hr:∀ r,rec=some r->RecN r) (p:Plc):∀ (i:Nat) (all:List Int) (g:Gn),nIL (z4z l rec p i all g).1=true
  | 0,all,g=>by simp [z4z,nIL,nI_end]
  | i+1,all,g=>by
    unfold z4z
    split
    ·simp [nIL,nI_end]
    split
    ·simp [nIL,nI_any l hr]
    simp [nIL,nI_any l hr,y4e hr p i]
theorem nI_list (d:Nat):RecN (z2y l d):=by
  induction d with
  | zero =>
    intro seen p g
    rw [z5s,z51]
    exact y4e l (fun r h=>by cases h) p _ _ _
  | succ d ih =>
    intro seen p g
    rw [z5s,z51]
    exact y4e l (fun r h=>by cases h;exact ih) p _ _ _
theorem nI_flow (name:ByteArray) (params:List Int) (g:Gn):nIL (z2s l name params g).1.body=true:=by
  unfold z2s
  simp only
  rw [nI_app,nI_list]
  rfl
end
theorem made_n (l:List UInt8):∀ f∈(made l).flows,nIL f.body=true:=by
  intro f hf
  simp only [made,List.mem_cons,List.not_mem_nil,or_false] at hf
  rcases hf with rfl | rfl<;>exact nI_flow l _ _ _
end
set_option maxRecDepth 20000
set_option maxHeartbeats 2000000
theorem y03 {m n z:Int} (hn:n≠0) (h:m.tdiv n=z) (h1:-9223372036854775808<=z/\z<=9223372036854775807):z3x .quo .i64 m n=some (.int .i64 z):=by
  subst h;simp only [z3x];rw [if_neg hn,IntWalk.i64_in _ h1]
theorem yg2 (u v:Un) (hW:z0s u<=536870912) (ins:List Int) (fuel q:Int) (hf:0<=fuel/\fuel<=1000000) (hq:fuel.tdiv 4=q) (a b c d:Rs)
    (hA:SC Tryz.prog 17 [.pv u.enc,.pv (ints ins),iInt fuel] [] (fun _=>False) (.pv (runv a)) [])
    (hB:SC Tryz.prog 17 [.pv v.enc,.pv (ints ins),iInt fuel] [] (fun _=>False) (.pv (runv b)) [])
    (hC:SC Tryz.prog 17 [.pv v.enc,.pv (ints ins),iInt q] [] (fun _=>False) (.pv (runv c)) [])
    (hD:SC Tryz.prog 17 [.pv u.enc,.pv (ints ins),iInt ((q+1)*((uSz u.flows:Int)+1))] [] (fun _=>False) (.pv (runv d)) [])
    (h1:Fol a b) (h2:a.st≠0->b.cost<=a.cost/\a.fuel<=b.fuel) (h3:Fol c d) (hb:b.out.length<=1073741824) (hd:d.out.length<=1073741824) :
    SC Tryz.prog 13 [.pv u.enc,.pv v.enc,.pv (ints ins),iInt fuel] [] (fun k=>k∈[]) (iBool true) []:=by
  refine SC.vc tb {} [] Tryz.func13 rfl rfl ?_
  have hF1:=zy3 a b h1 hb
  have hF2:=zy3 c d h3 hd
  have hN:=sc_nodes u hW
  have hw:=uSz_W u.flows
  have hw2:wtF u.flows<=z0s u:=by unfold z0s;omega
  have hqb:0<=q/\q<=1000000:=by
    rw [<- hq,Int.tdiv_eq_ediv_of_nonneg hf.1];omega
  have hm:-9223372036854775808<=(q+1)*((uSz u.flows:Int)+1)/\(q+1)*((uSz u.flows:Int)+1)<=9223372036854775807:=by
    have x1:0<=(q+1)*((uSz u.flows:Int)+1):=Int.mul_nonneg oM0 oM0
    have x2:(q+1)*((uSz u.flows:Int)+1)<=1000001*536870913:=Int.mul_le_mul oM0 oM0 oM0 oM0
    omega
  obtain ⟨ains,aar,ast,acode,aout,acost,afuel,asp⟩:=a
  obtain ⟨bins,bar,bst,bcode,bout,bcost,bfuel,bsp⟩:=b
  dsimp only at h2
  refine ⟨[],hA,sR,trivial,rfl,[],hB,sR,trivial,rfl,[],hF1,sR,trivial,rfl,?_⟩
  refine z00 (fun h5=>?_) fun h5=>?_
  · have hst:ast≠0:=by simpa using h5
    obtain ⟨c1,c2⟩:=h2 hst
    refine z00 (fun h6=>absurd h6 (by simp;omega)) fun _=>z00 (fun h6=>absurd h6 (by simp;omega)) fun _=>?_
    exact ⟨y03 dC0 hq oM0,[],hC,sR,trivial,rfl,y03 dC0 hq oM0,z04 rfl oM0,[],hN,sR,trivial,rfl,z04 rfl oM0,yb7 rfl hm,[],hD,sR,trivial,rfl,[],hF2,sR,trivial,rfl,sI,trivial⟩
  · exact ⟨y03 dC0 hq oM0,[],hC,sR,trivial,rfl,y03 dC0 hq oM0,z04 rfl oM0,[],hN,sR,trivial,rfl,z04 rfl oM0,yb7 rfl hm,[],hD,sR,trivial,rfl,[],hF2,sR,trivial,rfl,sI,trivial⟩
theorem arr_size {u:Un} {A:Ar} (hz:(z1b u).1=0) (h:u.arrays=[A]):0<=A.size/\A.size<=1000:=by
  obtain ⟨h1,_⟩:=(z4o u).1 hz
  unfold z16 at h1
  simp only [Bool.and_eq_true] at h1
  have h2:=h1.1.1
  rw [h] at h2
  simp only [r8gA,gArr,Bool.and_eq_true,Bool.not_eq_true',decide_eq_false_iff_not] at h2
  omega
theorem y6z (u:Un) (h1:u.arrays.length<=1) (hW:z0s u<=536870912) (hz:(z1b u).1=0) (ins:List Int) (fuel:Int) (d:Nat) (r:Int × Rs) (h:z3t u d (z05 z0d u.flows 0) [] (runA u ins fuel)=some r) :
    SC Tryz.prog 17 [.pv u.enc,.pv (ints ins),iInt fuel] [] (fun _=>False) (.pv (runv (mEnd r))) []:=by
  have hs:=@arr_size u
  obtain ⟨ar,fs⟩:=u
  rcases ar with _ | ⟨A,_ | ⟨A2,t⟩⟩
  · exact yj7 fs hW hz ins fuel d r h
  · exact sr_run1 fs A hW hz ins fuel d r h (hs hz rfl)
  · simp at h1
theorem y50 {u v:Un} (R:URel u v) (h1:u.arrays.length<=1) (hW:z0s u<=536870912) (hW':z0s v<=536870912) (hz:(z1b u).1=0) (hz':(z1b v).1=0) (hN:uSz u.flows<=4000000) (ins:List Int) (hi:P64 ins) (fuel:Int) (hf:0<=fuel/\fuel<=510) :
    SC Tryz.prog 13 [.pv u.enc,.pv v.enc,.pv (ints ins),iInt fuel] [] (fun k=>k∈[]) (iBool true) []:=by
  have hq:0<=fuel.tdiv 4/\fuel.tdiv 4<=127:=by rw [Int.tdiv_eq_ediv_of_nonneg hf.1];omega
  have hfD0:0<=(fuel.tdiv 4+1)*((uSz u.flows:Int)+1):=Int.mul_nonneg oM0 oM0
  have hfD:(fuel.tdiv 4+1)*((uSz u.flows:Int)+1)<=128*4000001:=Int.mul_le_mul oM0 oM0 oM0 oM0
  have B:(1073741824:Int)<=4611686018427387903:=by decide
  have M:(1073741824:Int)<=1073741824:=by decide
  have hav:v.arrays.length<=1:=by rw [R.ar];exact h1
  obtain ⟨da,qa,ra,ia⟩:=y0r hz ins hf.1 B M oM0 oM0
  obtain ⟨db,qb,rb,ib⟩:=y0r hz' ins hf.1 B M oM0 oM0
  obtain ⟨dc,qc,rc,ic⟩:=y0r hz' ins hq.1 B M oM0 oM0
  obtain ⟨dd,qd,rd,id⟩:=y0r hz ins hfD0 B M oM0 oM0
  have k1:=rc_fol (y6r true R ins hi hf.1 hf.1 B (M:=1073741824) oM0 oM0 oM0 oM0 (by unfold G;simp) ra rb)
  have k2:=rc_fol2 (y6r false R ins hi hfD0 hq.1 B (M:=1073741824) oM0 oM0 oM0 oM0 (by
    unfold G
    simp only [Bool.false_eq_true,if_false]
    rw [Int.add_mul]
    generalize fuel.tdiv 4*((uSz u.flows:Int)+1)=P
    omega) rd rc)
  have ob:qb.2.out.length<=1073741824:=by have:=ib.out;have:=ib.ok.1;omega
  have od:qd.2.out.length<=1073741824:=by have:=id.out;have:=id.ok.1;omega
  exact yg2 u v hW ins fuel (fuel.tdiv 4) oM0 rfl _ _ _ _ (y6z u h1 hW hz ins fuel da qa ra) (y6z v hav hW' hz' ins fuel db qb rb) (y6z v hav hW' hz' ins _ dc qc rc) (y6z u h1 hW hz ins _ dd qd rd) k1.1 k1.2 k2 (by rw [zh4];exact ob) (by rw [zh4];exact od)
theorem z2r (l:List UInt8) (n:Nat) (g:Gn) (hn:0<n) (hb:g.pos<=1000000):SC Tryz.prog 50 [.ptr 2001 0,iInt (n:Int)] (gH l g) (fun _=>False) (iInt ((z07 l n g).1:Int)) (gH l (z07 l n g).2):=by
  refine SC.of Tryz.func50 rfl (lb rfl) fun F ρ w=>?_
  refine tQ <| tG <| sm 1 rfl <| nL <| tQ <| tG <| sm 1 rfl <| cV rfl (nCk rfl rfl rfl) <| sm 2 rfl <| cV rfl (oB rfl rfl (z04 rfl oM0)) <| cV rfl (nCk rfl rfl rfl) <| sm 1 rfl ?_
  refine c0 (sBx rfl rfl rfl rfl ((fun h=>h)) tS3 (rfl) (lb rfl)) <| nL <| tQ <| tQ <| Tr.still z78 kR0 rfl <| smS 1 rfl <| sV rfl (nCk rfl rfl rfl) <| smS 3 rfl <| sV rfl (nCk rfl rfl rfl) <| smS 2 rfl <| sV rfl (oSm Tryz.underlying29 rfl) <| smS 2 rfl ?_
  refine WS.split (t:=22) rfl (fun hb22=>?_) (fun hb22=>?_)
  ·refine smS 6 rfl <| WS.nil <| Tr.condT rfl ?_
   have hc:g.pos+1 > l.length∨g.pos+1 > 150:=by
     (have:=hb22;simp at this;omega)
   refine tQ <| tG <| sm 1 rfl <| nL <| tRt <| rOk rfl ?_ (po2 rfl rfl)
   simp only [z07,if_pos hc]
   rfl
  refine smS 1 rfl <| syV rfl rfl (nCk rfl rfl rfl) <| smS 4 rfl <| WS.nil ?_
  refine tC rfl (fun hc28=>?_) fun hc28=>?_
  ·have hc:g.pos+1 > l.length∨g.pos+1 > 150:=by
     (have:=hc28;simp at this;omega)
   refine tQ <| tG <| sm 1 rfl <| nL <| tRt <| rOk rfl ?_ (po2 rfl rfl)
   simp only [z07,if_pos hc]
   rfl
  have hc:¬ (g.pos+1 > l.length∨g.pos+1 > 150):=by
    simp at hb22 hc28
    omega
  have hlt:g.pos<l.length:=by omega
  have hi:=z0a (f:=eB) (List.getElem?_eq_getElem hlt)
  have hgd:l.getD g.pos 0=l[g.pos]:=by rw [List.getD,List.getElem?_eq_getElem hlt];rfl
  generalize l[g.pos]=x at hi hgd
  have hrem:z3x .rem .i64 (IntKind.i64.wrap (x.toNat:Int)) (n:Int)=some (.int .i64 ((x.toNat % n:Nat):Int)):=by rw [u8_i64];exact i64_rem hn
  refine tSk <| tQ <| Tr.still z78 kR0 rfl <| smS 1 rfl <| sV rfl (nCk rfl rfl rfl) <| smS 3 rfl <| sV rfl (nCk rfl rfl rfl) <| smS 2 rfl <| sV rfl (oB rfl rfl (z3i rfl oM0)) <| sV rfl (iSq rfl rfl rfl Tryz.underlying29 hi tS5 rfl oM0) <| smS 1 rfl <| sV rfl (zb9 rfl rfl ⟨_,Tryz.underlying5⟩ uT3) ?_
  refine smS 1 rfl <| sV rfl (oB rfl rfl hrem) <| smS 1 rfl <| WS.nil <| tRt <| rOk rfl ?_ (po2 rfl rfl)
  simp only [z07,if_neg hc,hgd]
theorem zf5 (l:List UInt8) (t:Int) (g:Gn) (hb:g.types.length<=1000000):SC Tryz.prog 35 [.ptr 2001 0,iInt t] (gH l g) (fun _=>False) (iInt (z0b t g).1) (gH l (z0b t g).2):=by
  refine SC.of Tryz.func35 rfl (lb rfl) fun F ρ w=>?_
  have hbl:(g.types.map eInt).length=g.types.length:=by simp
  have hbl2:((z0b t g).2.types.map eInt).length=g.types.length+1:=by simp [z0b]
  refine tQ <| tG <| sm 1 rfl <| nL <| tQ <| tG <| sm 2 rfl <| cV rfl (nCk rfl rfl rfl) <| sm 3 rfl <| cE rfl (bSl rfl rfl uT35 tZ3 tS3 rfl rfl rfl rfl (fbk rfl) rfl) ?_
  refine cE rfl (aPp rfl rfl rfl rfl (by rfl) ((fun h=>h)) uT35 tB3 dC0 (by (simp [z08];done)) (by (simp [z08,PV.one];rfl)) (by simp [maxLen,z08];omega) (by simp [z08];omega)) ?_
  refine cV rfl (nCk rfl rfl rfl) <| sm 1 rfl <| c0 (sBx rfl rfl rfl rfl ((fun h=>h)) tS35 (⟨_,_,rfl,by simp⟩) (lb rfl)) <| nL <| tQ ?_
  refine Tr.heap (σ':=look [(2001,some (z3h l (z0b t g).2)),(2002,some (rowI (z0b t g).2.types))]) (lkq [2001,2002] rfl rfl ⟨(by first | exact congrArg (fun z=>some (HO.row _ z)) (by simp [z0b,z08,eInt]) | exact congrArg (fun z=>some (HO.box z)) (by simp [z0b,z08,eInt])),(by first | exact congrArg (fun z=>some (HO.row _ z)) (by simp [z0b,z08,eInt]) | exact congrArg (fun z=>some (HO.box z)) (by simp [z0b,z08,eInt])),trivial⟩) ?_
  refine tG <| sm 1 rfl <| cV rfl (nCk rfl rfl rfl) <| sm 2 rfl <| cV rfl (z9n rfl rfl rfl rfl uT35) <| cV rfl (oB rfl rfl (z3i rfl oM0)) <| sm 1 rfl <| nL <| tRt <| rOk rfl ?_ (po2 rfl rfl)
  refine congrArg (fun z=>IV.pv (.val (.int .i64 z))) ?_
  rw [hbl2]
  simp only [z0b]
  omega
theorem sc_gSome (l:List UInt8) (g:Gn) (seen:List Int) (t:Int) (hs:InR g.types seen) (hb:g.pos<=999999) (hsl:seen.length<=1000000):SC Tryz.prog 75 [.ptr 2001 0,.sl 2003 (seen.map eInt).length,iInt t] (gHs l g seen) (fun _=>False) (iInt (ze0 l seen t g).1) (gHs l (ze0 l seen t g).2 seen):=by
  refine SC.of Tryz.func75 rfl (lb rfl) fun F ρ w=>?_
  have hp8:(z07 l 8 g).1<8:=z1y oM0
  refine tQ <| tG <| sm 1 rfl <| nL <| tQ <| tG <| sm 1 rfl <| cE rfl (ocr (z2r l 8 g oM0 oM0) y9y rfl (po2 rfl rfl) rfl (fun k (h:_)=>.inr h) rfl rfl) <| sm 1 rfl <| nL <| tQ <| tG ?_
  refine sm 1 rfl <| nL <| tQ <| tQ <| tG <| sm 1 rfl <| nL <| tBk <| Tr.sub (Sub.of (fr':=[(9,iInt 0),(8,iInt 0),(7,iInt ((z07 l 8 g).1:Int)),(0,.ptr 2001 0),(1,.sl 2003 (seen.map eInt).length),(2,iInt t)]) ⟨rfl,rfl,rfl,rfl,rfl,rfl,trivial⟩) <| Tr.heap (σ':=look [(2001,some (z3h l (z07 l 8 g).2)),(2002,some (rowI (z07 l 8 g).2.types)),(2003,some (rowI seen))]) (lkq [2001,2002,2003] rfl rfl ⟨rfl,rfl,rfl,trivial⟩) ?_
  refine Tr.loop (fun fr σ m=>∃ (i:Nat) (k:Int) (v:Int),(i<=seen.length)/\(k<=8 /\ -(i:Int)<=k)/\(gS1 g.types t (i==0) k v (seen.drop i)=gS1 g.types t true (z07 l 8 g).1 0 seen)/\fr=[(9,iInt i),(8,iInt v),(7,iInt k),(0,.ptr 2001 0),(1,.sl 2003 (seen.map eInt).length),(2,iInt t)] /\ σ = look [(2001,some (z3h l (z07 l 8 g).2)),(2002,some (rowI (z07 l 8 g).2.types)),(2003,some (rowI seen))]/\m=seen.length - i) (n:=seen.length - 0) ?_ ?_
  ·exact ⟨0,((z07 l 8 g).1:Int),0,Nat.zero_le _,⟨by omega,by omega⟩,rfl,rfl,rfl,rfl⟩
  rintro fr σ m ⟨i,k,v,hI0,hI1,hI2,rfl,rfl,rfl⟩
  refine tQ <| tQ <| tG <| sm 2 rfl <| cV rfl (z9n rfl rfl rfl rfl uT35) <| sm 1 rfl <| nL ?_
  refine tC rfl (fun hc16=>?_) fun hc16=>?_
  ·have hlt:i<seen.length:=by simpa using hc16
   have hd:=List.drop_eq_getElem_cons hlt
   have hm:=List.getElem_mem hlt
   have hi:=z0a (f:=eInt) (List.getElem?_eq_getElem hlt)
   generalize seen[i]=s at hd hm hi
   have hil:i<(seen.map eInt).length:=by rw [List.length_map];exact hlt
   obtain ⟨hs1,hs2,hs3⟩:=hs.at hm
   refine tSk <| tQ <| tBk <| tQ <| Tr.still z78 kR0 rfl <| smS 1 rfl <| sV rfl (nCk rfl rfl rfl) <| smS 4 rfl <| sV rfl (iRw rfl rfl rfl rfl rfl uT35 tS3 hil (by rfl)) <| sV rfl (lRw rfl rfl rfl rfl (Nat.add_zero _).symm hi rfl uT3 rfl trivial) <| sV rfl (iRw rfl rfl rfl rfl rfl uT35 tS3 hs1 (by assumption)) <| sV rfl (lRw rfl rfl rfl rfl (Nat.add_zero _).symm hs2 rfl uT3 rfl trivial) ?_
   refine smS 3 rfl ?_
   refine WS.split (t:=31) rfl (fun hb31=>?_) (fun hb31=>?_)
   ·refine smS 3 rfl ?_
    refine WS.split (t:=34) rfl (fun hb34=>?_) (fun hb34=>?_)
    ·refine smS 4 rfl <| WS.nil <| Tr.condT rfl <| tQ <| tG <| sm 2 rfl <| cV rfl (iRw rfl rfl rfl rfl rfl uT35 tS3 hil (by rfl)) <| cV rfl (lRw rfl rfl rfl rfl (Nat.add_zero _).symm hi rfl uT3 rfl trivial) <| sm 1 rfl <| nL <| tG <| sm 1 rfl ?_
     refine cV rfl (oB rfl rfl (z3i rfl oM0)) <| sm 1 rfl <| nL <| tG <| sm 1 rfl <| cV rfl (oB rfl rfl (z04 rfl oM0)) <| sm 1 rfl <| nL ?_
     refine ⟨_,_,?_,Sub.of (fr':=[(9,iInt (i+1)),(8,iInt s),(7,iInt (k - 1)),(0,.ptr 2001 0),(1,.sl 2003 (seen.map eInt).length),(2,iInt t)]) ⟨rfl,rfl,rfl,rfl,rfl,rfl,trivial⟩,(i+1),(k - 1),s,?_,?_,?_,rfl,rfl,rfl⟩
     ·omega
     ·omega
     ·omega
     rw [<- hI2,hd]
     have hi0:(i+1==0)=false:=rfl
     rw [hi0]
     simp only [gS1]
     (rw [if_pos (by clear hs3 hi hs hd hm hs1 hs2 hI2;simp_all)];done)
    refine smS 4 rfl <| WS.nil ?_
    refine tC rfl (fun hc38=>?_) fun hc38=>?_
    ·refine tQ <| tG <| sm 2 rfl <| cV rfl (iRw rfl rfl rfl rfl rfl uT35 tS3 hil (by rfl)) <| cV rfl (lRw rfl rfl rfl rfl (Nat.add_zero _).symm hi rfl uT3 rfl trivial) <| sm 1 rfl <| nL <| tG <| sm 1 rfl <| cV rfl (oB rfl rfl (z3i rfl oM0)) <| sm 1 rfl <| nL ?_
     refine tG <| sm 1 rfl <| cV rfl (oB rfl rfl (z04 rfl oM0)) <| sm 1 rfl <| nL ?_
     refine ⟨_,_,?_,Sub.of (fr':=[(9,iInt (i+1)),(8,iInt s),(7,iInt (k - 1)),(0,.ptr 2001 0),(1,.sl 2003 (seen.map eInt).length),(2,iInt t)]) ⟨rfl,rfl,rfl,rfl,rfl,rfl,trivial⟩,(i+1),(k - 1),s,?_,?_,?_,rfl,rfl,rfl⟩
     ·omega
     ·omega
     ·omega
     rw [<- hI2,hd]
     have hi0:(i+1==0)=false:=rfl
     rw [hi0]
     simp only [gS1]
     (rw [if_pos (by clear hs3 hi hs hd hm hs1 hs2 hI2;simp_all)];done)
    refine tSk <| tG <| sm 1 rfl <| cV rfl (oB rfl rfl (z04 rfl oM0)) <| sm 1 rfl <| nL ?_
    refine ⟨_,_,?_,Sub.of (fr':=[(9,iInt (i+1)),(8,iInt v),(7,iInt k),(0,.ptr 2001 0),(1,.sl 2003 (seen.map eInt).length),(2,iInt t)]) ⟨rfl,rfl,rfl,rfl,rfl,rfl,trivial⟩,(i+1),k,v,?_,?_,?_,rfl,rfl,rfl⟩
    ·omega
    ·omega
    ·omega
    rw [<- hI2,hd]
    have hi0:(i+1==0)=false:=rfl
    rw [hi0]
    simp only [gS1]
    (rw [if_neg (by clear hs3 hi hs hd hm hs1 hs2 hI2;simp_all)];done)
   refine smS 3 rfl <| WS.noU rfl rfl rfl rfl rfl rfl <| WS.noU rfl rfl rfl rfl rfl rfl <| smS 2 rfl <| WS.nil <| Tr.condF rfl <| tSk <| tG <| sm 1 rfl <| cV rfl (oB rfl rfl (z04 rfl oM0)) <| sm 1 rfl <| nL ?_
   refine ⟨_,_,?_,Sub.of (fr':=[(9,iInt (i+1)),(8,iInt v),(7,iInt k),(0,.ptr 2001 0),(1,.sl 2003 (seen.map eInt).length),(2,iInt t)]) ⟨rfl,rfl,rfl,rfl,rfl,rfl,trivial⟩,(i+1),k,v,?_,?_,?_,rfl,rfl,rfl⟩
   ·omega
   ·omega
   ·omega
   rw [<- hI2,hd]
   have hi0:(i+1==0)=false:=rfl
   rw [hi0]
   simp only [gS1]
   (rw [if_neg (by clear hs3 hi hs hd hm hs1 hs2 hI2;simp_all)];done)
  refine tEx <| tQ <| tQ ?_
  have hge:seen.length<=i:=by simpa using hc16
  rw [List.drop_eq_nil_of_le hge] at hI2
  simp only [gS1] at hI2
  obtain ⟨v0,hv0e⟩:∃ v0,gS1 g.types t true (z07 l 8 g).1 0 seen=v0:=⟨_,rfl⟩
  have hv0:=yb0 (t:=t) seen true (z07 l 8 g).1 0 hs ⟨by omega,.inr rfl⟩
  rw [hv0e] at hI2 hv0
  subst hI2
  refine tG <| sm 1 rfl <| nL <| tBk <| Tr.sub (Sub.of (fr':=[(10,iInt 0),(8,iInt v),(0,.ptr 2001 0),(1,.sl 2003 (seen.map eInt).length),(2,iInt t)]) ⟨rfl,rfl,rfl,rfl,rfl,trivial⟩) ?_
  refine Tr.loop (fun fr σ m=>∃ (i:Nat) (v1:Int),(i<=seen.length)/\(gS2 g.types t v1 (seen.drop i)=gS2 g.types t v seen)/\(0<=v1/\(v1.toNat<g.types.length∨v1=0))/\fr=[(10,iInt i),(8,iInt v1),(0,.ptr 2001 0),(1,.sl 2003 (seen.map eInt).length),(2,iInt t)] /\ σ = look [(2001,some (z3h l (z07 l 8 g).2)),(2002,some (rowI (z07 l 8 g).2.types)),(2003,some (rowI seen))]/\m=seen.length - i) (n:=seen.length - 0) ?_ ?_
  ·exact ⟨0,v,Nat.zero_le _,rfl,hv0,rfl,rfl,rfl⟩
  rintro fr σ m ⟨i,v1,hI0,hI1,hI2,rfl,rfl,rfl⟩
  refine tQ <| tQ <| tG <| sm 2 rfl <| cV rfl (z9n rfl rfl rfl rfl uT35) <| sm 2 rfl ?_
  refine wS 49 rfl (fun hb49=>?_) fun hb49=>?_
  ·have hlt:i<seen.length:=by simpa using hb49
   have hd:=List.drop_eq_getElem_cons hlt
   have hm:=List.getElem_mem hlt
   have hi:=z0a (f:=eInt) (List.getElem?_eq_getElem hlt)
   generalize seen[i]=s at hd hm hi
   have hil:i<(seen.map eInt).length:=by rw [List.length_map];exact hlt
   obtain ⟨hs1,hs2,hs3⟩:=hs.at hm
   have hvr:v1.toNat<g.types.length:=by
     rcases hI2.2 with h1 | h1
     ·exact h1
     subst h1
     have:s.toNat<g.types.length:=by simpa using hs1
     simp;omega
   have hvm:InR g.types [v1]:=fun x hx=>by rw [List.mem_singleton.1 hx];exact ⟨hI2.1,hvr⟩
   obtain ⟨hv1,hv2,hv3⟩:=hvm.at (.head _)
   refine sm 1 rfl <| yV rfl rfl (nCk rfl rfl rfl) <| sm 3 rfl <| yV rfl rfl (iRw rfl rfl rfl rfl rfl uT35 tS3 hv1 (by assumption)) <| yV rfl rfl (lRw rfl rfl rfl rfl (Nat.add_zero _).symm hv2 rfl uT3 rfl trivial) <| sm 3 rfl <| nL ?_
   refine tC rfl (fun hc59=>?_) fun hc59=>?_
   ·have hcont:(g.types.getD v1.toNat 0 != t)=true:=hc59
    refine tSk <| tQ <| tBk <| tQ <| Tr.still z78 kR0 rfl <| smS 1 rfl <| sV rfl (nCk rfl rfl rfl) <| smS 4 rfl <| sV rfl (iRw rfl rfl rfl rfl rfl uT35 tS3 hil (by rfl)) <| sV rfl (lRw rfl rfl rfl rfl (Nat.add_zero _).symm hi rfl uT3 rfl trivial) <| sV rfl (iRw rfl rfl rfl rfl rfl uT35 tS3 hs1 (by assumption)) <| sV rfl (lRw rfl rfl rfl rfl (Nat.add_zero _).symm hs2 rfl uT3 rfl trivial) ?_
    refine smS 2 rfl <| WS.nil ?_
    refine tC rfl (fun hc73=>?_) fun hc73=>?_
    ·refine tG <| sm 2 rfl <| cV rfl (iRw rfl rfl rfl rfl rfl uT35 tS3 hil (by rfl)) <| cV rfl (lRw rfl rfl rfl rfl (Nat.add_zero _).symm hi rfl uT3 rfl trivial) <| sm 1 rfl <| nL <| tG <| sm 1 rfl <| cV rfl (oB rfl rfl (z04 rfl oM0)) <| sm 1 rfl <| nL ?_
     refine ⟨_,_,?_,Sub.of (fr':=[(10,iInt (i+1)),(8,iInt s),(0,.ptr 2001 0),(1,.sl 2003 (seen.map eInt).length),(2,iInt t)]) ⟨rfl,rfl,rfl,rfl,rfl,trivial⟩,(i+1),s,?_,?_,?_,rfl,rfl,rfl⟩
     ·omega
     ·omega
     ·rw [<- hI1,hd]
      simp only [gS2]
      rw [if_pos hcont]
      (rw [if_pos hc73];done)
     first
     | exact hI2
     | exact ⟨by omega,.inl (by simpa using hs1)⟩
    refine tSk <| tG <| sm 1 rfl <| cV rfl (oB rfl rfl (z04 rfl oM0)) <| sm 1 rfl <| nL ?_
    refine ⟨_,_,?_,Sub.of (fr':=[(10,iInt (i+1)),(8,iInt v1),(0,.ptr 2001 0),(1,.sl 2003 (seen.map eInt).length),(2,iInt t)]) ⟨rfl,rfl,rfl,rfl,rfl,trivial⟩,(i+1),v1,?_,?_,?_,rfl,rfl,rfl⟩
    ·omega
    ·omega
    ·rw [<- hI1,hd]
     simp only [gS2]
     rw [if_pos hcont]
     (rw [if_neg (by rw [hc73];decide)];done)
    first
    | exact hI2
    | exact ⟨by omega,.inl (by simpa using hs1)⟩
   refine tEx <| tQ <| tG <| sm 2 rfl <| nL <| tRt <| rOk rfl ?_ (po3 rfl rfl rfl)
   refine congrArg iInt ?_
   show _=gS2 g.types t (gS1 g.types t true (z07 l 8 g).1 0 seen) seen
   rw [hv0e,<- hI1]
   (rw [hd]
    simp only [gS2]
    rw [if_neg (by rw [show (g.types.getD v1.toNat 0 != t)=false from hc59];decide)]
    done)
  refine sm 10 rfl <| nL <| Tr.condF rfl <| tEx <| tQ <| tG <| sm 2 rfl <| nL <| tRt <| rOk rfl ?_ (po3 rfl rfl rfl)
  refine congrArg iInt ?_
  show _=gS2 g.types t (gS1 g.types t true (z07 l 8 g).1 0 seen) seen
  rw [hv0e,<- hI1]
  (rw [List.drop_eq_nil_of_le (by simpa using hb49)]
   rfl)
theorem z20 (l:List UInt8) (seen ts:List Int) (g:Gn) (hs:InR g.types seen) (hb:g.pos+ts.length<=1000000) (hsl:seen.length<=1000000):SC Tryz.prog 53 [.ptr 2001 0,.sl 2003 (seen.map eInt).length,.pv (ints ts)] (gHs l g seen) (fun _=>False) (.pv (ints (z1l l seen ts g).1)) (gHs l (z1l l seen ts g).2 seen):=by
  refine SC.of Tryz.func53 rfl (lb rfl) fun F ρ w=>?_
  refine Tr.lenOf (t:=2) rfl (fun hl=>?_)
  simp only [List.length_map] at hl
  refine tQ <| tG <| sm 1 rfl <| nL <| tQ <| tG <| sm 1 rfl <| nL <| tQ <| tQ <| Tr.grow (t:=7) (k:=107) ⟨3,1⟩ rfl rfl rfl rfl rfl <| tG ?_
  refine sm 1 rfl <| nL <| tBk <| Tr.sub (Sub.of (fr':=[(8,iInt 0),(7,.sl 107 (([]:List Int).map eInt).length),(0,.ptr 2001 0),(1,.sl 2003 (seen.map eInt).length),(2,.pv (ints ts))]) ⟨rfl,rfl,rfl,rfl,rfl,trivial⟩) <| Tr.heap (σ':=look [(107,some (rowI ([]:List Int))),(2001,some (z3h l g)),(2002,some (rowI g.types)),(2003,some (rowI seen))]) (lkq [107,2001,2002,2003] rfl rfl ⟨rfl,rfl,rfl,rfl,trivial⟩) ?_
  refine Tr.loop (fun fr σ m=>∃ (i:Nat) (acc:List Int) (g1:Gn),(i<=ts.length)/\(acc++(z1l l seen (ts.drop i) g1).1=(z1l l seen ts g).1)/\((z1l l seen (ts.drop i) g1).2=(z1l l seen ts g).2)/\(g1.types=g.types)/\(g1.pos+(ts.length - i)<=1000000)/\(acc.length=i)/\fr=[(8,iInt i),(7,.sl 107 (acc.map eInt).length),(0,.ptr 2001 0),(1,.sl 2003 (seen.map eInt).length),(2,.pv (ints ts))] /\ σ = look [(107,some (rowI acc)),(2001,some (z3h l g1)),(2002,some (rowI g1.types)),(2003,some (rowI seen))]/\m=ts.length - i) (n:=ts.length - 0) ?_ ?_
  ·exact ⟨0,([]:List Int),g,Nat.zero_le _,sI0,rfl,rfl,hb,rfl,rfl,rfl,rfl⟩
  rintro fr σ m ⟨i,acc,g1,hI0,hI1,hI2,hIt,hIb,hIa,rfl,rfl,rfl⟩
  refine tQ <| tQ <| tG <| sm 2 rfl <| cV rfl (oSm uT35 rfl) <| sm 1 rfl <| nL ?_
  refine tC rfl (fun hc12=>?_) fun hc12=>?_
  ·have hlt:i<ts.length:=by simpa using hc12
   have hd:=List.drop_eq_getElem_cons hlt
   have hm:=List.getElem_mem hlt
   have hi:=z0a (f:=eInt) (List.getElem?_eq_getElem hlt)
   generalize ts[i]=x at hd hm hi
   have hal:(acc.map eInt).length=acc.length:=by simp
   refine tSk <| tQ <| tBk <| tG <| sm 5 rfl <| cV rfl (iSq rfl rfl rfl uT35 hi tS3 rfl (by rfl)) <| sm 1 rfl <| cE rfl (ocr (sc_gSome l g1 seen x (by rw [hIt];exact hs) oM0 hsl) ent75 rfl (po3 rfl rfl rfl) rfl (fun k (h:_)=>.inr h) rfl rfl) <| cE rfl (bSl rfl rfl uT35 tZ3 tS3 rfl rfl rfl rfl (fbk rfl) rfl) ?_
   refine cE rfl (aPp rfl rfl rfl rfl (by rfl) ((fun h=>h)) uT35 tB3 dC0 (by (simp [z08];done)) (by (simp [z08,PV.one];rfl)) (by simp [maxLen,z08];omega) (by simp [z08];omega)) ?_
   refine sm 1 rfl <| nL <| tG <| sm 1 rfl <| cV rfl (oB rfl rfl (z04 rfl oM0)) <| sm 1 rfl <| nL ?_
   refine ⟨_,_,?_,Sub.of (fr':=[(8,iInt (i+1)),(7,.sl 107 ((acc++[(ze0 l seen x g1).1]).map eInt).length),(0,.ptr 2001 0),(1,.sl 2003 (seen.map eInt).length),(2,.pv (ints ts))]) ⟨rfl,congrArg (fun z=>some (IV.sl _ z)) (by simp [z08,eInt]),rfl,rfl,rfl,trivial⟩,(i+1),(acc++[(ze0 l seen x g1).1]),(ze0 l seen x g1).2,?_,?_,?_,?_,?_,?_,rfl,(funext (lkq [107,2001,2002,2003] rfl rfl ⟨(congrArg (fun z=>some (HO.row _ z)) (by simp [z08,eInt])),rfl,rfl,rfl,trivial⟩)),rfl⟩
   ·omega
   ·omega
   ·rw [<- hI1,hd];simp [z1l]
   ·rw [<- hI2,hd];rfl
   ·exact hIt
   ·show g1.pos+1+(ts.length - (i+1))<=1000000
    omega
   simp [hIa]
  refine tEx <| tQ <| Tr.freeze (t:=7) (k:=107) rfl rfl sI0 ?_
  have hge:ts.length<=i:=by simpa using hc12
  rw [List.drop_eq_nil_of_le hge] at hI1 hI2
  simp only [z1l,List.append_nil] at hI1 hI2
  subst hI2
  refine tG <| sm 2 rfl <| nL <| tRt <| rOk rfl ?_ (po3 rfl rfl rfl)
  rw [<- hI1]
  rfl
theorem z9d (l:List UInt8) (g:Gn) (hb:g.pos<=999990):SC Tryz.prog 52 [.ptr 2001 0] (gH l g) (fun _=>False) (.pv (ints (z0q l g).1)) (gH l (z0q l g).2):=by
  refine SC.of Tryz.func52 rfl (lb rfl) fun F ρ w=>?_
  have hp3:(z07 l 3 g).1<3:=z1y oM0
  refine tQ <| tG <| sm 1 rfl <| nL <| tQ <| tG <| sm 1 rfl <| nL <| tQ <| tQ <| Tr.grow (t:=3) (k:=103) ⟨3,1⟩ rfl rfl rfl rfl rfl <| tG ?_
  refine sm 1 rfl <| cE rfl (ocr (z2r l 3 g oM0 oM0) y9y rfl (po2 rfl rfl) rfl (fun k (h:_)=>.inr h) rfl rfl) <| sm 1 rfl <| nL <| tBk <| Tr.sub (Sub.of (fr':=[(4,iInt (((z07 l 3 g).1:Nat):Int)),(3,.sl 103 (([]:List Int).map eInt).length),(0,.ptr 2001 0)]) ⟨rfl,rfl,rfl,trivial⟩) <| Tr.heap (σ':=look [(103,some (rowI ([]:List Int))),(2001,some (z3h l (z07 l 3 g).2)),(2002,some (rowI (z07 l 3 g).2.types))]) (lkq [103,2001,2002] rfl rfl ⟨rfl,rfl,rfl,trivial⟩) ?_
  refine Tr.loop (fun fr σ m=>∃ (n:Nat) (acc:List Int) (g1:Gn),(n<=3)/\(acc++(gTyN l n g1).1=(z0q l g).1)/\((gTyN l n g1).2=(z0q l g).2)/\(g1.pos+n<=1000000)/\(acc.length+n<=3)/\fr=[(4,iInt ((n:Nat):Int)),(3,.sl 103 (acc.map eInt).length),(0,.ptr 2001 0)] /\ σ = look [(103,some (rowI acc)),(2001,some (z3h l g1)),(2002,some (rowI g1.types))]/\m=n+1) (n:=(z07 l 3 g).1+1) ?_ ?_
  ·exact ⟨(z07 l 3 g).1,([]:List Int),(z07 l 3 g).2,oM0,(by rw [List.nil_append];rfl),rfl,(by simp only [z07] at hp3 ⊢;omega),(by simp;omega),rfl,rfl,rfl⟩
  rintro fr σ m ⟨n,acc,g1,hI0,hI1,hI2,hIb,hIa,rfl,rfl,rfl⟩
  refine tQ <| tQ <| tG <| sm 2 rfl <| nL ?_
  refine tC rfl (fun hc8=>?_) fun hc8=>?_
  ·have hn0:0<n:=by simpa using hc8
   obtain ⟨m,rfl⟩:∃ m,n=m+1:=⟨n - 1,by omega⟩
   have hp2:(z07 l 2 g1).1<2:=z1y oM0
   have hal:(acc.map eInt).length=acc.length:=by simp
   refine tSk <| tQ <| tBk <| tG <| sm 2 rfl <| cE rfl (ocr (z2r l 2 g1 oM0 oM0) y9y rfl (po2 rfl rfl) rfl (fun k (h:_)=>.inr h) rfl rfl) <| cV rfl (oB rfl rfl (z04 rfl oM0)) <| cE rfl (bSl rfl rfl uT35 tZ3 tS3 rfl rfl rfl rfl (fbk rfl) rfl) ?_
   refine cE rfl (aPp rfl rfl rfl rfl (by rfl) ((fun h=>h)) uT35 tB3 dC0 (by (simp [z08];done)) (by (simp [z08,PV.one];rfl)) (by simp [maxLen,z08];omega) (by simp [z08];omega)) ?_
   refine sm 1 rfl <| nL <| tG <| sm 1 rfl <| cV rfl (oB rfl rfl (z3i rfl oM0)) <| sm 1 rfl <| nL ?_
   refine ⟨_,_,?_,Sub.of (fr':=[(4,iInt ((m:Nat):Int)),(3,.sl 103 ((acc++[1+((z07 l 2 g1).1:Int)]).map eInt).length),(0,.ptr 2001 0)]) ⟨congrArg (fun z=>some (iInt z)) oM0,congrArg (fun z=>some (IV.sl _ z)) (by simp [z08,eInt]),rfl,trivial⟩,m,(acc++[1+((z07 l 2 g1).1:Int)]),(z07 l 2 g1).2,?_,?_,?_,?_,?_,rfl,(funext (lkq [103,2001,2002] rfl rfl ⟨(congrArg (fun z=>some (HO.row _ z)) (by simp [z08,eInt])),rfl,rfl,trivial⟩)),rfl⟩
   ·omega
   ·omega
   ·rw [<- hI1];simp [gTyN]
   ·rw [<- hI2];rfl
   ·show g1.pos+1+m<=1000000
    omega
   simp;omega
  refine tEx <| tQ <| Tr.freeze (t:=3) (k:=103) rfl rfl sI0 ?_
  obtain rfl:n=0:=by simp at hc8;omega
  simp only [gTyN,List.append_nil] at hI1 hI2
  subst hI2
  refine tG <| sm 2 rfl <| nL <| tRt <| rOk rfl ?_ (po2 rfl rfl)
  rw [<- hI1]
  rfl
theorem z2o (l:List UInt8) (ts:List Int) (g:Gn) (hb:g.types.length+ts.length<=1000000):SC Tryz.prog 34 [.ptr 2001 0,.pv (ints ts)] (gH l g) (fun _=>False) (.pv (ints (z0n ts g).1)) (gH l (z0n ts g).2):=by
  refine SC.of Tryz.func34 rfl (lb rfl) fun F ρ w=>?_
  refine Tr.lenOf (t:=1) rfl (fun hl=>?_)
  simp only [List.length_map] at hl
  refine tQ <| tG <| sm 1 rfl <| nL <| tQ <| tG <| sm 1 rfl <| nL <| tQ <| tQ <| Tr.grow (t:=5) (k:=105) ⟨3,1⟩ rfl rfl rfl rfl rfl <| tG ?_
  refine sm 1 rfl <| nL <| tBk <| Tr.sub (Sub.of (fr':=[(6,iInt 0),(5,.sl 105 (([]:List Int).map eInt).length),(0,.ptr 2001 0),(1,.pv (ints ts))]) ⟨rfl,rfl,rfl,rfl,trivial⟩) <| Tr.heap (σ':=look [(105,some (rowI ([]:List Int))),(2001,some (z3h l g)),(2002,some (rowI g.types))]) (lkq [105,2001,2002] rfl rfl ⟨rfl,rfl,rfl,trivial⟩) ?_
  refine Tr.loop (fun fr σ m=>∃ (i:Nat) (acc:List Int) (g1:Gn),(i<=ts.length)/\(acc++(z0n (ts.drop i) g1).1=(z0n ts g).1)/\((z0n (ts.drop i) g1).2=(z0n ts g).2)/\(g1.types.length+(ts.length - i)<=1000000)/\(acc.length=i)/\fr=[(6,iInt i),(5,.sl 105 (acc.map eInt).length),(0,.ptr 2001 0),(1,.pv (ints ts))] /\ σ = look [(105,some (rowI acc)),(2001,some (z3h l g1)),(2002,some (rowI g1.types))]/\m=ts.length - i) (n:=ts.length - 0) ?_ ?_
  ·exact ⟨0,([]:List Int),g,Nat.zero_le _,sI0,rfl,hb,rfl,rfl,rfl,rfl⟩
  rintro fr σ m ⟨i,acc,g1,hI0,hI1,hI2,hIb,hIa,rfl,rfl,rfl⟩
  refine tQ <| tQ <| tG <| sm 2 rfl <| cV rfl (oSm uT35 rfl) <| sm 1 rfl <| nL ?_
  refine tC rfl (fun hc10=>?_) fun hc10=>?_
  ·have hlt:i<ts.length:=by simpa using hc10
   have hd:=List.drop_eq_getElem_cons hlt
   have hm:=List.getElem_mem hlt
   have hi:=z0a (f:=eInt) (List.getElem?_eq_getElem hlt)
   generalize ts[i]=x at hd hm hi
   have hal:(acc.map eInt).length=acc.length:=by simp
   refine tSk <| tQ <| tBk <| tG <| sm 4 rfl <| cV rfl (iSq rfl rfl rfl uT35 hi tS3 rfl (by rfl)) <| sm 1 rfl <| cE rfl (ocr (zf5 l x g1 oM0) ent35 rfl (po2 rfl rfl) rfl (fun k (h:_)=>.inr h) rfl rfl) <| cE rfl (bSl rfl rfl uT35 tZ3 tS3 rfl rfl rfl rfl (fbk rfl) rfl) ?_
   refine cE rfl (aPp rfl rfl rfl rfl (by rfl) ((fun h=>h)) uT35 tB3 dC0 (by (simp [z08];done)) (by (simp [z08,PV.one];rfl)) (by simp [maxLen,z08];omega) (by simp [z08];omega)) ?_
   refine sm 1 rfl <| nL <| tG <| sm 1 rfl <| cV rfl (oB rfl rfl (z04 rfl oM0)) <| sm 1 rfl <| nL ?_
   refine ⟨_,_,?_,Sub.of (fr':=[(6,iInt (i+1)),(5,.sl 105 ((acc++[(z0b x g1).1]).map eInt).length),(0,.ptr 2001 0),(1,.pv (ints ts))]) ⟨rfl,congrArg (fun z=>some (IV.sl _ z)) (by simp [z08,eInt]),rfl,rfl,trivial⟩,(i+1),(acc++[(z0b x g1).1]),(z0b x g1).2,?_,?_,?_,?_,?_,rfl,(funext (lkq [105,2001,2002] rfl rfl ⟨(congrArg (fun z=>some (HO.row _ z)) (by simp [z08,eInt])),rfl,rfl,trivial⟩)),rfl⟩
   ·omega
   ·omega
   ·rw [<- hI1,hd];simp [z0n]
   ·rw [<- hI2,hd];rfl
   ·simp only [z0b,List.length_append,List.length_cons,List.length_nil]
    omega
   simp [hIa]
  refine tEx <| tQ <| Tr.freeze (t:=5) (k:=105) rfl rfl sI0 ?_
  have hge:ts.length<=i:=by simpa using hc10
  rw [List.drop_eq_nil_of_le hge] at hI1 hI2
  simp only [z0n,List.append_nil] at hI1 hI2
  subst hI2
  rw [<- hI1]
  refine tG <| sm 2 rfl <| nL <| tRt <| rOk rfl rfl (po2 rfl rfl)
theorem yg4 (l:List UInt8) (ts:List Int) (g:Gn) (hb:g.types.length+ts.length<=1000000):SC Tryz.prog 34 [.ptr 2001 0,.pv (ints ts)] (gH l g) (fun _=>False) (.sl 2005 ((z0n ts g).1.map eInt).length) ((2005,rowI (z0n ts g).1)::gH l (z0n ts g).2):=by
  refine SC.of Tryz.func34 rfl (lb rfl) fun F ρ w=>?_
  refine Tr.lenOf (t:=1) rfl (fun hl=>?_)
  simp only [List.length_map] at hl
  refine tQ <| tG <| sm 1 rfl <| nL <| tQ <| tG <| sm 1 rfl <| nL <| tQ <| tQ <| Tr.grow (t:=5) (k:=2005) ⟨3,1⟩ rfl rfl rfl rfl rfl <| tG ?_
  refine sm 1 rfl <| nL <| tBk <| Tr.sub (Sub.of (fr':=[(6,iInt 0),(5,.sl 2005 (([]:List Int).map eInt).length),(0,.ptr 2001 0),(1,.pv (ints ts))]) ⟨rfl,rfl,rfl,rfl,trivial⟩) <| Tr.heap (σ':=look [(2005,some (rowI ([]:List Int))),(2001,some (z3h l g)),(2002,some (rowI g.types))]) (lkq [2005,2001,2002] rfl rfl ⟨rfl,rfl,rfl,trivial⟩) ?_
  refine Tr.loop (fun fr σ m=>∃ (i:Nat) (acc:List Int) (g1:Gn),(i<=ts.length)/\(acc++(z0n (ts.drop i) g1).1=(z0n ts g).1)/\((z0n (ts.drop i) g1).2=(z0n ts g).2)/\(g1.types.length+(ts.length - i)<=1000000)/\(acc.length=i)/\fr=[(6,iInt i),(5,.sl 2005 (acc.map eInt).length),(0,.ptr 2001 0),(1,.pv (ints ts))] /\ σ = look [(2005,some (rowI acc)),(2001,some (z3h l g1)),(2002,some (rowI g1.types))]/\m=ts.length - i) (n:=ts.length - 0) ?_ ?_
  ·exact ⟨0,([]:List Int),g,Nat.zero_le _,sI0,rfl,hb,rfl,rfl,rfl,rfl⟩
  rintro fr σ m ⟨i,acc,g1,hI0,hI1,hI2,hIb,hIa,rfl,rfl,rfl⟩
  refine tQ <| tQ <| tG <| sm 2 rfl <| cV rfl (oSm uT35 rfl) <| sm 1 rfl <| nL ?_
  refine tC rfl (fun hc10=>?_) fun hc10=>?_
  ·have hlt:i<ts.length:=by simpa using hc10
   have hd:=List.drop_eq_getElem_cons hlt
   have hm:=List.getElem_mem hlt
   have hi:=z0a (f:=eInt) (List.getElem?_eq_getElem hlt)
   generalize ts[i]=x at hd hm hi
   have hal:(acc.map eInt).length=acc.length:=by simp
   refine tSk <| tQ <| tBk <| tG <| sm 4 rfl <| cV rfl (iSq rfl rfl rfl uT35 hi tS3 rfl (by rfl)) <| sm 1 rfl <| cE rfl (ocr (zf5 l x g1 oM0) ent35 rfl (po2 rfl rfl) rfl (fun k (h:_)=>.inr h) rfl rfl) <| cE rfl (bSl rfl rfl uT35 tZ3 tS3 rfl rfl rfl rfl (fbk rfl) rfl) ?_
   refine cE rfl (aPp rfl rfl rfl rfl (by rfl) ((fun h=>h)) uT35 tB3 dC0 (by (simp [z08];done)) (by (simp [z08,PV.one];rfl)) (by simp [maxLen,z08];omega) (by simp [z08];omega)) ?_
   refine sm 1 rfl <| nL <| tG <| sm 1 rfl <| cV rfl (oB rfl rfl (z04 rfl oM0)) <| sm 1 rfl <| nL ?_
   refine ⟨_,_,?_,Sub.of (fr':=[(6,iInt (i+1)),(5,.sl 2005 ((acc++[(z0b x g1).1]).map eInt).length),(0,.ptr 2001 0),(1,.pv (ints ts))]) ⟨rfl,congrArg (fun z=>some (IV.sl _ z)) (by simp [z08,eInt]),rfl,rfl,trivial⟩,(i+1),(acc++[(z0b x g1).1]),(z0b x g1).2,?_,?_,?_,?_,?_,rfl,(funext (lkq [2005,2001,2002] rfl rfl ⟨(congrArg (fun z=>some (HO.row _ z)) (by simp [z08,eInt])),rfl,rfl,trivial⟩)),rfl⟩
   ·omega
   ·omega
   ·rw [<- hI1,hd];simp [z0n]
   ·rw [<- hI2,hd];rfl
   ·simp only [z0b,List.length_append,List.length_cons,List.length_nil]
    omega
   simp [hIa]
  refine tEx <| tQ ?_
  have hge:ts.length<=i:=by simpa using hc10
  rw [List.drop_eq_nil_of_le hge] at hI1 hI2
  simp only [z0n,List.append_nil] at hI1 hI2
  subst hI2
  rw [<- hI1]
  refine tG <| sm 2 rfl <| nL <| tRt <| rOk rfl rfl (po3 rfl rfl rfl)
set_option maxRecDepth 20000
theorem y85 (l:List UInt8) (seen:List Int) (g:Gn) (hs:InR g.types seen) (hb:g.pos<=999980) (hbt:g.types.length<=999990) (hsl:seen.length<=1000000):SC Tryz.prog 51 [.ptr 2001 0,.sl 2003 (seen.map eInt).length] (gHs l g seen) (fun _=>False) (.pv (ndv (z1m l seen g).1)) (gHs l (z1m l seen g).2 seen):=by
  refine SC.sameR (SC.vc tb {} [] Tryz.func51 rfl rfl ?_) fun k _ h=>h.elim
  have h0:=z2r l 12 g oM0 oM0
  have h12:(z07 l 12 g).1<12:=z1y oM0
  have hp:(z07 l 12 g).2.pos=g.pos+1:=by simp only [z07]
  have hs1:InR (z07 l 12 g).2.types seen:=by simp only [z07];exact hs
  have ht:(z07 l 12 g).2.types.length=g.types.length:=by simp only [z07]
  unfold z1m
  generalize z07 l 12 g=A at h0 h12 hp hs1 ht ⊢
  obtain ⟨k,g1⟩:=A
  dsimp only at h0 h12 hp hs1 ht ⊢
  have hN:(gNums.map eInt)[(z07 l 6 g1).1]? = some [vInt (gNums.getD (z07 l 6 g1).1 0)]:=yb2 (z1y oM0)
  have hO:(y43.map eInt)[(z07 l 4 g1).1]? = some [vInt (y43.getD (z07 l 4 g1).1 0)]:=yb2 (z1y oM0)
  have hp11:(z07 l 11 g1).1<11:=z1y oM0
  have hp6:(z07 l 6 g1).1<6:=z1y oM0
  have hk:k=0∨k=1∨k=2∨k=3∨k=4∨k=5∨k=6∨k=7∨k=8∨k=9∨k=10∨k=11:=by omega
  rcases hk with rfl | rfl | rfl | rfl | rfl | rfl | rfl | rfl | rfl | rfl | rfl | rfl
  · exact ⟨[],h0,sR,⟨rfl,rfl,trivial⟩,rfl,[],z2r l 6 g1 oM0 oM0,sR,⟨rfl,rfl,trivial⟩,rfl,hN,rfl,[],z2o l [1] (z07 l 6 g1).2 (by simp [z07,z1j];omega),sR,⟨rfl,rfl,trivial⟩,rfl,sP (z18 _),rfl,rfl,rfl,trivial⟩
  · exact ⟨[],h0,sR,⟨rfl,rfl,trivial⟩,rfl,[],z2r l 2 g1 oM0 oM0,sR,⟨rfl,rfl,trivial⟩,rfl,[],z2o l [2] (z07 l 2 g1).2 (by simp [z07,z1j];omega),sR,⟨rfl,rfl,trivial⟩,rfl,sP (z18 _),rfl,rfl,rfl,trivial⟩
  · exact ⟨[],h0,sR,⟨rfl,rfl,trivial⟩,rfl,[],z2r l 4 g1 oM0 oM0,sR,⟨rfl,rfl,trivial⟩,rfl,hO,rfl,[],z20 l seen [1] (z07 l 4 g1).2 hs1 (by simp [z07];omega) hsl,sR,⟨rfl,rfl,rfl,trivial⟩,rfl,[],z2o l [1] (z1l l seen [1] (z07 l 4 g1).2).2 (by simp [z07,z1j];omega),sR,⟨rfl,rfl,trivial⟩,rfl,sP (z18 _),rfl,rfl,rfl,trivial⟩
  · exact ⟨[],h0,sR,⟨rfl,rfl,trivial⟩,rfl,[],z20 l seen [2] g1 hs1 (by simp [z07];omega) hsl,sR,⟨rfl,rfl,rfl,trivial⟩,rfl,[],z2o l [2] (z1l l seen [2] g1).2 (by simp [z07,z1j];omega),sR,⟨rfl,rfl,trivial⟩,rfl,sP (z18 _),rfl,rfl,rfl,trivial⟩
  · exact ⟨[],h0,sR,⟨rfl,rfl,trivial⟩,rfl,[],z2r l 11 g1 oM0 oM0,sR,⟨rfl,rfl,trivial⟩,rfl,z04 rfl oM0,[],z20 l seen [1,1] (z07 l 11 g1).2 hs1 (by simp [z07];omega) hsl,sR,⟨rfl,rfl,rfl,trivial⟩,rfl,[],z2o l [1] (z1l l seen [1,1] (z07 l 11 g1).2).2 (by simp [z07,z1j];omega),sR,⟨rfl,rfl,trivial⟩,rfl,sP (z18 _),rfl,rfl,rfl,trivial⟩
  · exact ⟨[],h0,sR,⟨rfl,rfl,trivial⟩,rfl,[],z2r l 11 g1 oM0 oM0,sR,⟨rfl,rfl,trivial⟩,rfl,z04 rfl oM0,[],z20 l seen [1,1] (z07 l 11 g1).2 hs1 (by simp [z07];omega) hsl,sR,⟨rfl,rfl,rfl,trivial⟩,rfl,[],z2o l [1] (z1l l seen [1,1] (z07 l 11 g1).2).2 (by simp [z07,z1j];omega),sR,⟨rfl,rfl,trivial⟩,rfl,sP (z18 _),rfl,rfl,rfl,trivial⟩
  · exact ⟨[],h0,sR,⟨rfl,rfl,trivial⟩,rfl,[],z2r l 11 g1 oM0 oM0,sR,⟨rfl,rfl,trivial⟩,rfl,z04 rfl oM0,[],z20 l seen [1,1] (z07 l 11 g1).2 hs1 (by simp [z07];omega) hsl,sR,⟨rfl,rfl,rfl,trivial⟩,rfl,[],z2o l [1] (z1l l seen [1,1] (z07 l 11 g1).2).2 (by simp [z07,z1j];omega),sR,⟨rfl,rfl,trivial⟩,rfl,sP (z18 _),rfl,rfl,rfl,trivial⟩
  · exact ⟨[],h0,sR,⟨rfl,rfl,trivial⟩,rfl,[],z2r l 6 g1 oM0 oM0,sR,⟨rfl,rfl,trivial⟩,rfl,z04 rfl oM0,[],z20 l seen [1,1] (z07 l 6 g1).2 hs1 (by simp [z07];omega) hsl,sR,⟨rfl,rfl,rfl,trivial⟩,rfl,[],z2o l [2] (z1l l seen [1,1] (z07 l 6 g1).2).2 (by simp [z07,z1j];omega),sR,⟨rfl,rfl,trivial⟩,rfl,sP (z18 _),rfl,rfl,rfl,trivial⟩
  · exact ⟨[],h0,sR,⟨rfl,rfl,trivial⟩,rfl,[],z2r l 6 g1 oM0 oM0,sR,⟨rfl,rfl,trivial⟩,rfl,z04 rfl oM0,[],z20 l seen [1,1] (z07 l 6 g1).2 hs1 (by simp [z07];omega) hsl,sR,⟨rfl,rfl,rfl,trivial⟩,rfl,[],z2o l [2] (z1l l seen [1,1] (z07 l 6 g1).2).2 (by simp [z07,z1j];omega),sR,⟨rfl,rfl,trivial⟩,rfl,sP (z18 _),rfl,rfl,rfl,trivial⟩
  · exact ⟨[],h0,sR,⟨rfl,rfl,trivial⟩,rfl,[],z20 l seen [1] g1 hs1 (by simp [z07];omega) hsl,sR,⟨rfl,rfl,rfl,trivial⟩,rfl,[],z2o l [1] (z1l l seen [1] g1).2 (by simp [z07,z1j];omega),sR,⟨rfl,rfl,trivial⟩,rfl,sP (z18 _),rfl,rfl,rfl,trivial⟩
  · exact ⟨[],h0,sR,⟨rfl,rfl,trivial⟩,rfl,[],z20 l seen [1,1] g1 hs1 (by simp [z07];omega) hsl,sR,⟨rfl,rfl,rfl,trivial⟩,rfl,sP (z18 _),rfl,rfl,rfl,trivial⟩
  · have h4:=z2r l 4 g1 oM0 oM0
    have hl4:(z07 l 4 g1).1<4:=z1y oM0
    have hp4:(z07 l 4 g1).2.pos=g1.pos+1:=by simp only [z07]
    have hs4:InR (z07 l 4 g1).2.types seen:=by simp only [z07];exact hs1
    have ht4:(z07 l 4 g1).2.types.length=g1.types.length:=by simp only [z07]
    generalize z07 l 4 g1=A at h4 hl4 hp4 hs4 ht4 ⊢
    obtain ⟨j,g2⟩:=A
    dsimp only at h4 hl4 hp4 hs4 ht4 ⊢
    have hj:j=0∨j=1∨j=2∨j=3:=by omega
    rcases hj with rfl | rfl | rfl | rfl
    · exact ⟨[],h0,sR,⟨rfl,rfl,trivial⟩,rfl,[],h4,sR,⟨rfl,rfl,trivial⟩,rfl,[],z20 l seen [1,2] g2 hs4 (by simp [z07];omega) hsl,sR,⟨rfl,rfl,rfl,trivial⟩,rfl,[],z2o l [1] (z1l l seen [1,2] g2).2 (by simp [z07,z1j];omega),sR,⟨rfl,rfl,trivial⟩,rfl,sP (z18 _),rfl,rfl,rfl,trivial⟩
    · exact ⟨[],h0,sR,⟨rfl,rfl,trivial⟩,rfl,[],h4,sR,⟨rfl,rfl,trivial⟩,rfl,[],z2o l [1] g2 (by simp [z07,z1j];omega),sR,⟨rfl,rfl,trivial⟩,rfl,sP (z18 _),rfl,rfl,rfl,trivial⟩
    · exact ⟨[],h0,sR,⟨rfl,rfl,trivial⟩,rfl,[],h4,sR,⟨rfl,rfl,trivial⟩,rfl,[],z20 l seen [1] g2 hs4 (by simp [z07];omega) hsl,sR,⟨rfl,rfl,rfl,trivial⟩,rfl,sP (z18 _),rfl,rfl,rfl,trivial⟩
    · exact ⟨[],h0,sR,⟨rfl,rfl,trivial⟩,rfl,[],h4,sR,⟨rfl,rfl,trivial⟩,rfl,[],z20 l seen [1] g2 hs4 (by simp [z07];omega) hsl,sR,⟨rfl,rfl,rfl,trivial⟩,rfl,sP (z18 _),rfl,rfl,rfl,trivial⟩
set_option maxRecDepth 20000
set_option maxHeartbeats 2000000
theorem sc_gEnd (l:List UInt8) (seen:List Int) (p:Plc) (g:Gn) (hs:InR g.types seen) (hb:g.pos<=999980) (hsl:seen.length<=1000000) (hp1:p.Yield.length<=2) (hp2:p.Next.length<=2) (hp3:p.Left.length<=2):SC Tryz.prog 55 [.ptr 2001 0,.sl 2003 (seen.map eInt).length,.pv (plcv p)] (gHs l g seen) (fun _=>False) (.pv (ndv (gEnd l seen p g).1)) (gHs l (gEnd l seen p g).2 seen):=by
  refine SC.sameR (SC.vc tb {} [] Tryz.func55 rfl rfl ?_) fun k _ h=>h.elim
  have h0:=z2r l 6 g oM0 oM0
  have h6:(z07 l 6 g).1<6:=z1y oM0
  have hp:(z07 l 6 g).2.pos=g.pos+1:=by simp only [z07]
  have hs1:InR (z07 l 6 g).2.types seen:=by simp only [z07];exact hs
  unfold gEnd
  generalize z07 l 6 g=A at h0 h6 hp hs1 ⊢
  obtain ⟨k,g1⟩:=A
  obtain ⟨b1,b2,Y,N,L⟩:=p
  dsimp only at h0 h6 hp hs1 hp1 hp2 hp3 ⊢
  rcases (show k=0∨k=1∨k=2∨k=3∨k=4∨k=5 by omega) with rfl | rfl | rfl | rfl | rfl | rfl<;>cases b1<;>cases b2<;>first
    | exact ⟨[],h0,sR,⟨rfl,rfl,trivial⟩,rfl,[],z20 l seen Y g1 hs1 oM0 hsl,sR,⟨rfl,rfl,rfl,trivial⟩,rfl,sP (z18 _),rfl,rfl,rfl,trivial⟩
    | exact ⟨[],h0,sR,⟨rfl,rfl,trivial⟩,rfl,[],z20 l seen N g1 hs1 oM0 hsl,sR,⟨rfl,rfl,rfl,trivial⟩,rfl,sP (z18 _),rfl,rfl,rfl,trivial⟩
    | exact ⟨[],h0,sR,⟨rfl,rfl,trivial⟩,rfl,rfl,[],z20 l seen N g1 hs1 oM0 hsl,sR,⟨rfl,rfl,rfl,trivial⟩,rfl,sP (z18 _),rfl,rfl,rfl,trivial⟩
    | exact ⟨[],h0,sR,⟨rfl,rfl,trivial⟩,rfl,[],z20 l seen L g1 hs1 oM0 hsl,sR,⟨rfl,rfl,rfl,trivial⟩,rfl,sP (z18 _),rfl,rfl,rfl,trivial⟩
    | exact ⟨[],h0,sR,⟨rfl,rfl,trivial⟩,rfl,rfl,[],z20 l seen L g1 hs1 oM0 hsl,sR,⟨rfl,rfl,rfl,trivial⟩,rfl,sP (z18 _),rfl,rfl,rfl,trivial⟩
    | exact ⟨[],h0,sR,⟨rfl,rfl,trivial⟩,rfl,[],z20 l seen [1] g1 hs1 (by simp only [List.length_cons,List.length_nil];omega) hsl,sR,⟨rfl,rfl,rfl,trivial⟩,rfl,sP (z18 _),rfl,rfl,rfl,trivial⟩
    | exact ⟨[],h0,sR,⟨rfl,rfl,trivial⟩,rfl,rfl,[],z20 l seen [1] g1 hs1 (by simp only [List.length_cons,List.length_nil];omega) hsl,sR,⟨rfl,rfl,rfl,trivial⟩,rfl,sP (z18 _),rfl,rfl,rfl,trivial⟩
def qS (l:List UInt8) (all:List Int) (g1:Gn) (m1:Nat):Nd × Gn:=z1m l all { g1 with left:=m1 }
def qK (l:List UInt8) (all:List Int) (g1:Gn) (m1:Nat):Nat × Gn:=z07 l 6 (qS l all g1 m1).2
def qT (l:List UInt8) (all:List Int) (g1:Gn) (m1:Nat):List Int × Gn:=z0q l (qK l all g1 m1).2
def qC (l:List UInt8) (all:List Int) (g1:Gn) (m1:Nat):List Int × Gn:=z1l l all [2] (qT l all g1 m1).2
def qP (l:List UInt8) (all:List Int) (g1:Gn) (m1:Nat) (p:Plc):Plc:=⟨true,p.Loop,(qT l all g1 m1).1,p.Next,p.Left⟩
def qA (l:List UInt8) (m:Nat) (all:List Int) (p:Plc) (g1:Gn) (m1:Nat):List Nd × Gn:=z2y l m all (qP l all g1 m1 p) (qC l all g1 m1).2
def qB (l:List UInt8) (m:Nat) (all:List Int) (p:Plc) (g1:Gn) (m1:Nat):List Nd × Gn:=z2y l m all (qP l all g1 m1 p) (qA l m all p g1 m1).2
def qO (l:List UInt8) (all:List Int) (g1:Gn) (m1:Nat):List Int × Gn:=z0q l (qT l all g1 m1).2
def qE (l:List UInt8) (all:List Int) (g1:Gn) (m1:Nat):List Int × Gn:=z1l l all (qT l all g1 m1).1 (qO l all g1 m1).2
def qQ (l:List UInt8) (all:List Int) (g1:Gn) (m1:Nat):List Int × Gn:=z0n (qT l all g1 m1).1 (qE l all g1 m1).2
def qL (l:List UInt8) (all:List Int) (g1:Gn) (m1:Nat):Plc:=⟨false,true,[],(qT l all g1 m1).1,(qO l all g1 m1).1⟩
def qD (l:List UInt8) (m:Nat) (all:List Int) (g1:Gn) (m1:Nat):List Nd × Gn:=z2y l m (all++(qQ l all g1 m1).1) (qL l all g1 m1) (qQ l all g1 m1).2
def gHr (k:Nat) (l:List UInt8) (g:Gn) (seen:List Int):List (Nat × HO):=[(2001,z3h l g),(2002,rowI g.types),(k,rowI seen)]
theorem zt0 (l:List UInt8) (seen ts:List Int) (g:Gn) (hs:InR g.types seen) (hb:g.pos+ts.length<=1000000) (hsl:seen.length<=1000000):SC Tryz.prog 53 [.ptr 2001 0,.sl 2010 (seen.map eInt).length,.pv (ints ts)] (gHr 2010 l g seen) (fun _=>False) (.pv (ints (z1l l seen ts g).1)) (gHr 2010 l (z1l l seen ts g).2 seen):=SC.sw 2003 2010 (z20 l seen ts g hs hb hsl)
theorem y51 (l:List UInt8) (seen:List Int) (g:Gn) (hs:InR g.types seen) (hb:g.pos<=999980) (hbt:g.types.length<=999990) (hsl:seen.length<=1000000):SC Tryz.prog 51 [.ptr 2001 0,.sl 2010 (seen.map eInt).length] (gHr 2010 l g seen) (fun _=>False) (.pv (ndv (z1m l seen g).1)) (gHr 2010 l (z1m l seen g).2 seen):=SC.sw 2003 2010 (y85 l seen g hs hb hbt hsl)
theorem y6u (l:List UInt8) (seen:List Int) (p:Plc) (g:Gn) (hs:InR g.types seen) (hb:g.pos<=999980) (hsl:seen.length<=1000000) (hp:p.small):SC Tryz.prog 55 [.ptr 2001 0,.sl 2010 (seen.map eInt).length,.pv (plcv p)] (gHr 2010 l g seen) (fun _=>False) (.pv (ndv (gEnd l seen p g).1)) (gHr 2010 l (gEnd l seen p g).2 seen):=SC.sw 2003 2010 (sc_gEnd l seen p g hs hb hsl hp.1 hp.2.1 hp.2.2)
def LSCg (l:List UInt8) (d:Nat):Prop:=∀ (seen:List Int) (p:Plc) (g:Gn),InR g.types seen->p.small->g.pos+60*g.left<=900000->g.types.length+10*g.left<=900000->seen.length+10*g.left<=900000 ->
  SC Tryz.prog 36 [.ptr 2001 0,.sl 2003 (seen.map eInt).length,.pv (plcv p),iInt (d:Int)] (gHs l g seen) (fun _=>False) (.pv (z0o (z2y l d seen p g).1)) (gHs l (z2y l d seen p g).2 seen)
theorem LSCg.at2010 {l:List UInt8} {d:Nat} (h:LSCg l d) (seen:List Int) (p:Plc) (g:Gn) (h1:InR g.types seen) (h2:p.small) (h3:g.pos+60*g.left<=900000) (h4:g.types.length+10*g.left<=900000) (h5:seen.length+10*g.left<=900000) :
    SC Tryz.prog 36 [.ptr 2001 0,.sl 2010 (seen.map eInt).length,.pv (plcv p),iInt (d:Int)] (gHr 2010 l g seen) (fun _=>False) (.pv (z0o (z2y l d seen p g).1)) (gHr 2010 l (z2y l d seen p g).2 seen):=SC.sw 2003 2010 (h seen p g h1 h2 h3 h4 h5)
theorem LSCg.at2019 {l:List UInt8} {d:Nat} (h:LSCg l d) (seen:List Int) (p:Plc) (g:Gn) (h1:InR g.types seen) (h2:p.small) (h3:g.pos+60*g.left<=900000) (h4:g.types.length+10*g.left<=900000) (h5:seen.length+10*g.left<=900000) :
    SC Tryz.prog 36 [.ptr 2001 0,.sl 2019 (seen.map eInt).length,.pv (plcv p),iInt (d:Int)] (gHr 2019 l g seen) (fun _=>False) (.pv (z0o (z2y l d seen p g).1)) (gHr 2019 l (z2y l d seen p g).2 seen):=SC.sw 2003 2019 (h seen p g h1 h2 h3 h4 h5)
theorem y2u (l:List UInt8) (d:Nat) (hd3:d<=100) (ih:∀ m,d=m+1->LSCg l m) (seen:List Int) (p:Plc) (g:Gn) (hs:InR g.types seen) (hp:p.small) (hb1:g.pos+60*g.left<=900000) (hb2:g.types.length+10*g.left<=900000) (hb3:seen.length+10*g.left<=900000):SC Tryz.prog 36 [.ptr 2001 0,.sl 2003 (seen.map eInt).length,.pv (plcv p),iInt (d:Int)] (gHs l g seen) (fun _=>False) (.pv (z0o (z2y l d seen p g).1)) (gHs l (z2y l d seen p g).2 seen):=by
  refine SC.of Tryz.func36 rfl (lb rfl) fun F ρ w=>?_
  have h6:(z07 l 6 g).1<6:=z1y oM0
  have hsl0:(seen.map eInt).length=seen.length:=by simp
  refine tQ <| tG <| cE rfl (z2m rfl rfl) <| sm 1 rfl <| nL <| tQ <| tG <| sm 1 rfl <| nL <| tQ <| tG <| sm 1 rfl ?_
  refine nL <| tQ <| Tr.grow (t:=10) (k:=2010) ⟨3,1⟩ rfl rfl rfl rfl rfl <| tG <| sm 2 rfl ?_
  refine cE rfl (z5v rfl rfl rfl rfl rfl rfl rfl sI0 uT35 tB3 dC0 z5p z5t (by simp [maxLen];omega) (by simp;omega)) ?_
  refine sm 1 rfl <| nL <| tQ <| tQ <| Tr.grow (t:=9) (k:=109) ⟨43,8⟩ rfl rfl rfl rfl rfl <| tG <| sm 1 rfl <| cE rfl (ocr (z2r l 6 g oM0 oM0) y9y rfl (po2 rfl rfl) rfl (fun k (h:_)=>.inr h) rfl rfl) <| sm 1 rfl <| nL <| tBk <| Tr.sub (Sub.of (fr':=[(11,iInt (((z07 l 6 g).1:Nat):Int)),(10,.sl 2010 (seen.map eInt).length),(9,.sl 109 (([]:List Nd).map Nd.enc).length),(6,.pv (.ept [vBool p.If,vBool p.Loop,ints p.Yield,ints p.Next,ints p.Left] 0)),(0,.ptr 2001 0),(3,iInt (d:Int))]) ⟨rfl,congrArg (fun z=>some (IV.sl _ z)) sI0,rfl,rfl,rfl,rfl,trivial⟩) ?_
  refine Tr.heap (σ':=look [(109,some (.row ⟨43,8⟩ (([]:List Nd).map Nd.enc))),(2010,some (rowI seen)),(2001,some (z3h l (z07 l 6 g).2)),(2002,some (rowI (z07 l 6 g).2.types)),(2003,some (rowI seen))]) (lkq [109,2010,2001,2002,2003] rfl rfl ⟨rfl,(congrArg (fun z=>some (HO.row _ z)) sI0),rfl,rfl,rfl,trivial⟩) ?_
  refine Tr.loop (fun fr σ m=>∃ (n:Nat) (out:List Nd) (all:List Int) (g1:Gn),(z3g l (gRec l d) p n out all g1=z2y l d seen p g)/\(InR g1.types all)/\(g1.pos+60*g1.left<=900001)/\(g1.types.length+10*g1.left<=900000)/\(all.length+10*g1.left<=900000)/\(out.length+n<=5)/\fr=[(11,iInt ((n:Nat):Int)),(10,.sl 2010 (all.map eInt).length),(9,.sl 109 (out.map Nd.enc).length),(6,.pv (.ept [vBool p.If,vBool p.Loop,ints p.Yield,ints p.Next,ints p.Left] 0)),(0,.ptr 2001 0),(3,iInt (d:Int))] /\ σ = look [(109,some (.row ⟨43,8⟩ (out.map Nd.enc))),(2010,some (rowI all)),(2001,some (z3h l g1)),(2002,some (rowI g1.types)),(2003,some (rowI seen))]/\m=n+1) (n:=(z07 l 6 g).1+1) ?_ ?_
  ·exact ⟨(z07 l 6 g).1,([]:List Nd),seen,(z07 l 6 g).2,(z5s l d seen p g).symm,hs,(by simp only [z07];omega),hb2,hb3,(by simp;omega),rfl,rfl,rfl⟩
  rintro fr σ m ⟨n,out,all,g1,hI,hIn,hIp,hIt,hIa,hIo,rfl,rfl,rfl⟩
  refine tQ <| tQ <| tG <| sm 3 rfl ?_
  refine wS 27 rfl (fun hb27=>?_) fun hb27=>?_
  ·refine sm 1 rfl <| yV rfl rfl (nCk rfl rfl rfl) <| sm 4 rfl <| nL ?_
   refine tC rfl (fun hc33=>?_) fun hc33=>?_
   ·refine tSk <| tQ <| tBk <| tQ ?_
    have hn0:0<n:=by simpa using hb27
    obtain ⟨n1,rfl⟩:∃ n1,n=n1+1:=⟨n - 1,by omega⟩
    have hl0:0<g1.left:=by simpa using hc33
    have hleft:¬ g1.left=0:=by omega
    obtain ⟨m1,hm1⟩:∃ m1,g1.left=m1+1:=⟨g1.left - 1,by omega⟩
    have hXb:=bd_any l (ya9 l d) all p hp g1 hl0
    have hXo:=y5x l (rec:=gRec l d) all p g1
    have hXl:(gAny l (gRec l d) all p g1).2.left+1<=g1.left:=any_left l (ya9 l d) all p hp g1 hl0
    refine tG <| sm 2 rfl <| cV rfl (nCk rfl rfl rfl) <| sm 2 rfl <| cV rfl (oB rfl rfl (z3i rfl oM0)) <| cV rfl (nCk rfl rfl rfl) <| sm 1 rfl <| c0 (sBx rfl rfl rfl rfl ((fun h=>h)) tS3 (rfl) (lb rfl)) <| nL <| tQ <| Tr.heap (σ':=look [(109,some (.row ⟨43,8⟩ (out.map Nd.enc))),(2010,some (rowI all)),(2001,some (z3h l { g1 with left:=m1 })),(2002,some (rowI { g1 with left:=m1 }.types)),(2003,some (rowI seen))]) (lkq [2001,109,2010,2002,2003] rfl rfl ⟨(by exact congrArg (fun z=>some (HO.box [.pv (bts l),iInt (g1.pos:Int),.sl 2002 (g1.types.map eInt).length,iInt z])) (by show (g1.left:Int) - 1=(m1:Int);omega)),rfl,rfl,rfl,rfl,trivial⟩) <| tG ?_
    refine sm 2 rfl <| cE rfl (ocr (y51 l all { g1 with left:=m1 } hIn (by show g1.pos<=999980;omega) (by show g1.types.length<=999990;omega) oM0) ent51 rfl (po3 rfl rfl rfl) rfl (fun k (h:_)=>.inr h) rfl rfl) <| cE rfl (aLc (k:=112) rfl tZ43 rfl rfl rfl rfl) <| c0 (sBA rfl rfl rfl rfl rfl ((fun h=>h)) tS43 (flk rfl) (lb rfl)) <| nL <| tQ ?_
    have e2:({ g1 with left:=g1.left - 1 }:Gn)={ g1 with left:=m1 }:=by rw [hm1];rfl
    have hSb:Bd 4 1 { g1 with left:=m1 } (qS l all g1 m1).2:=zp1 l all { g1 with left:=m1 }
    have hS1:=hSb.ps
    have hS2:=hSb.t1
    have hS3:=hSb.t2
    have hS4:=hSb.lf
    have hKb:Bd 1 0 (qS l all g1 m1).2 (qK l all g1 m1).2:=z8q l 6 (qS l all g1 m1).2
    have hK1:=hKb.ps
    have hK2:=hKb.t1
    have hK3:=hKb.t2
    have hK4:=hKb.lf
    dsimp only at hS1 hS2 hS3 hS4
    refine tG <| sm 1 rfl <| cE rfl (ocr (z2r l 6 (qS l all g1 m1).2 oM0 oM0) y9y rfl (po2 rfl rfl) rfl (fun k (h:_)=>.inr h) rfl rfl) <| sm 1 rfl <| nL <| tQ ?_
    refine Tr.cut (fr':=[(12,.ptr 112 0),(11,iInt ((n1+1:Nat):Int)),(10,.sl 2010 (all.map eInt).length),(9,.sl 109 (out.map Nd.enc).length),(6,.pv (.ept [vBool p.If,vBool p.Loop,ints p.Yield,ints p.Next,ints p.Left] 0)),(0,.ptr 2001 0),(3,iInt (d:Int))]) (σ':=look [(112,some (.box [.pv (vInt (gAny l (gRec l d) all p g1).1.kind),.pv (vInt (gAny l (gRec l d) all p g1).1.op),.pv (vInt (gAny l (gRec l d) all p g1).1.n),.pv (vStr (gAny l (gRec l d) all p g1).1.name),.pv (ints (gAny l (gRec l d) all p g1).1.args),.pv (ints (gAny l (gRec l d) all p g1).1.outs),.pv (ints (gAny l (gRec l d) all p g1).1.params),.pv (kids (gAny l (gRec l d) all p g1).1.kids)])),(109,some (.row ⟨43,8⟩ (out.map Nd.enc))),(2010,some (rowI all)),(2001,some (z3h l (gAny l (gRec l d) all p g1).2)),(2002,some (rowI (gAny l (gRec l d) all p g1).2.types)),(2003,some (rowI seen))]) ?_ ?_
    ·refine tBk <| tQ <| tG <| sm 3 rfl ?_
     refine wS 52 rfl (fun hb52=>?_) fun hb52=>?_
     ·refine sm 4 rfl <| nL ?_
      refine tC rfl (fun hc49=>?_) fun hc49=>?_
      ·have hk0:(z07 l 6 (qS l all g1 m1).2).1=0:=by simp at hb52;omega
       obtain ⟨m,rfl⟩:∃ m,d=m+1:=⟨d - 1,by simp at hc49;omega⟩
       obtain ⟨hTb,hTl⟩:Bd 3 0 (qK l all g1 m1).2 (qT l all g1 m1).2/\(qT l all g1 m1).1.length<=2:=z3q l (qK l all g1 m1).2
       have hT1:=hTb.ps
       have hT2:=hTb.t1
       have hT3:=hTb.t2
       have hT4:=hTb.lf
       have hXP:Plc.small (qP l all g1 m1 p):=⟨hTl,hp.2.1,hp.2.2⟩
       have hCb:Bd 1 0 (qT l all g1 m1).2 (qC l all g1 m1).2:=zh1 l all [2] (qT l all g1 m1).2
       have hC1:=hCb.ps
       have hC2:=hCb.t1
       have hC3:=hCb.t2
       have hC4:=hCb.lf
       have hAb:Bd 4 0 (qC l all g1 m1).2 (qA l m all p g1 m1).2:=z7o l m all (qP l all g1 m1 p) (qC l all g1 m1).2 hXP
       have hA1:=hAb.ps
       have hA2:=hAb.t1
       have hA3:=hAb.t2
       have hA4:=hAb.lf
       have hBb:Bd 4 0 (qA l m all p g1 m1).2 (qB l m all p g1 m1).2:=z7o l m all (qP l all g1 m1 p) (qA l m all p g1 m1).2 hXP
       have hB1:=hBb.ps
       have hB2:=hBb.t1
       have hB3:=hBb.t2
       have hB4:=hBb.lf
       refine tQ <| tG <| sm 1 rfl <| cE rfl (ocr (z9d l (qK l all g1 m1).2 oM0) y9z rfl (po2 rfl rfl) rfl (fun k (h:_)=>.inr h) rfl rfl) <| sm 1 rfl <| nL <| tQ <| tG <| sm 7 rfl <| cV rfl (bPu rfl rfl tZ78 tP78 rfl (fbk rfl) rfl) <| cE rfl (aLc (k:=115) rfl tZ78 rfl rfl rfl rfl) <| c0 (sBA rfl rfl rfl rfl rfl ((fun h=>h)) tS78 (flk rfl) (lb rfl)) ?_
       refine nL <| tQ <| Tr.freezeBox (t:=15) (k:=115) rfl rfl rfl <| tG <| sm 2 rfl <| cE rfl (bSl rfl rfl uT35 tZ3 tS3 rfl rfl rfl rfl (fbk rfl) rfl) ?_
       refine cE rfl (ocr (zt0 l all [2] (qT l all g1 m1).2 (hIn.mono oM0) (by simp only [List.length_cons,List.length_nil];omega) oM0) ent53 rfl (po3 rfl rfl rfl) rfl (fun k (h:_)=>.inr h) rfl rfl) ?_
       refine cV rfl (bPu rfl rfl tZ43 tP43 rfl (fbk rfl) rfl) <| c0 (sBA rfl rfl rfl rfl rfl ((fun h=>h)) tS43 (flk rfl) (lb rfl)) <| nL <| tQ <| Tr.fixNil (k:=112) rfl (fun h=>h) <| tG <| sm 2 rfl <| cV rfl (lEA rfl rfl Tryz.underlying78 rfl tS78 (lb rfl)) <| sm 1 rfl <| cV rfl (oB rfl rfl (z3i rfl oM0)) <| cE rfl (cRr ((ih m rfl).at2010 all (qP l all g1 m1 p) (qC l all g1 m1).2 (hIn.mono oM0) hXP oM0 oM0 oM0) y9x rfl rfl (sSm rfl (sSm rfl (sSm rfl (sSm (congrArg (fun z=>iInt z) oM0) Subs.nil)))) (po3 rfl rfl rfl) (by rfl) (fun k (h:_)=>.inr h) rfl (by rfl)) <| sm 1 rfl ?_
       refine nL <| tQ <| tG <| sm 3 rfl <| cV rfl (lEA rfl rfl Tryz.underlying78 rfl tS78 (lb rfl)) <| sm 1 rfl <| cV rfl (oB rfl rfl (z3i rfl oM0)) <| cE rfl (cRr ((ih m rfl).at2010 all (qP l all g1 m1 p) (qA l m all p g1 m1).2 (hIn.mono oM0) hXP oM0 oM0 oM0) y9x rfl rfl (sSm rfl (sSm rfl (sSm rfl (sSm (congrArg (fun z=>iInt z) oM0) Subs.nil)))) (po3 rfl rfl rfl) (by rfl) (fun k (h:_)=>.inr h) rfl (by rfl)) <| cE rfl (bSl rfl rfl uT41 tZ44 tS44 rfl rfl rfl rfl (fbk rfl) rfl) <| sm 1 rfl <| c0 (sBx rfl rfl rfl rfl ((fun h=>h)) tS41 (rfl) (lb rfl)) <| nL ?_
       refine tQ <| tG <| cV rfl (lBP rfl rfl rfl uT43 rfl tS43 (lb rfl) rfl trivial) <| cE rfl (ocq (z4b (.mk 10 0 0 z0p (qC l all g1 m1).1 [] [] [(qA l m all p g1 m1).1,(qB l m all p g1 m1).1]:Nd)) ya0 rfl rfl) <| sm 1 rfl <| nL ?_
       refine tC rfl (fun hc88=>?_) fun hc88=>?_
       ·have hX:gAny l (gRec l (m+1)) all p g1=((.mk 10 0 0 z0p (qC l all g1 m1).1 (z0n (qT l all g1 m1).1 (qB l m all p g1 m1).2).1 [] [(qA l m all p g1 m1).1,(qB l m all p g1 m1).1]:Nd),(z0n (qT l all g1 m1).1 (qB l m all p g1 m1).2).2):=by
          have hcl:z01 (.mk 10 0 0 z0p (qC l all g1 m1).1 [] [] [(qA l m all p g1 m1).1,(qB l m all p g1 m1).1]:Nd)=false:=by simpa using hc88
          unfold gAny
          simp only [gRec,e2]
          exact (if_pos hk0).trans (if_neg (fun h=>Bool.noConfusion (hcl.symm.trans h)))
        refine tG <| sm 2 rfl <| cE rfl (ocr (z2o l (qT l all g1 m1).1 (qB l m all p g1 m1).2 oM0) y7e rfl (po2 rfl rfl) rfl (fun k (h:_)=>.inr h) rfl rfl) <| sm 1 rfl <| c0 (sBx rfl rfl rfl rfl ((fun h=>h)) tS35 (rfl) (lb rfl)) <| nL ?_
        refine ⟨rfl,Sub.of ⟨rfl,rfl,rfl,rfl,rfl,rfl,rfl,trivial⟩,funext (lkq [112,109,2010,2001,2002,2003,115,2019] rfl rfl ⟨(by first | rfl | (rw [hX];rfl)),rfl,rfl,(by first | rfl | (rw [hX];rfl)),(by first | rfl | (rw [hX];rfl)),rfl,rfl,rfl,trivial⟩)⟩
       have hX:gAny l (gRec l (m+1)) all p g1=((.mk 10 0 0 z0p (qC l all g1 m1).1 [] [] [(qA l m all p g1 m1).1,(qB l m all p g1 m1).1]:Nd),(qB l m all p g1 m1).2):=by
         have hcl:z01 (.mk 10 0 0 z0p (qC l all g1 m1).1 [] [] [(qA l m all p g1 m1).1,(qB l m all p g1 m1).1]:Nd)=true:=by simpa using hc88
         unfold gAny
         simp only [gRec,e2]
         exact (if_pos hk0).trans (if_pos hcl)
       refine tSk ?_
       refine ⟨rfl,Sub.of ⟨rfl,rfl,rfl,rfl,rfl,rfl,rfl,trivial⟩,funext (lkq [112,109,2010,2001,2002,2003,115,2019] rfl rfl ⟨(by first | rfl | (rw [hX];rfl)),rfl,rfl,(by first | rfl | (rw [hX];rfl)),(by first | rfl | (rw [hX];rfl)),rfl,rfl,rfl,trivial⟩)⟩
      refine tQ <| tG <| sm 3 rfl ?_
      refine wS 96 rfl (fun hb96=>?_) fun hb96=>?_
      ·refine sm 4 rfl <| nL ?_
       refine tC rfl (fun hc93=>?_) fun hc93=>?_
       ·have hk1:(z07 l 6 (qS l all g1 m1).2).1=1:=by simp at hb96;omega
        obtain ⟨m,rfl⟩:∃ m,d=m+1:=⟨d - 1,by simp at hc93;omega⟩
        obtain ⟨hTb,hTl⟩:Bd 3 0 (qK l all g1 m1).2 (qT l all g1 m1).2/\(qT l all g1 m1).1.length<=2:=z3q l (qK l all g1 m1).2
        have hT1:=hTb.ps
        have hT2:=hTb.t1
        have hT3:=hTb.t2
        have hT4:=hTb.lf
        obtain ⟨hOb,hOl⟩:Bd 3 0 (qT l all g1 m1).2 (qO l all g1 m1).2/\(qO l all g1 m1).1.length<=2:=z3q l (qT l all g1 m1).2
        have hO1:=hOb.ps
        have hO2:=hOb.t1
        have hO3:=hOb.t2
        have hO4:=hOb.lf
        have hLP:Plc.small (qL l all g1 m1):=⟨by simp [qL],hTl,hOl⟩
        have hCb:Bd (qT l all g1 m1).1.length 0 (qO l all g1 m1).2 (qE l all g1 m1).2:=zh1 l all (qT l all g1 m1).1 (qO l all g1 m1).2
        have hC1:=hCb.ps
        have hC2:=hCb.t1
        have hC3:=hCb.t2
        have hC4:=hCb.lf
        have hQb:Bd 0 (qT l all g1 m1).1.length (qE l all g1 m1).2 (qQ l all g1 m1).2:=zp0 (qT l all g1 m1).1 (qE l all g1 m1).2
        have hQ1:=hQb.ps
        have hQ2:=hQb.t1
        have hQ3:=hQb.t2
        have hQ4:=hQb.lf
        have hQl:(qQ l all g1 m1).1.length=(qT l all g1 m1).1.length:=(z24 (qT l all g1 m1).1 (qE l all g1 m1).2).2
        have hInQ:InR (qQ l all g1 m1).2.types (all++(qQ l all g1 m1).1):=(hIn.mono oM0).app (InR.outs _ _)
        have hBb:Bd 4 0 (qQ l all g1 m1).2 (qD l m all g1 m1).2:=z7o l m (all++(qQ l all g1 m1).1) (qL l all g1 m1) (qQ l all g1 m1).2 hLP
        have hB1:=hBb.ps
        have hB2:=hBb.t1
        have hB3:=hBb.t2
        have hB4:=hBb.lf
        have hQl2:((qQ l all g1 m1).1.map eInt).length=(qQ l all g1 m1).1.length:=by simp
        have hal:(all.map eInt).length=all.length:=by simp
        have hQl3:=(z24 (qT l all g1 m1).1 (qE l all g1 m1).2).2
        refine tQ <| tG <| sm 1 rfl <| cE rfl (ocr (z9d l (qK l all g1 m1).2 oM0) y9z rfl (po2 rfl rfl) rfl (fun k (h:_)=>.inr h) rfl rfl) <| sm 1 rfl <| cE rfl (ocr (z9d l (qT l all g1 m1).2 oM0) y9z rfl (po2 rfl rfl) rfl (fun k (h:_)=>.inr h) rfl rfl) <| sm 2 rfl <| nL <| tQ <| tG <| sm 3 rfl <| cE rfl (ocr (zt0 l all (qT l all g1 m1).1 (qO l all g1 m1).2 (hIn.mono oM0) oM0 oM0) ent53 rfl (po3 rfl rfl rfl) rfl (fun k (h:_)=>.inr h) rfl rfl) ?_
        refine sm 2 rfl <| cE rfl (ocr (z2o l (qT l all g1 m1).1 (qE l all g1 m1).2 oM0) y7e rfl (po2 rfl rfl) rfl (fun k (h:_)=>.inr h) rfl rfl) <| cV rfl (bPu rfl rfl tZ43 tP43 rfl (fbk rfl) rfl) <| c0 (sBA rfl rfl rfl rfl rfl ((fun h=>h)) tS43 (flk rfl) (lb rfl)) <| nL <| tQ <| Tr.fixNil (k:=112) rfl (fun h=>h) <| tG <| sm 1 rfl <| nL <| tQ <| Tr.grow (t:=19) (k:=2019) ⟨3,1⟩ rfl rfl rfl rfl rfl ?_
        refine tG <| sm 2 rfl ?_
        refine cE rfl (z5v rfl rfl rfl rfl rfl rfl rfl sI0 uT35 tB3 dC0 z5p z5t (by simp [maxLen];omega) (by simp;omega)) ?_
        refine sm 1 rfl <| nL <| tQ <| tG <| sm 3 rfl ?_
        refine cE rfl (aPp rfl rfl rfl rfl (by (simp;done)) ((fun h=>h)) uT35 tB3 dC0 (z5p) (z5t) (by simp [maxLen,z08];omega) (by simp [z08];omega)) ?_
        refine sm 1 rfl <| nL <| tQ ?_
        refine Tr.heap (σ':=look [(2019,some (rowI (all++(qQ l all g1 m1).1))),(112,some (.box [.pv (vInt (.mk 11 0 0 z0p (qE l all g1 m1).1 [] (qQ l all g1 m1).1 []:Nd).kind),.pv (vInt (.mk 11 0 0 z0p (qE l all g1 m1).1 [] (qQ l all g1 m1).1 []:Nd).op),.pv (vInt (.mk 11 0 0 z0p (qE l all g1 m1).1 [] (qQ l all g1 m1).1 []:Nd).n),.pv (vStr (.mk 11 0 0 z0p (qE l all g1 m1).1 [] (qQ l all g1 m1).1 []:Nd).name),.pv (ints (.mk 11 0 0 z0p (qE l all g1 m1).1 [] (qQ l all g1 m1).1 []:Nd).args),.pv (ints (.mk 11 0 0 z0p (qE l all g1 m1).1 [] (qQ l all g1 m1).1 []:Nd).outs),.pv (ints (.mk 11 0 0 z0p (qE l all g1 m1).1 [] (qQ l all g1 m1).1 []:Nd).params),.pv (kids (.mk 11 0 0 z0p (qE l all g1 m1).1 [] (qQ l all g1 m1).1 []:Nd).kids)])),(109,some (.row ⟨43,8⟩ (out.map Nd.enc))),(2010,some (rowI all)),(2001,some (z3h l (qQ l all g1 m1).2)),(2002,some (rowI (qQ l all g1 m1).2.types)),(2003,some (rowI seen))]) (lkq [2019,112,109,2010,2001,2002,2003] rfl rfl ⟨(congrArg (fun z=>some (HO.row _ z)) (by simp [qQ])),rfl,rfl,rfl,rfl,rfl,rfl,trivial⟩) ?_
        refine tG <| sm 4 rfl <| cV rfl (bPu rfl rfl tZ78 tP78 rfl (fbk rfl) rfl) <| sm 1 rfl <| cV rfl (oB rfl rfl (z3i rfl oM0)) ?_
        refine cE rfl (cRr ((ih m rfl).at2019 (all++(qQ l all g1 m1).1) (qL l all g1 m1) (qQ l all g1 m1).2 hInQ hLP oM0 oM0 (by rw [List.length_append];omega)) y9x rfl rfl (sSm rfl (sSm (congrArg (fun n=>IV.sl 2019 n) (by simp [qQ])) (Subs.cons (fun _ _ _ _ h=>z7l (q:=plcv (qL l all g1 m1)) (PSub.agg (ps:=[vBool false,vBool true,.val (.slice none 0 0),ints (qT l all g1 m1).1,ints (qO l all g1 m1).1]) (And.intro (PSub.refl _) (And.intro (PSub.refl _) (And.intro PSub.nil (And.intro (PSub.refl _) (And.intro (PSub.refl _) trivial)))))) h) (sSm (congrArg (fun z=>iInt z) oM0) Subs.nil)))) (po3 rfl rfl rfl) (by rfl) (fun k (h:_)=>.inr h) rfl (by rfl)) ?_
        refine cE rfl (bSl rfl rfl uT41 tZ44 tS44 rfl rfl rfl rfl (fbk rfl) rfl) <| sm 1 rfl <| c0 (sBx rfl rfl rfl rfl ((fun h=>h)) tS41 (rfl) (lb rfl)) <| nL <| tQ <| Tr.drop (k:=2019) <| tG <| cV rfl (lBP rfl rfl rfl uT43 rfl tS43 (lb rfl) rfl trivial) <| cE rfl (ocq (z4b (.mk 11 0 0 z0p (qE l all g1 m1).1 [] (qQ l all g1 m1).1 [(qD l m all g1 m1).1]:Nd)) ya0 rfl rfl) <| sm 1 rfl <| nL ?_
        refine tC rfl (fun hc131=>?_) fun hc131=>?_
        ·have hX:gAny l (gRec l (m+1)) all p g1=((.mk 11 0 0 z0p (qE l all g1 m1).1 (z0n (qO l all g1 m1).1 (qD l m all g1 m1).2).1 (qQ l all g1 m1).1 [(qD l m all g1 m1).1]:Nd),(z0n (qO l all g1 m1).1 (qD l m all g1 m1).2).2):=by
           have hcl:z01 (.mk 11 0 0 z0p (qE l all g1 m1).1 [] (qQ l all g1 m1).1 [(qD l m all g1 m1).1]:Nd)=false:=by simpa using hc131
           have hk0:¬ (z07 l 6 (qS l all g1 m1).2).1=0:=by omega
           unfold gAny
           simp only [gRec,e2]
           exact (if_neg hk0).trans ((if_pos hk1).trans (if_neg (fun h=>Bool.noConfusion (hcl.symm.trans h))))
         refine tG <| sm 2 rfl <| cE rfl (ocr (z2o l (qO l all g1 m1).1 (qD l m all g1 m1).2 oM0) y7e rfl (po2 rfl rfl) rfl (fun k (h:_)=>.inr h) rfl rfl) <| sm 1 rfl <| c0 (sBx rfl rfl rfl rfl ((fun h=>h)) tS35 (rfl) (lb rfl)) <| nL ?_
         refine ⟨rfl,Sub.of ⟨rfl,rfl,rfl,rfl,rfl,rfl,rfl,trivial⟩,funext (lkq [112,109,2010,2001,2002,2003,115,2019] rfl rfl ⟨(by first | rfl | (rw [hX];rfl)),rfl,rfl,(by first | rfl | (rw [hX];rfl)),(by first | rfl | (rw [hX];rfl)),rfl,rfl,rfl,trivial⟩)⟩
        have hX:gAny l (gRec l (m+1)) all p g1=((.mk 11 0 0 z0p (qE l all g1 m1).1 [] (qQ l all g1 m1).1 [(qD l m all g1 m1).1]:Nd),(qD l m all g1 m1).2):=by
          have hcl:z01 (.mk 11 0 0 z0p (qE l all g1 m1).1 [] (qQ l all g1 m1).1 [(qD l m all g1 m1).1]:Nd)=true:=by simpa using hc131
          have hk0:¬ (z07 l 6 (qS l all g1 m1).2).1=0:=by omega
          unfold gAny
          simp only [gRec,e2]
          exact (if_neg hk0).trans ((if_pos hk1).trans (if_pos hcl))
        refine tSk ?_
        refine ⟨rfl,Sub.of ⟨rfl,rfl,rfl,rfl,rfl,rfl,rfl,trivial⟩,funext (lkq [112,109,2010,2001,2002,2003,115,2019] rfl rfl ⟨(by first | rfl | (rw [hX];rfl)),rfl,rfl,(by first | rfl | (rw [hX];rfl)),(by first | rfl | (rw [hX];rfl)),rfl,rfl,rfl,trivial⟩)⟩
       have hX:gAny l (gRec l d) all p g1=((qS l all g1 m1).1,(qK l all g1 m1).2):=by
         unfold gAny
         simp only [e2]
         cases d with
         | zero=>rfl
         | succ m =>
           have hk0:¬ (z07 l 6 (qS l all g1 m1).2).1=0:=by first | (simp at hb52<;>omega) | (simp at hc49<;>omega)
           have hk1:¬ (z07 l 6 (qS l all g1 m1).2).1=1:=by first | (simp at hb96<;>omega) | (simp at hc93<;>omega)
           exact (if_neg hk0).trans (if_neg hk1)
       refine tSk ?_
       refine ⟨rfl,Sub.of ⟨rfl,rfl,rfl,rfl,rfl,rfl,rfl,trivial⟩,funext (lkq [112,109,2010,2001,2002,2003,115,2019] rfl rfl ⟨(by first | rfl | (rw [hX];rfl)),rfl,rfl,(by first | rfl | (rw [hX];rfl)),(by first | rfl | (rw [hX];rfl)),rfl,rfl,rfl,trivial⟩)⟩
      refine sm 4 rfl <| nL <| Tr.condF rfl ?_
      have hX:gAny l (gRec l d) all p g1=((qS l all g1 m1).1,(qK l all g1 m1).2):=by
        unfold gAny
        simp only [e2]
        cases d with
        | zero=>rfl
        | succ m =>
          have hk0:¬ (z07 l 6 (qS l all g1 m1).2).1=0:=by first | (simp at hb52<;>omega) | (simp at hc49<;>omega)
          have hk1:¬ (z07 l 6 (qS l all g1 m1).2).1=1:=by first | (simp at hb96<;>omega) | (simp at hc93<;>omega)
          exact (if_neg hk0).trans (if_neg hk1)
      refine tSk ?_
      refine ⟨rfl,Sub.of ⟨rfl,rfl,rfl,rfl,rfl,rfl,rfl,trivial⟩,funext (lkq [112,109,2010,2001,2002,2003,115,2019] rfl rfl ⟨(by first | rfl | (rw [hX];rfl)),rfl,rfl,(by first | rfl | (rw [hX];rfl)),(by first | rfl | (rw [hX];rfl)),rfl,rfl,rfl,trivial⟩)⟩
     refine sm 4 rfl <| nL <| Tr.condF rfl <| tQ <| tG <| sm 3 rfl ?_
     refine wS 96 rfl (fun hb96=>?_) fun hb96=>?_
     ·refine sm 4 rfl <| nL ?_
      refine tC rfl (fun hc93=>?_) fun hc93=>?_
      ·have hk1:(z07 l 6 (qS l all g1 m1).2).1=1:=by simp at hb96;omega
       obtain ⟨m,rfl⟩:∃ m,d=m+1:=⟨d - 1,by simp at hc93;omega⟩
       obtain ⟨hTb,hTl⟩:Bd 3 0 (qK l all g1 m1).2 (qT l all g1 m1).2/\(qT l all g1 m1).1.length<=2:=z3q l (qK l all g1 m1).2
       have hT1:=hTb.ps
       have hT2:=hTb.t1
       have hT3:=hTb.t2
       have hT4:=hTb.lf
       obtain ⟨hOb,hOl⟩:Bd 3 0 (qT l all g1 m1).2 (qO l all g1 m1).2/\(qO l all g1 m1).1.length<=2:=z3q l (qT l all g1 m1).2
       have hO1:=hOb.ps
       have hO2:=hOb.t1
       have hO3:=hOb.t2
       have hO4:=hOb.lf
       have hLP:Plc.small (qL l all g1 m1):=⟨by simp [qL],hTl,hOl⟩
       have hCb:Bd (qT l all g1 m1).1.length 0 (qO l all g1 m1).2 (qE l all g1 m1).2:=zh1 l all (qT l all g1 m1).1 (qO l all g1 m1).2
       have hC1:=hCb.ps
       have hC2:=hCb.t1
       have hC3:=hCb.t2
       have hC4:=hCb.lf
       have hQb:Bd 0 (qT l all g1 m1).1.length (qE l all g1 m1).2 (qQ l all g1 m1).2:=zp0 (qT l all g1 m1).1 (qE l all g1 m1).2
       have hQ1:=hQb.ps
       have hQ2:=hQb.t1
       have hQ3:=hQb.t2
       have hQ4:=hQb.lf
       have hQl:(qQ l all g1 m1).1.length=(qT l all g1 m1).1.length:=(z24 (qT l all g1 m1).1 (qE l all g1 m1).2).2
       have hInQ:InR (qQ l all g1 m1).2.types (all++(qQ l all g1 m1).1):=(hIn.mono oM0).app (InR.outs _ _)
       have hBb:Bd 4 0 (qQ l all g1 m1).2 (qD l m all g1 m1).2:=z7o l m (all++(qQ l all g1 m1).1) (qL l all g1 m1) (qQ l all g1 m1).2 hLP
       have hB1:=hBb.ps
       have hB2:=hBb.t1
       have hB3:=hBb.t2
       have hB4:=hBb.lf
       have hQl2:((qQ l all g1 m1).1.map eInt).length=(qQ l all g1 m1).1.length:=by simp
       have hal:(all.map eInt).length=all.length:=by simp
       have hQl3:=(z24 (qT l all g1 m1).1 (qE l all g1 m1).2).2
       refine tQ <| tG <| sm 1 rfl <| cE rfl (ocr (z9d l (qK l all g1 m1).2 oM0) y9z rfl (po2 rfl rfl) rfl (fun k (h:_)=>.inr h) rfl rfl) <| sm 1 rfl <| cE rfl (ocr (z9d l (qT l all g1 m1).2 oM0) y9z rfl (po2 rfl rfl) rfl (fun k (h:_)=>.inr h) rfl rfl) <| sm 2 rfl <| nL <| tQ <| tG <| sm 3 rfl <| cE rfl (ocr (zt0 l all (qT l all g1 m1).1 (qO l all g1 m1).2 (hIn.mono oM0) oM0 oM0) ent53 rfl (po3 rfl rfl rfl) rfl (fun k (h:_)=>.inr h) rfl rfl) ?_
       refine sm 2 rfl <| cE rfl (ocr (z2o l (qT l all g1 m1).1 (qE l all g1 m1).2 oM0) y7e rfl (po2 rfl rfl) rfl (fun k (h:_)=>.inr h) rfl rfl) <| cV rfl (bPu rfl rfl tZ43 tP43 rfl (fbk rfl) rfl) <| c0 (sBA rfl rfl rfl rfl rfl ((fun h=>h)) tS43 (flk rfl) (lb rfl)) <| nL <| tQ <| Tr.fixNil (k:=112) rfl (fun h=>h) <| tG <| sm 1 rfl <| nL <| tQ <| Tr.grow (t:=19) (k:=2019) ⟨3,1⟩ rfl rfl rfl rfl rfl ?_
       refine tG <| sm 2 rfl ?_
       refine cE rfl (z5v rfl rfl rfl rfl rfl rfl rfl sI0 uT35 tB3 dC0 z5p z5t (by simp [maxLen];omega) (by simp;omega)) ?_
       refine sm 1 rfl <| nL <| tQ <| tG <| sm 3 rfl ?_
       refine cE rfl (aPp rfl rfl rfl rfl (by (simp;done)) ((fun h=>h)) uT35 tB3 dC0 (z5p) (z5t) (by simp [maxLen,z08];omega) (by simp [z08];omega)) ?_
       refine sm 1 rfl <| nL <| tQ ?_
       refine Tr.heap (σ':=look [(2019,some (rowI (all++(qQ l all g1 m1).1))),(112,some (.box [.pv (vInt (.mk 11 0 0 z0p (qE l all g1 m1).1 [] (qQ l all g1 m1).1 []:Nd).kind),.pv (vInt (.mk 11 0 0 z0p (qE l all g1 m1).1 [] (qQ l all g1 m1).1 []:Nd).op),.pv (vInt (.mk 11 0 0 z0p (qE l all g1 m1).1 [] (qQ l all g1 m1).1 []:Nd).n),.pv (vStr (.mk 11 0 0 z0p (qE l all g1 m1).1 [] (qQ l all g1 m1).1 []:Nd).name),.pv (ints (.mk 11 0 0 z0p (qE l all g1 m1).1 [] (qQ l all g1 m1).1 []:Nd).args),.pv (ints (.mk 11 0 0 z0p (qE l all g1 m1).1 [] (qQ l all g1 m1).1 []:Nd).outs),.pv (ints (.mk 11 0 0 z0p (qE l all g1 m1).1 [] (qQ l all g1 m1).1 []:Nd).params),.pv (kids (.mk 11 0 0 z0p (qE l all g1 m1).1 [] (qQ l all g1 m1).1 []:Nd).kids)])),(109,some (.row ⟨43,8⟩ (out.map Nd.enc))),(2010,some (rowI all)),(2001,some (z3h l (qQ l all g1 m1).2)),(2002,some (rowI (qQ l all g1 m1).2.types)),(2003,some (rowI seen))]) (lkq [2019,112,109,2010,2001,2002,2003] rfl rfl ⟨(congrArg (fun z=>some (HO.row _ z)) (by simp [qQ])),rfl,rfl,rfl,rfl,rfl,rfl,trivial⟩) ?_
       refine tG <| sm 4 rfl <| cV rfl (bPu rfl rfl tZ78 tP78 rfl (fbk rfl) rfl) <| sm 1 rfl <| cV rfl (oB rfl rfl (z3i rfl oM0)) ?_
       refine cE rfl (cRr ((ih m rfl).at2019 (all++(qQ l all g1 m1).1) (qL l all g1 m1) (qQ l all g1 m1).2 hInQ hLP oM0 oM0 (by rw [List.length_append];omega)) y9x rfl rfl (sSm rfl (sSm (congrArg (fun n=>IV.sl 2019 n) (by simp [qQ])) (Subs.cons (fun _ _ _ _ h=>z7l (q:=plcv (qL l all g1 m1)) (PSub.agg (ps:=[vBool false,vBool true,.val (.slice none 0 0),ints (qT l all g1 m1).1,ints (qO l all g1 m1).1]) (And.intro (PSub.refl _) (And.intro (PSub.refl _) (And.intro PSub.nil (And.intro (PSub.refl _) (And.intro (PSub.refl _) trivial)))))) h) (sSm (congrArg (fun z=>iInt z) oM0) Subs.nil)))) (po3 rfl rfl rfl) (by rfl) (fun k (h:_)=>.inr h) rfl (by rfl)) ?_
       refine cE rfl (bSl rfl rfl uT41 tZ44 tS44 rfl rfl rfl rfl (fbk rfl) rfl) <| sm 1 rfl <| c0 (sBx rfl rfl rfl rfl ((fun h=>h)) tS41 (rfl) (lb rfl)) <| nL <| tQ <| Tr.drop (k:=2019) <| tG <| cV rfl (lBP rfl rfl rfl uT43 rfl tS43 (lb rfl) rfl trivial) <| cE rfl (ocq (z4b (.mk 11 0 0 z0p (qE l all g1 m1).1 [] (qQ l all g1 m1).1 [(qD l m all g1 m1).1]:Nd)) ya0 rfl rfl) <| sm 1 rfl <| nL ?_
       refine tC rfl (fun hc131=>?_) fun hc131=>?_
       ·have hX:gAny l (gRec l (m+1)) all p g1=((.mk 11 0 0 z0p (qE l all g1 m1).1 (z0n (qO l all g1 m1).1 (qD l m all g1 m1).2).1 (qQ l all g1 m1).1 [(qD l m all g1 m1).1]:Nd),(z0n (qO l all g1 m1).1 (qD l m all g1 m1).2).2):=by
          have hcl:z01 (.mk 11 0 0 z0p (qE l all g1 m1).1 [] (qQ l all g1 m1).1 [(qD l m all g1 m1).1]:Nd)=false:=by simpa using hc131
          have hk0:¬ (z07 l 6 (qS l all g1 m1).2).1=0:=by omega
          unfold gAny
          simp only [gRec,e2]
          exact (if_neg hk0).trans ((if_pos hk1).trans (if_neg (fun h=>Bool.noConfusion (hcl.symm.trans h))))
        refine tG <| sm 2 rfl <| cE rfl (ocr (z2o l (qO l all g1 m1).1 (qD l m all g1 m1).2 oM0) y7e rfl (po2 rfl rfl) rfl (fun k (h:_)=>.inr h) rfl rfl) <| sm 1 rfl <| c0 (sBx rfl rfl rfl rfl ((fun h=>h)) tS35 (rfl) (lb rfl)) <| nL ?_
        refine ⟨rfl,Sub.of ⟨rfl,rfl,rfl,rfl,rfl,rfl,rfl,trivial⟩,funext (lkq [112,109,2010,2001,2002,2003,115,2019] rfl rfl ⟨(by first | rfl | (rw [hX];rfl)),rfl,rfl,(by first | rfl | (rw [hX];rfl)),(by first | rfl | (rw [hX];rfl)),rfl,rfl,rfl,trivial⟩)⟩
       have hX:gAny l (gRec l (m+1)) all p g1=((.mk 11 0 0 z0p (qE l all g1 m1).1 [] (qQ l all g1 m1).1 [(qD l m all g1 m1).1]:Nd),(qD l m all g1 m1).2):=by
         have hcl:z01 (.mk 11 0 0 z0p (qE l all g1 m1).1 [] (qQ l all g1 m1).1 [(qD l m all g1 m1).1]:Nd)=true:=by simpa using hc131
         have hk0:¬ (z07 l 6 (qS l all g1 m1).2).1=0:=by omega
         unfold gAny
         simp only [gRec,e2]
         exact (if_neg hk0).trans ((if_pos hk1).trans (if_pos hcl))
       refine tSk ?_
       refine ⟨rfl,Sub.of ⟨rfl,rfl,rfl,rfl,rfl,rfl,rfl,trivial⟩,funext (lkq [112,109,2010,2001,2002,2003,115,2019] rfl rfl ⟨(by first | rfl | (rw [hX];rfl)),rfl,rfl,(by first | rfl | (rw [hX];rfl)),(by first | rfl | (rw [hX];rfl)),rfl,rfl,rfl,trivial⟩)⟩
      have hX:gAny l (gRec l d) all p g1=((qS l all g1 m1).1,(qK l all g1 m1).2):=by
        unfold gAny
        simp only [e2]
        cases d with
        | zero=>rfl
        | succ m =>
          have hk0:¬ (z07 l 6 (qS l all g1 m1).2).1=0:=by first | (simp at hb52<;>omega) | (simp at hc49<;>omega)
          have hk1:¬ (z07 l 6 (qS l all g1 m1).2).1=1:=by first | (simp at hb96<;>omega) | (simp at hc93<;>omega)
          exact (if_neg hk0).trans (if_neg hk1)
      refine tSk ?_
      refine ⟨rfl,Sub.of ⟨rfl,rfl,rfl,rfl,rfl,rfl,rfl,trivial⟩,funext (lkq [112,109,2010,2001,2002,2003,115,2019] rfl rfl ⟨(by first | rfl | (rw [hX];rfl)),rfl,rfl,(by first | rfl | (rw [hX];rfl)),(by first | rfl | (rw [hX];rfl)),rfl,rfl,rfl,trivial⟩)⟩
     refine sm 4 rfl <| nL <| Tr.condF rfl ?_
     have hX:gAny l (gRec l d) all p g1=((qS l all g1 m1).1,(qK l all g1 m1).2):=by
       unfold gAny
       simp only [e2]
       cases d with
       | zero=>rfl
       | succ m =>
         have hk0:¬ (z07 l 6 (qS l all g1 m1).2).1=0:=by first | (simp at hb52<;>omega) | (simp at hc49<;>omega)
         have hk1:¬ (z07 l 6 (qS l all g1 m1).2).1=1:=by first | (simp at hb96<;>omega) | (simp at hc93<;>omega)
         exact (if_neg hk0).trans (if_neg hk1)
     refine tSk ?_
     refine ⟨rfl,Sub.of ⟨rfl,rfl,rfl,rfl,rfl,rfl,rfl,trivial⟩,funext (lkq [112,109,2010,2001,2002,2003,115,2019] rfl rfl ⟨(by first | rfl | (rw [hX];rfl)),rfl,rfl,(by first | rfl | (rw [hX];rfl)),(by first | rfl | (rw [hX];rfl)),rfl,rfl,rfl,trivial⟩)⟩
    refine tQ ?_
    have hol:(out.map Nd.enc).length=out.length:=by simp
    have hal:(all.map eInt).length=all.length:=by simp
    have hxo:((gAny l (gRec l d) all p g1).1.outs.map eInt).length=(gAny l (gRec l d) all p g1).1.outs.length:=by simp
    have hxo2:=hXo.2
    refine tG <| sm 1 rfl <| cV rfl (lBP rfl rfl rfl uT43 rfl tS43 (lb rfl) rfl trivial) <| cE rfl (bSl rfl rfl uT44 tZ43 tS43 rfl rfl rfl rfl (fbk rfl) rfl) ?_
    refine cE rfl (aPp rfl rfl rfl rfl (by rfl) ((fun h=>h)) uT44 tB43 dC0 (by (simp [z08];done)) (z9j _) (by simp [maxLen,z08];omega) (by simp [z08];omega)) ?_
    refine sm 1 rfl <| nL <| tQ <| tQ <| tG <| cV rfl (lBP rfl rfl rfl uT43 rfl tS43 (lb rfl) rfl trivial) <| cE rfl (ocq (z4b (gAny l (gRec l d) all p g1).1) ya0 rfl rfl) <| nL ?_
    refine tC rfl (fun hc141=>?_) fun hc141=>?_
    ·refine tQ ?_
     have hres:z2y l d seen p g=(out++[(gAny l (gRec l d) all p g1).1],(gAny l (gRec l d) all p g1).2):=by rw [<- hI,z3g,if_neg hleft,if_pos hc141]
     refine tG <| sm 2 rfl <| nL ?_
     refine Tr.freeze (t:=8) (k:=109) rfl rfl (by simp [z08]) ?_
     refine tRt ?_
     rw [hres]
     refine rOk rfl (congrArg (fun z=>IV.pv (.seq z)) (by simp [z08,Nd.enc_eq,Nd.cells_eta])) (po3 rfl rfl rfl)
    refine tSk <| tG <| sm 3 rfl ?_
    refine cE rfl (aPp rfl rfl rfl rfl (by rfl) ((fun h=>h)) uT35 tB3 dC0 (z5p) (z5t) (by simp [maxLen,z08];omega) (by simp [z08];omega)) ?_
    refine sm 1 rfl <| nL <| Tr.drop (k:=112) <| tG <| sm 1 rfl <| cV rfl (oB rfl rfl (z3i rfl oM0)) <| sm 1 rfl <| nL ?_
    refine ⟨_,_,?_,Sub.of (fr':=[(11,iInt ((n1:Nat):Int)),(10,.sl 2010 ((all++(gAny l (gRec l d) all p g1).1.outs).map eInt).length),(9,.sl 109 ((out++[(gAny l (gRec l d) all p g1).1]).map Nd.enc).length),(6,.pv (.ept [vBool p.If,vBool p.Loop,ints p.Yield,ints p.Next,ints p.Left] 0)),(0,.ptr 2001 0),(3,iInt (d:Int))]) ⟨congrArg (fun z=>some (iInt z)) oM0,congrArg (fun z=>some (IV.sl _ z)) sI0,congrArg (fun z=>some (IV.sl _ z)) (by simp [z08]),rfl,rfl,rfl,trivial⟩,n1,(out++[(gAny l (gRec l d) all p g1).1]),(all++(gAny l (gRec l d) all p g1).1.outs),(gAny l (gRec l d) all p g1).2,?_,?_,?_,?_,?_,?_,rfl,(funext (lkq [112,109,2010,2001,2002,2003] rfl rfl ⟨rfl,(by first | rfl | exact congrArg (fun z=>some (HO.row _ z)) (by simp [z08,Nd.enc_eq,Nd.cells_eta]) | exact congrArg (fun z=>some (HO.row _ z)) sI0),(by first | rfl | exact congrArg (fun z=>some (HO.row _ z)) (by simp [z08,Nd.enc_eq,Nd.cells_eta]) | exact congrArg (fun z=>some (HO.row _ z)) sI0),rfl,rfl,rfl,trivial⟩)),rfl⟩
    ·omega
    ·rw [<- hI,z3g,if_neg hleft,if_neg (by rw [hc141];decide)]
    ·exact (hIn.mono hXb.t1).app hXo.1
    ·have:=hXb.ps;omega
    ·have:=hXb.t2;omega
    ·have:=hXo.2;rw [List.length_append];have:=hXl;omega
    simp;omega
   refine tEx <| tQ ?_
   have hres:z2y l d seen p g=(out++[(gEnd l all p g1).1],(gEnd l all p g1).2):=by
     rw [<- hI]
     (have h0:g1.left=0:=by simpa using hc33
      cases n with
      | zero=>rw [z3g]
      | succ n=>rw [z3g,if_pos h0])
   have hol:(out.map Nd.enc).length=out.length:=by simp
   refine tG <| sm 3 rfl <| cV rfl (lEA rfl rfl Tryz.underlying78 rfl tS78 (lb rfl)) <| cE rfl (ocr (y6u l all p g1 hIn oM0 oM0 hp) ent55 rfl (po3 rfl rfl rfl) rfl (fun k (h:_)=>.inr h) rfl rfl) <| cE rfl (bSl rfl rfl uT44 tZ43 tS43 rfl rfl rfl rfl (fbk rfl) rfl) ?_
   refine cE rfl (aPp rfl rfl rfl rfl (by rfl) ((fun h=>h)) uT44 tB43 dC0 (by (simp [z08];done)) (z9j _) (by simp [maxLen,z08];omega) (by simp [z08];omega)) ?_
   refine sm 1 rfl <| nL ?_
   refine Tr.freeze (t:=8) (k:=109) rfl rfl (by simp [z08]) ?_
   refine tRt ?_
   rw [hres]
   refine rOk rfl (congrArg (fun z=>IV.pv (.seq z)) (by simp [z08,Nd.enc_eq,Nd.cells_eta])) (po3 rfl rfl rfl)
  refine sm 6 rfl <| nL <| Tr.condF rfl <| tEx <| tQ ?_
  have hres:z2y l d seen p g=(out++[(gEnd l all p g1).1],(gEnd l all p g1).2):=by
    rw [<- hI]
    (have h0:n=0:=by simpa using hb27
     rw [h0,z3g]
     done)
  have hol:(out.map Nd.enc).length=out.length:=by simp
  refine tG <| sm 3 rfl <| cV rfl (lEA rfl rfl Tryz.underlying78 rfl tS78 (lb rfl)) <| cE rfl (ocr (y6u l all p g1 hIn oM0 oM0 hp) ent55 rfl (po3 rfl rfl rfl) rfl (fun k (h:_)=>.inr h) rfl rfl) <| cE rfl (bSl rfl rfl uT44 tZ43 tS43 rfl rfl rfl rfl (fbk rfl) rfl) ?_
  refine cE rfl (aPp rfl rfl rfl rfl (by rfl) ((fun h=>h)) uT44 tB43 dC0 (by (simp [z08];done)) (z9j _) (by simp [maxLen,z08];omega) (by simp [z08];omega)) ?_
  refine sm 1 rfl <| nL ?_
  refine Tr.freeze (t:=8) (k:=109) rfl rfl (by simp [z08]) ?_
  refine tRt ?_
  rw [hres]
  refine rOk rfl (congrArg (fun z=>IV.pv (.seq z)) (by simp [z08,Nd.enc_eq,Nd.cells_eta])) (po3 rfl rfl rfl)
end Go.Proofs.YthbcibeddfacbaaGreat
