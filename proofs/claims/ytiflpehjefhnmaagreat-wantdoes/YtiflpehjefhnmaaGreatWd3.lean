/- PART 3 of 7 of a proof: see the last part. -/
import Derived.Test.YtiflpehjefhnmaaGreatWd2
set_option maxRecDepth 8000
set_option maxHeartbeats 2000000
set_option linter.unusedSimpArgs false
set_option linter.unusedVariables false
set_option linter.unusedSectionVars false
namespace Go.Proofs.YtiflpehjefhnmaaGreat
open Go
theorem y9e {u:Un} {f:Fl} (h:zk5 u f f.body):zk5 u f (wB f.body):=⟨y8u u f h.1,h.2.sub (zt8 _ _ _)⟩
theorem zx1 {u:Un} (h:(z18 u).1=0):z18 (z3z wB u)=(0,0):=check_m wB h fun _ _=>y9e
mutual
theorem y8z (u:Un) (f:Fl):∀ (x:Nd) (deep:Int) (i lp:Bool) (h:Hd) (all:List Int),HdIn f h->z4j u f deep (whOf f i lp h) all x=true->wOkN h x=true
  | .mk kind op n name args outs params ks,deep,i,lp,h,all,hi,hv=>by
    have hb:=z3u u f deep _ all hv
    unfold wOkN
    have END:∀ (to:List Int) (b:Bool),inR f.types.length to->z2l u f (.mk kind op n name args outs params ks) all (whOf f i lp h)=⟨b&&z01 f.types all args (r8of f.types to),none⟩->(kind==10)=false->(kind==11)=false->decide (to.length<=args.length)=true:=fun to b hto hf h10 h11=>by
      rw [z1i u f deep _ all hb h10 h11,hf] at hv
      simp only [SForm.ok,Bool.and_eq_true] at hv
      have:=zv2 hto hv.1.2
      simp;omega
    by_cases h12:kind=12
    ·rw [if_pos (by simp [h12])]
     exact END h.yield i hi.1 (y55 h12) (by simp [h12]) (by simp [h12])
    rw [if_neg (by simpa using h12)]
    by_cases h13:kind=13
    ·rw [if_pos (by simp [h13])]
     exact END h.next lp hi.2.1 (y56 h13) (by simp [h13]) (by simp [h13])
    rw [if_neg (by simpa using h13)]
    by_cases h14:kind=14
    ·rw [if_pos (by simp [h14])]
     exact END h.left lp hi.2.2 (y57 h14) (by simp [h14]) (by simp [h14])
    rw [if_neg (by simpa using h14)]
    by_cases h10:kind=10
    ·rw [if_pos (by simp [h10])]
     obtain ⟨a,b,hk⟩:=z36 hb h10
     rw [z54 u f deep _ all hb h10 hk,w1_of] at hv
     simp only [Bool.and_eq_true,z2s] at hv
     have hin:HdIn f ⟨outs,h.next,h.left⟩:=⟨z19 hv.2,hi.2⟩
     simp only [Nd.kids] at hk
     match ks,hk with
     | [a',b'],hk =>
       cases hk
       simp only [wOkK,Bool.and_eq_true,Bool.and_true]
       exact ⟨rfl,z7g u f a _ _ _ _ _ hin hv.1.1.1.2.2,z7g u f b _ _ _ _ _ hin hv.1.1.2.2⟩
    rw [if_neg (by simpa using h10)]
    by_cases h11:kind=11
    ·rw [if_pos (by simp [h11])]
     obtain ⟨a,hk⟩:=z1t hb h11
     rw [z37 u f deep _ all hb h11 hk,w2_of] at hv
     simp only [Bool.and_eq_true,z2s] at hv
     have hp:inR f.types.length params:=z19 hv.1.1.1.2
     have hin:HdIn f ⟨[],params,outs⟩:=⟨fun v hv=>by simp at hv,hp,z19 hv.2⟩
     have hl:=zv2 hp hv.1.1.1.1
     simp only [Nd.kids] at hk
     match ks,hk with
     | [a'],hk =>
       cases hk
       simp only [wOkK,Bool.and_eq_true,Bool.and_true]
       exact ⟨by simp only [Nd.args] at hl;simp;omega,rfl,z7g u f a _ _ _ _ _ hin hv.1.1.2.2⟩
    rw [if_neg (by simpa using h11)]
    have hh:=y2u u f _ deep _ all hv
    rw [hOkN_eq] at hh
    simp only [Bool.and_eq_true] at hh
    exact hh.1.1
theorem z7g (u:Un) (f:Fl):∀ (l:List Nd) (deep:Int) (i lp:Bool) (h:Hd) (all:List Int),HdIn f h->vGo u f deep (whOf f i lp h) all l=true->wOkL h l=true
  | [],_,_,_,_,_,_,_=>rfl
  | x::r,deep,i,lp,h,all,hi,hv=>by
    simp only [vGo,Bool.and_eq_true] at hv
    simp only [wOkL,Bool.and_eq_true]
    exact ⟨y8z u f x deep i lp h all hi hv.1.1.2,z7g u f r deep i lp h _ hi hv.2⟩
end
theorem hd0_in (f:Fl):HdIn f hd0:=⟨fun v hv=>by simp [hd0] at hv,fun v hv=>by simp [hd0] at hv,fun v hv=>by simp [hd0] at hv⟩
theorem zw1 {u:Un} (h:(z4r u).1=0):∀ f∈u.flows,wOkL hd0 f.body=true:=by
  rw [zj8] at h
  intro f hf
  have hb:=(y1w h f hf).1
  simp only [z2s,Bool.and_eq_true] at hb
  exact z7g u f f.body 1 false false hd0 _ (hd0_in f) hb.2
theorem zd8 (s:List Int):∀ l to,(z0m s l to).length<=l.length
  | [],_=>by simp [z0m]
  | _::_,[]=>by simp [z0m]
  | a::l,t::to=>by
    have ih:=zd8 s l to
    unfold z0m
    split<;>simp only [List.length_cons]<;>omega
mutual
theorem wt_sNode (s:List Int):∀ (x:Nd) (h:Hd),wtL (z1f s h x)<=wtN x
  | .mk kind op n name args outs params ks,h=>by
    have hk:=fun h'=>y7a s ks h'
    have k1:=fun to=>zd8 s args to
    have k2:=zd8 s outs outs
    have k3:=zd8 s params params
    unfold z1f
    repeat' split
    ·have:=k1 h.yield;simp only [wtL,wtN];omega
    ·have:=k1 h.next;simp only [wtL,wtN];omega
    ·have:=k1 h.left;simp only [wtL,wtN];omega
    ·have:=hk ⟨outs,h.next,h.left⟩;simp only [wtL,wtN];omega
    ·have:=hk ⟨[],params,outs⟩;have:=k1 params;simp only [wtL,wtN];omega
    ·simp [wtL]
    simp [wtL,wtN]
theorem y1s (s:List Int):∀ (l:List Nd) (h:Hd),wtL (z1m s h l)<=wtL l
  | [],h=>by simp [z1m]
  | x::r,h=>by
    have h1:=wt_sNode s x h
    have h2:=y1s s r h
    simp only [z1m,zc8,wtL]
    omega
theorem y7a (s:List Int):∀ (ks:List (List Nd)) (h:Hd),wtK (z4v s h ks)<=wtK ks
  | [],h=>by simp [z4v]
  | l::r,h=>by
    have h1:=y1s s l h
    have h2:=y7a s r h
    have h3:=zf4 s h l
    simp only [z4v,wtK]
    omega
end
theorem zz1 (l:List Nd):z4b (wB l)<=z4b l:=by
  have h1:=y1s (wSet l) l hd0
  have h2:=zf4 (wSet l) hd0 l
  unfold z4b wB
  omega
mutual
def uN (v:Int):Nd->Bool
  | .mk _ _ _ _ args _ _ ks=>args.contains v||uK v ks
def uL (v:Int):List Nd->Bool
  | []=>false
  | x::r=>uN v x||uL v r
def uK (v:Int):List (List Nd)->Bool
  | []=>false
  | l::r=>uL v l||uK v r
end
theorem uN_eq (v:Int) (x:Nd):uN v x=(x.args.contains v||uK v x.kids):=by cases x;simp [uN,Nd.args,Nd.kids]
theorem yj4 (v:Int):∀ a b:List Nd,uL v (a++b)=(uL v a||uL v b)
  | [],b=>by simp [uL]
  | x::r,b=>by simp only [List.cons_append,uL,yj4 v r b,Bool.or_assoc]
def zg8 (x:Nd):Bool:=decide (x.kind<=3)||(x.kind==4&&x.op != 4&&x.op != 5)
mutual
def wdN (all:List Nd):Nd->Bool
  | .mk kind op n name args outs params ks=>!(zg8 (.mk kind op n name args outs params ks)&&((outs.length:Int) != 1 || !uL (outs.getD 0 0) all))&&wdK all ks
def wdL (all:List Nd):List Nd->Bool
  | []=>true
  | x::r=>wdN all x&&wdL all r
def wdK (all:List Nd):List (List Nd)->Bool
  | []=>true
  | l::r=>wdL all l&&wdK all r
end
theorem ym3 (all:List Nd) (x:Nd):wdN all x=(!(zg8 x&&((x.outs.length:Int) != 1 || !uL (x.outs.getD 0 0) all))&&wdK all x.kids):=by cases x;simp only [wdN,Nd.kids,Nd.outs]
theorem ym2 (all:List Nd):∀ a b:List Nd,wdL all (a++b)=(wdL all a&&wdL all b)
  | [],b=>by simp [wdL]
  | x::r,b=>by simp only [List.cons_append,wdL,ym2 all r b,Bool.and_assoc]
def y42 (u:Un):Bool:=u.flows.all fun f=>wdL f.body f.body
theorem zg6 {U:Int->Prop}:∀ {l s:List Int},(∀ v∈s,U v)->(∀ v∈l,U v)->∀ v∈wAdd s l,U v
  | [],_,h,_=>h
  | a::r,s,h,hl=>by
    unfold wAdd
    split
    ·exact zg6 h fun v hv=>hl v (.tail _ hv)
    refine zg6 (fun v hv=>?_) fun v hv=>hl v (.tail _ hv)
    rcases List.mem_append.1 hv with hv | hv
    ·exact h v hv
    obtain rfl:=List.mem_singleton.1 hv;exact hl _ (.head _)
theorem z4z {U:Int->Prop} {S:List Int}:∀ {l to s:List Int},(∀ v∈s,U v)->(∀ v∈z0m S l to,U v)->(∀ v∈z0y s l to,v∈S)->∀ v∈z0y s l to,U v
  | [],_,s,h,_,_=>by simpa [z0y] using h
  | _::_,[],s,h,_,_=>by simpa [z0y] using h
  | a::l,t::to,s,h,hk,hS=>by
    unfold z0y at hS ⊢
    unfold z0m at hk
    split at hS
    ·rename_i hc
     rw [if_pos hc]
     have ht:S.contains t=true:=List.contains_iff_mem.2 (hS t ((z2f l to _).sub t ((z34 [a] s).sub t (List.contains_iff_mem.1 hc))))
     rw [if_pos ht] at hk
     exact z4z (zg6 h fun v hv=>by obtain rfl:=List.mem_singleton.1 hv;exact hk _ (.head _)) (fun v hv=>hk v (.tail _ hv)) hS
    rename_i hc
    rw [if_neg hc]
    exact z4z h (fun v hv=>hk v (by split<;>simp [hv])) hS
theorem zk3 {v:Int} {kind op n:Int} {name:ByteArray} {args outs params:List Int} {ks:List (List Nd)} (h:v∈args):uL v [.mk kind op n name args outs params ks]=true:=by
  simp [uL,uN,h]
theorem yj5 {v:Int} {kind op n:Int} {name:ByteArray} {args outs params:List Int} {ks:List (List Nd)} (h:uK v ks=true):uL v [.mk kind op n name args outs params ks]=true:=by
  simp [uL,uN,h]
mutual
theorem yl7 {U:Int->Prop} {S:List Int}:∀ (x:Nd) (h:Hd) (s:List Int),(∀ v∈s,U v)->(∀ v,uL v (z1f S h x)=true->U v)->(∀ v∈z5h h s x,v∈S)->∀ v∈z5h h s x,U v
  | .mk kind op n name args outs params ks,h,s,hs,hu,hS=>by
    unfold z1f at hu
    unfold z5h at hS ⊢
    split at hS
    ·rename_i e
     rw [if_pos e] at hu ⊢
     exact z4z hs (fun v hv=>hu v (zk3 hv)) hS
    rename_i e12
    rw [if_neg e12] at hu ⊢
    split at hS
    ·rename_i e
     rw [if_pos e] at hu ⊢
     exact z4z hs (fun v hv=>hu v (zk3 hv)) hS
    rename_i e13
    rw [if_neg e13] at hu ⊢
    split at hS
    ·rename_i e
     rw [if_pos e] at hu ⊢
     exact z4z hs (fun v hv=>hu v (zk3 hv)) hS
    rename_i e14
    rw [if_neg e14] at hu ⊢
    split at hS
    ·rename_i e
     rw [if_pos e] at hu ⊢
     exact zv6 ks _ _ (zg6 hs fun v hv=>hu v (zk3 hv)) (fun v hv=>hu v (yj5 hv)) hS
    rename_i e10
    rw [if_neg e10] at hu ⊢
    split at hS
    ·rename_i e
     rw [if_pos e] at hu ⊢
     exact zv6 ks _ _ (z4z hs (fun v hv=>hu v (zk3 hv)) fun v hv=>hS v ((z4u ks _ _).sub v hv)) (fun v hv=>hu v (yj5 hv)) hS
    rename_i e11
    rw [if_neg e11] at hu ⊢
    split at hS
    ·rename_i e
     rw [if_pos e]
     have hn:¬ (z0v (.mk kind op n name args outs params ks) && !S.contains (outs.headD 0))=true:=by
       intro hh
       simp only [Bool.and_eq_true,Bool.not_eq_true'] at hh
       rw [hh.1,Bool.not_true,Bool.false_or] at e
       have:=hS _ ((z34 args s).sub _ (List.contains_iff_mem.1 e))
       rw [List.contains_iff_mem.2 this] at hh
       cases hh.2
     rw [if_neg hn] at hu
     exact zg6 hs fun v hv=>hu v (zk3 hv)
    rename_i e
    rw [if_neg e]
    exact hs
theorem zv7 {U:Int->Prop} {S:List Int}:∀ (l:List Nd) (h:Hd) (s:List Int),(∀ v∈s,U v)->(∀ v,uL v (z1m S h l)=true->U v)->(∀ v∈z3e h s l,v∈S)->∀ v∈z3e h s l,U v
  | [],h,s,hs,_,_=>by unfold z3e;exact hs
  | x::r,h,s,hs,hu,hS=>by
    unfold z3e at hS ⊢
    unfold z1m at hu
    exact zv7 r h _ (yl7 x h s hs (fun v hv=>hu v (by rw [yj4,hv,Bool.true_or])) fun v hv=>hS v ((z2t r h _).sub v hv)) (fun v hv=>hu v (by rw [yj4,hv,Bool.or_true])) hS
theorem zv6 {U:Int->Prop} {S:List Int}:∀ (ks:List (List Nd)) (h:Hd) (s:List Int),(∀ v∈s,U v)->(∀ v,uK v (z4v S h ks)=true->U v)->(∀ v∈z83 h s ks,v∈S)->∀ v∈z83 h s ks,U v
  | [],h,s,hs,_,_=>by unfold z83;exact hs
  | l::r,h,s,hs,hu,hS=>by
    unfold z83 at hS ⊢
    unfold z4v at hu
    exact zv6 r h _ (zv7 l h s hs (fun v hv=>hu v (by simp [uK,hv])) fun v hv=>hS v ((z4u r h _).sub v hv)) (fun v hv=>hu v (by simp [uK,hv])) hS
end
theorem y41 (l:List Nd) (n:Nat):∀ k,Pre (z28 l n) (z28 l (n+k))
  | 0=>.refl _
  | k+1=>(y41 l n k).trans (zh0 l _)
theorem yl8 (l:List Nd):∀ v∈wSet l,uL v (wB l)=true:=by
  have key:∀ n,n<=(agL l).length->∀ v∈z28 l n,uL v (wB l)=true:=by
    intro n
    induction n with
    | zero=>intro _ v hv;simp [z28] at hv
    | succ n ih =>
      intro hn
      refine zv7 (S:=wSet l) l hd0 _ (ih oM0) (fun v hv=>hv) fun v hv=>?_
      have:=y41 l (n+1) ((agL l).length - (n+1))
      rw [show n+1+((agL l).length - (n+1))=(agL l).length by omega] at this
      exact this.sub v hv
  exact key _ (Nat.le_refl _)
theorem idle_hm {u:Un} {f:Fl} {x:Nd} {s:List Int} {w:Wh} {outs:List Int} (h:(z2l u f x s w).ok f.types outs=true) (hi:zg8 x=true):z0v x=true:=by
  cases hm:z0v x with
  | true=>rfl
  | false =>
    exfalso
    simp only [zg8,Bool.or_eq_true,Bool.and_eq_true,decide_eq_true_eq,beq_iff_eq] at hi
    have h1:x.kind≠1:=fun e=>by simp [z0v,e] at hm
    have h2:x.kind≠2:=fun e=>by simp [z0v,e] at hm
    have h3:x.kind≠3:=fun e=>by simp [z0v,e] at hm
    have h4:x.kind<=0:=by
      rcases hi with hi | ⟨⟨h4,h5⟩,h6⟩
      ·rcases Int.lt_or_le 0 x.kind with h | h
       ·exact absurd hi oM0
       exact h
      simp [z0v,h4,h5,h6] at hm
    have hf:z2l u f x s w=⟨false,none⟩:=by
      unfold z2l
      repeat (rw [if_neg (by simp;omega)])
    rw [hf] at h
    simp [SForm.ok] at h
mutual
theorem wd_node (u:Un) (f:Fl) {A:List Nd} {s:List Int} (hA:∀ v∈s,uL v A=true):∀ (x:Nd) (deep:Int) (w:Wh) (all:List Int) (h:Hd),z4j u f deep w all x=true->wdL A (z1f s h x)=true
  | .mk kind op n name args outs params ks,deep,w,all,h,hv=>by
    have hb:=z3u u f deep _ all hv
    have NI:∀ a b c d,kind > 4->zg8 (.mk kind op n name a b c d)=false:=fun a b c d hk=>by
      show (decide (kind<=3)||(kind==4&&op != 4&&op != 5))=false
      have h1:decide (kind<=3)=false:=by simp;omega
      have h2:(kind==4)=false:=by simp;omega
      rw [h1,h2];rfl
    have KS:(kind==10)=false->(kind==11)=false->ks=[]:=fun h1 h2=>zh3 hb h1 h2
    have K0:∀ a b c d,kind > 4->wdK A d=true->wdL A [.mk kind op n name a b c d]=true:=fun a b c d hk hd=>by
      simp only [wdL,wdN,NI a b c d hk,hd,Bool.false_and,Bool.not_false,Bool.and_true]
    unfold z1f
    by_cases h12:kind=12
    ·rw [if_pos (by simp [h12])]
     exact K0 _ _ _ _ oM0 (by rw [KS (by simp [h12]) (by simp [h12])];rfl)
    rw [if_neg (by simpa using h12)]
    by_cases h13:kind=13
    ·rw [if_pos (by simp [h13])]
     exact K0 _ _ _ _ oM0 (by rw [KS (by simp [h13]) (by simp [h13])];rfl)
    rw [if_neg (by simpa using h13)]
    by_cases h14:kind=14
    ·rw [if_pos (by simp [h14])]
     exact K0 _ _ _ _ oM0 (by rw [KS (by simp [h14]) (by simp [h14])];rfl)
    rw [if_neg (by simpa using h14)]
    by_cases h10:kind=10
    ·rw [if_pos (by simp [h10])]
     obtain ⟨a,b,hk⟩:=z36 hb h10
     rw [z54 u f deep _ all hb h10 hk] at hv
     simp only [Bool.and_eq_true,z2s] at hv
     simp only [Nd.kids] at hk
     match ks,hk with
     | [a',b'],hk =>
       cases hk
       refine K0 _ _ _ _ oM0 ?_
       simp only [z4v,wdK,Bool.and_eq_true,Bool.and_true]
       exact ⟨zw0 u f hA a _ _ _ _ hv.1.1.1.2.2,zw0 u f hA b _ _ _ _ hv.1.1.2.2⟩
    rw [if_neg (by simpa using h10)]
    by_cases h11:kind=11
    ·rw [if_pos (by simp [h11])]
     obtain ⟨a,hk⟩:=z1t hb h11
     rw [z37 u f deep _ all hb h11 hk] at hv
     simp only [Bool.and_eq_true,z2s] at hv
     simp only [Nd.kids] at hk
     match ks,hk with
     | [a'],hk =>
       cases hk
       refine K0 _ _ _ _ oM0 ?_
       simp only [z4v,wdK,Bool.and_true]
       exact zw0 u f hA a _ _ _ _ hv.1.1.2.2
    rw [if_neg (by simpa using h11)]
    have e10:(kind==10)=false:=by simpa using h10
    have e11:(kind==11)=false:=by simpa using h11
    have hk0:=KS e10 e11
    rw [z1i u f deep _ all hb e10 e11] at hv
    split
    ·rfl
    rename_i hn
    subst hk0
    simp only [wdL,wdN,wdK,Bool.and_true,Bool.not_eq_true']
    cases hi:zg8 (.mk kind op n name args outs params []) with
    | false=>rfl
    | true =>
      have hm:=idle_hm hv hi
      obtain ⟨_,hol⟩:=zc4 (s':=all) (w':=w) hm (fun _ _ h=>h) hv
      simp only [Nd.outs] at hol
      have hc:s.contains (outs.headD 0)=true:=by
        cases hc:s.contains (outs.headD 0) with
        | true=>rfl
        | false=>exact absurd (by rw [hm,hc];rfl) hn
      have hu:=hA _ (List.contains_iff_mem.1 hc)
      have he:outs.getD 0 0=outs.headD 0:=by cases outs<;>rfl
      rw [he,hu,hol]
      rfl
theorem zw0 (u:Un) (f:Fl) {A:List Nd} {s:List Int} (hA:∀ v∈s,uL v A=true):∀ (l:List Nd) (deep:Int) (w:Wh) (all:List Int) (h:Hd),vGo u f deep w all l=true->wdL A (z1m s h l)=true
  | [],_,_,_,_,_=>by simp [z1m,wdL]
  | x::r,deep,w,all,h,hv=>by
    simp only [vGo,Bool.and_eq_true] at hv
    rw [z1m,ym2,wd_node u f hA x _ _ _ h hv.1.1.2,zw0 u f hA r _ _ _ h hv.2]
    rfl
end
theorem y80 (u:Un):y42 (z6d wB u).1=true:=by
  by_cases h:(z18 u).1=0
  ·rw [z6e wB h]
   unfold y42
   rw [List.all_eq_true]
   intro g hg
   obtain ⟨f,hf,rfl⟩:=List.mem_map.1 (show g∈u.flows.map (z3y wB) from hg)
   have hb:=(y1w h f hf).1
   simp only [z2s,Bool.and_eq_true] at hb
   exact zw0 u f (yl8 f.body) f.body 1 _ _ hd0 hb.2
  rw [zz5 wB h]
  rfl
def w64 (n:Int):Int:=IntKind.i64.wrap n
def andI (a b:Int):Int:=IntKind.i64.wrap (BitVec.ofInt IntKind.i64.bits a &&& BitVec.ofInt IntKind.i64.bits b).toNat
def orI (a b:Int):Int:=IntKind.i64.wrap (BitVec.ofInt IntKind.i64.bits a ||| BitVec.ofInt IntKind.i64.bits b).toNat
def xorI (a b:Int):Int:=IntKind.i64.wrap (BitVec.ofInt IntKind.i64.bits a ^^^ BitVec.ofInt IntKind.i64.bits b).toNat
def y2l (b:Bool):Int:=if b then 1 else 0
def mOne (op a:Int):Int :=
  if op==20 then w64 (0 - a) else if op==21 then w64 (-1 - a) else if op==22 then y2l (a==0)
  else if op==26 then andI a 255 else if op==27 then andI a 65535 else if op==28 then andI a 4294967295
  else if op==23 then w64 (xorI (andI a 255) 128 - 128) else if op==24 then w64 (xorI (andI a 65535) 32768 - 32768)
  else if op==25 then w64 (xorI (andI a 4294967295) 2147483648 - 2147483648) else 0
def mTwo (op a b:Int):Int × Bool :=
  if op==1 then (w64 (a+b),true) else if op==2 then (w64 (a - b),true) else if op==3 then (w64 (a*b),true)
  else if op==4||op==5 then (if b==0 then (0,false) else if op==4 then (w64 (a.tdiv b),true) else (a.tmod b,true))
  else if op==6 then (andI a b,true) else if op==7 then (orI a b,true) else if op==8 then (xorI a b,true)
  else if op==9 then (w64 (a*2 ^ min (andI b 63).toNat IntKind.i64.bits),true) else if op==10 then (a.fdiv (2 ^ min (andI b 63).toNat IntKind.i64.bits),true)
  else if op==11 then (w64 ((IntKind.u64.wrap a).fdiv (2 ^ min (andI b 63).toNat IntKind.u64.bits)),true)
  else if op==12 then (y2l (decide (a<b)),true) else if op==13 then (y2l (decide (a<=b)),true) else if op==14 then (y2l (decide (a > b)),true)
  else if op==15 then (y2l (decide (a ≥ b)),true) else if op==16 then (y2l (a==b),true) else if op==17 then (y2l (a != b),true) else (0,false)
theorem and63 (b:Int):0<=andI b 63:=by
  unfold andI
  have h:(BitVec.ofInt IntKind.i64.bits b &&& BitVec.ofInt IntKind.i64.bits 63).toNat<=63:=by
    rw [BitVec.toNat_and]
    have:(BitVec.ofInt IntKind.i64.bits 63).toNat=63:=by decide
    rw [this]
    exact Nat.and_le_right
  rw [IntWalk.i64_in _ oM0]
  omega
structure Rs where
  ins:List Int
  ar:List (List Int)
  st:Int
  code:Int
  out:List Int
  cost:Int
  fuel:Int
  spent:Bool
def z12 (s:Rs):Bool:=s.spent||s.st != 0
def z8d (s:Rs):Bool × Rs:=if z12 s then (false,s) else if s.fuel<1 then (false,{ s with spent:=true }) else (true,{ s with fuel:=w64 (s.fuel - 1) })
def getV (v:List Int) (i:Int):Option Int:=if 0<=i then v[i.toNat]? else none
def setV (v:List Int) (i x:Int):Option (List Int):=if 0<=i/\i.toNat<v.length then some (v.set i.toNat x) else none
def mOf (v:List Int):List Int->Option (List Int)
  | []=>some []
  | i::r=>(getV v i).bind fun x=>(mOf v r).map fun y=>x::y
def mSet (v:List Int):List Int->List Int->Option (List Int)
  | [],_=>some v
  | _::_,[]=>none
  | i::r,x::n=>(setV v i x).bind fun v'=>mSet v' r n
def z8n (s:Rs) (k n:Int):Option (Bool × Rs) :=
  if n<0 then some (false,{ s with st:=3 })
  else if 0<=k then (s.ar[k.toNat]?).bind fun row=>if n ≥ row.length then some (false,{ s with st:=3 }) else some (true,s) else none
abbrev Rend:=Int × List Int
abbrev Rres:=Rend × List Int × Rs
def z4n (rec:List Nd->List Int->Rs->Option Rres) (recLoop:Nd->List Int->List Int->Rs->Option Rres) (recSum:Nd->List Int->Rs->Option (Int × Rs)) (x:Nd) (a v:List Int) (s:Rs):Option Rres :=
  if x.kind==1||x.kind==2 then (x.outs[0]?).bind fun o=>(setV v o x.n).map fun v'=>((0,[]),v',s)
  else if x.kind==12||x.kind==13||x.kind==14||x.kind==15 then some ((x.kind,a),v,s)
  else if x.kind==10 then (a[0]?).bind fun a0=>(x.kids[if a0 != 0 then 0 else 1]?).bind fun q=>(rec q v s).bind fun r =>
    if !z12 r.2.2&&r.1.1==12 then (mSet r.2.1 x.outs r.1.2).map fun v'=>((0,[]),v',r.2.2) else some r
  else if x.kind==11 then recLoop x v a s
  else (recSum x a s).bind fun r=>if !z12 r.2&&decide (0<x.outs.length) then (x.outs[0]?).bind fun o=>(setV v o r.1).map fun v'=>((0,[]),v',r.2) else some ((0,[]),v,r.2)
mutual
def z1u (u:Un):Nat->List Nd->List Int->Rs->Option Rres
  | 0,_,_,_=>none
  | _+1,[],v,s=>some ((0,[]),v,s)
  | d+1,x::l,v,s =>
    match z8d s with
    | (false,s)=>some ((0,[]),v,s)
    | (true,s)=>(mOf v x.args).bind fun a=>(z4n (z1u u d) (z39 u d) (mSum u d) x a v s).bind fun r =>
      if z12 r.2.2||r.1.1 != 0 then some r else z1u u d l r.2.1 r.2.2
def z39 (u:Un):Nat->Nd->List Int->List Int->Rs->Option Rres
  | 0,_,_,_,_=>none
  | d+1,x,v,a,s=>(mSet v x.params a).bind fun v=>(x.kids[0]?).bind fun q=>(z1u u d q v s).bind fun r =>
    if z12 r.2.2||r.1.1==15 then some r
    else if r.1.1==14 then (mSet r.2.1 x.outs r.1.2).map fun v=>((0,[]),v,r.2.2)
    else z39 u d x r.2.1 r.1.2 r.2.2
def mSum (u:Un):Nat->Nd->List Int->Rs->Option (Int × Rs)
  | 0,_,_,_=>none
  | d+1,x,a,s0 =>
    let s:={ s0 with cost:=w64 (s0.cost+1) }
    let k:=z0g x.name u.arrays 0
    if x.kind==3 then (a[0]?).map fun a0=>(mOne x.op a0,s)
    else if x.kind==4 then (a[0]?).bind fun a0=>(a[1]?).map fun a1=>((mTwo x.op a0 a1).1,if (mTwo x.op a0 a1).2 then s else { s with st:=2 })
    else if x.kind==5 then (a[0]?).bind fun a0=>(z8n s k a0).bind fun r=>if r.1 then (s.ar[k.toNat]?).bind fun row=>(row[a0.toNat]?).map fun y=>(y,s) else some (0,r.2)
    else if x.kind==6 then (a[0]?).bind fun a0=>(z8n s k a0).bind fun r=>if r.1 then (a[1]?).bind fun a1=>(s.ar[k.toNat]?).map fun row=>(0,{ s with ar:=s.ar.set k.toNat (row.set a0.toNat a1) }) else some (0,r.2)
    else if x.kind==7 then z3r u d (z03 x.name u.flows 0) a s
    else if x.kind==9 then (a[0]?).bind fun a0=>if s.out.length<1073741824 then some (0,{ s with out:=s.out++[a0] }) else none
    else if x.kind==8 then (match s.ins with | []=>some (0,{ s with st:=4 }) | y::r=>some (y,{ s with ins:=r }))
    else some (0,s)
def z3r (u:Un):Nat->Int->List Int->Rs->Option (Int × Rs)
  | 0,_,_,_=>none
  | d+1,k,a,s=>if 0<=k then (u.flows[k.toNat]?).bind fun f=>if a.length<=f.types.length/\f.types.length<=1073741824 then
      (z1u u d f.body (a++List.replicate (f.types.length - a.length) 0) s).bind fun r=>if z12 r.2.2 then some (0,r.2.2) else some (r.1.2.headD 0,r.2.2) else none else none
end
abbrev uT35:=@Tryz.underlying35
abbrev uT44:=@Tryz.underlying44
abbrev uT43:=@Tryz.underlying43
abbrev uT41:=@Tryz.underlying41
abbrev uT23:=@Tryz.underlying23
abbrev uT3:=@Tryz.underlying3
abbrev uT25:=@Tryz.underlying25
theorem z5q:Tryz.prog.follows .mixedOrders=true:=by kernel_rfl
theorem tS3:(Tryz.prog.info? 3).map (·.size)=some 1:=by kernel_rfl
theorem tS4:(Tryz.prog.info? 4).map (·.size)=some 1:=by kernel_rfl
theorem tS5:(Tryz.prog.info? 5).map (·.size)=some 1:=by kernel_rfl
theorem tS23:(Tryz.prog.info? 23).map (·.size)=some 1:=by kernel_rfl
theorem tS25:(Tryz.prog.info? 25).map (·.size)=some 2:=by kernel_rfl
theorem tS35:(Tryz.prog.info? 35).map (·.size)=some 1:=by kernel_rfl
theorem tS41:(Tryz.prog.info? 41).map (·.size)=some 1:=by kernel_rfl
theorem tS43:(Tryz.prog.info? 43).map (·.size)=some 8:=by kernel_rfl
theorem tS44:(Tryz.prog.info? 44).map (·.size)=some 1:=by kernel_rfl
theorem tS46:(Tryz.prog.info? 46).map (·.size)=some 5:=by kernel_rfl
theorem tS49:(Tryz.prog.info? 49).map (·.size)=some 2:=by kernel_rfl
theorem tS51:(Tryz.prog.info? 51).map (·.size)=some 5:=by kernel_rfl
theorem tS73:(Tryz.prog.info? 73).map (·.size)=some 5:=by kernel_rfl
theorem tS81:(Tryz.prog.info? 81).map (·.size)=some 3:=by kernel_rfl
theorem tS93:(Tryz.prog.info? 93).map (·.size)=some 5:=by kernel_rfl
theorem tS107:(Tryz.prog.info? 107).map (·.size)=some 5:=by kernel_rfl
theorem tS125:(Tryz.prog.info? 125).map (·.size)=some 0:=by kernel_rfl
theorem y1e:(Tryz.prog.info? 152).map (·.size)=some 2:=by kernel_rfl
theorem tB3:(Tryz.prog.info? 3).map (fun i=>(i.size,i.bytes,(i.zero.map fun z=>z.cells.size)))=some (1,8,some 1):=by kernel_rfl
theorem tC3:(Tryz.prog.info? 3).map (fun i=>(i.size,i.bytes))=some (1,8):=by kernel_rfl
theorem tZ3:((Tryz.prog.info? 3).bind (·.zero))=some (.int .i64 (0)):=by kernel_rfl
theorem tC4:(Tryz.prog.info? 4).map (fun i=>(i.size,i.bytes))=some (1,1):=by kernel_rfl
theorem tZ4:((Tryz.prog.info? 4).bind (·.zero))=some (.bool false):=by kernel_rfl
theorem tZ25:((Tryz.prog.info? 25).bind (·.zero))=some (.agg #[.slice none 0 0,.slice none 0 0]):=by kernel_rfl
theorem tF25_0:z0t Tryz.prog 25 0 0:=⟨_,_,0,uT25,rfl,rfl,by kernel_rfl⟩
theorem tF25_1:z0t Tryz.prog 25 1 1:=⟨_,_,0,uT25,rfl,rfl,by kernel_rfl⟩
theorem tP25:∃ fs,Tryz.prog.underlying 25=some (.struct fs)/\z2x Tryz.prog fs #[(0,1),(1,1)]:=⟨_,uT25,fun _=>by kernel_rfl⟩
theorem tB43:(Tryz.prog.info? 43).map (fun i=>(i.size,i.bytes,(i.zero.map fun z=>z.cells.size)))=some (8,136,some 8):=by kernel_rfl
theorem tZ43:((Tryz.prog.info? 43).bind (·.zero))=some (.agg #[.int .i64 (0),.int .i64 (0),.int .i64 (0),.string ⟨#[]⟩,.slice none 0 0,.slice none 0 0,.slice none 0 0,.slice none 0 0]):=by kernel_rfl
theorem tF43_0:z0t Tryz.prog 43 0 0:=⟨_,_,0,uT43,rfl,rfl,by kernel_rfl⟩
theorem tF43_1:z0t Tryz.prog 43 1 1:=⟨_,_,0,uT43,rfl,rfl,by kernel_rfl⟩
theorem tF43_4:z0t Tryz.prog 43 4 4:=⟨_,_,0,uT43,rfl,rfl,by kernel_rfl⟩
theorem tF43_5:z0t Tryz.prog 43 5 5:=⟨_,_,0,uT43,rfl,rfl,by kernel_rfl⟩
theorem yi4:z0t Tryz.prog 43 6 6:=⟨_,_,0,uT43,rfl,rfl,by kernel_rfl⟩
theorem y3p:z0t Tryz.prog 43 7 7:=⟨_,_,0,uT43,rfl,rfl,by kernel_rfl⟩
theorem tP43:∃ fs,Tryz.prog.underlying 43=some (.struct fs)/\z2x Tryz.prog fs #[(0,1),(1,1),(2,1),(3,1),(4,1),(5,1),(6,1),(7,1)]:=⟨_,uT43,fun _=>by kernel_rfl⟩
theorem tZ44:((Tryz.prog.info? 44).bind (·.zero))=some (.slice none 0 0):=by kernel_rfl
theorem tZ46:((Tryz.prog.info? 46).bind (·.zero))=some (.agg #[.int .i64 (0),.int .i64 (0),.slice none 0 0,.int .i64 (0),.int .i64 (0)]):=by kernel_rfl
theorem tF46_0:z0t Tryz.prog 46 0 0:=⟨_,_,0,Tryz.underlying46,rfl,rfl,by kernel_rfl⟩
theorem tF46_1:z0t Tryz.prog 46 1 1:=⟨_,_,0,Tryz.underlying46,rfl,rfl,by kernel_rfl⟩
theorem tF49_0:z0t Tryz.prog 49 0 0:=⟨_,_,0,Tryz.underlying49,rfl,rfl,by kernel_rfl⟩
theorem tB51:(Tryz.prog.info? 51).map (fun i=>(i.size,i.bytes,(i.zero.map fun z=>z.cells.size)))=some (5,80,some 5):=by kernel_rfl
theorem tZ51:((Tryz.prog.info? 51).bind (·.zero))=some (.agg #[.string ⟨#[]⟩,.int .i64 (0),.int .i64 (0),.slice none 0 0,.slice none 0 0]):=by kernel_rfl
theorem tF51_0:z0t Tryz.prog 51 0 0:=⟨_,_,0,Tryz.underlying51,rfl,rfl,by kernel_rfl⟩
theorem tF51_1:z0t Tryz.prog 51 1 1:=⟨_,_,0,Tryz.underlying51,rfl,rfl,by kernel_rfl⟩
theorem tF51_2:z0t Tryz.prog 51 2 2:=⟨_,_,0,Tryz.underlying51,rfl,rfl,by kernel_rfl⟩
theorem tF51_3:z0t Tryz.prog 51 3 3:=⟨_,_,0,Tryz.underlying51,rfl,rfl,by kernel_rfl⟩
theorem tF51_4:z0t Tryz.prog 51 4 4:=⟨_,_,0,Tryz.underlying51,rfl,rfl,by kernel_rfl⟩
theorem tP51:∃ fs,Tryz.prog.underlying 51=some (.struct fs)/\z2x Tryz.prog fs #[(0,1),(1,1),(2,1),(3,1),(4,1)]:=⟨_,Tryz.underlying51,fun _=>by kernel_rfl⟩
theorem tF57_0:z0t Tryz.prog 57 0 0:=⟨_,_,0,Tryz.underlying57,rfl,rfl,by kernel_rfl⟩
theorem tF57_1:z0t Tryz.prog 57 1 1:=⟨_,_,0,Tryz.underlying57,rfl,rfl,by kernel_rfl⟩
theorem tF57_2:z0t Tryz.prog 57 2 2:=⟨_,_,0,Tryz.underlying57,rfl,rfl,by kernel_rfl⟩
theorem tF57_3:z0t Tryz.prog 57 3 3:=⟨_,_,0,Tryz.underlying57,rfl,rfl,by kernel_rfl⟩
theorem tZ73:((Tryz.prog.info? 73).bind (·.zero))=some (.agg #[.bool false,.bool false,.slice none 0 0,.slice none 0 0,.slice none 0 0]):=by kernel_rfl
theorem tF73_1:z0t Tryz.prog 73 1 1:=⟨_,_,0,Tryz.underlying73,rfl,rfl,by kernel_rfl⟩
theorem tF73_3:z0t Tryz.prog 73 3 3:=⟨_,_,0,Tryz.underlying73,rfl,rfl,by kernel_rfl⟩
theorem tF73_4:z0t Tryz.prog 73 4 4:=⟨_,_,0,Tryz.underlying73,rfl,rfl,by kernel_rfl⟩
theorem tP73:∃ fs,Tryz.prog.underlying 73=some (.struct fs)/\z2x Tryz.prog fs #[(0,1),(1,1),(2,1),(3,1),(4,1)]:=⟨_,Tryz.underlying73,fun _=>by kernel_rfl⟩
theorem tZ78:((Tryz.prog.info? 78).bind (·.zero))=some (.agg #[.map none,.bool false]):=by kernel_rfl
theorem tF78_0:z0t Tryz.prog 78 0 0:=⟨_,_,0,Tryz.underlying78,rfl,rfl,by kernel_rfl⟩
theorem tF78_1:z0t Tryz.prog 78 1 1:=⟨_,_,0,Tryz.underlying78,rfl,rfl,by kernel_rfl⟩
theorem tP78:∃ fs,Tryz.prog.underlying 78=some (.struct fs)/\z2x Tryz.prog fs #[(0,1),(1,1)]:=⟨_,Tryz.underlying78,fun _=>by kernel_rfl⟩
theorem tZ81:((Tryz.prog.info? 81).bind (·.zero))=some (.agg #[.slice none 0 0,.slice none 0 0,.slice none 0 0]):=by kernel_rfl
theorem tF81_0:z0t Tryz.prog 81 0 0:=⟨_,_,0,Tryz.underlying81,rfl,rfl,by kernel_rfl⟩
theorem tF81_1:z0t Tryz.prog 81 1 1:=⟨_,_,0,Tryz.underlying81,rfl,rfl,by kernel_rfl⟩
theorem tF81_2:z0t Tryz.prog 81 2 2:=⟨_,_,0,Tryz.underlying81,rfl,rfl,by kernel_rfl⟩
theorem tP81:∃ fs,Tryz.prog.underlying 81=some (.struct fs)/\z2x Tryz.prog fs #[(0,1),(1,1),(2,1)]:=⟨_,Tryz.underlying81,fun _=>by kernel_rfl⟩
theorem tZ91:((Tryz.prog.info? 91).bind (·.zero))=some (.agg #[.slice none 0 0,.slice none 0 0,.string ⟨#[]⟩,.int .i64 (0),.int .i64 (0),.slice none 0 0,.slice none 0 0,.slice none 0 0]):=by kernel_rfl
theorem tF91_1:z0t Tryz.prog 91 1 2:=⟨_,_,4,Tryz.underlying91,rfl,rfl,by kernel_rfl⟩
theorem tF91_2:z0t Tryz.prog 91 2 7:=⟨_,_,0,Tryz.underlying91,rfl,rfl,by kernel_rfl⟩
theorem tP91:∃ fs,Tryz.prog.underlying 91=some (.struct fs)/\z2x Tryz.prog fs #[(0,2),(2,5),(7,1)]:=⟨_,Tryz.underlying91,fun _=>by kernel_rfl⟩
theorem tZ93:((Tryz.prog.info? 93).bind (·.zero))=some (.agg #[.bool false,.bool false,.slice none 0 0,.slice none 0 0,.slice none 0 0]):=by kernel_rfl
theorem tP93:∃ fs,Tryz.prog.underlying 93=some (.struct fs)/\z2x Tryz.prog fs #[(0,1),(1,1),(2,1),(3,1),(4,1)]:=⟨_,Tryz.underlying93,fun _=>by kernel_rfl⟩
theorem tZ104:((Tryz.prog.info? 104).bind (·.zero))=some (.agg #[.slice none 0 0,.slice none 0 0,.string ⟨#[]⟩,.int .i64 (0),.int .i64 (0),.slice none 0 0,.slice none 0 0,.slice none 0 0]):=by kernel_rfl
theorem tF104_1:z0t Tryz.prog 104 1 2:=⟨_,_,4,Tryz.underlying104,rfl,rfl,by kernel_rfl⟩
theorem tF104_2:z0t Tryz.prog 104 2 7:=⟨_,_,0,Tryz.underlying104,rfl,rfl,by kernel_rfl⟩
theorem tP104:∃ fs,Tryz.prog.underlying 104=some (.struct fs)/\z2x Tryz.prog fs #[(0,2),(2,5),(7,1)]:=⟨_,Tryz.underlying104,fun _=>by kernel_rfl⟩
theorem tZ107:((Tryz.prog.info? 107).bind (·.zero))=some (.agg #[.bool false,.bool false,.slice none 0 0,.slice none 0 0,.slice none 0 0]):=by kernel_rfl
theorem tF107_0:z0t Tryz.prog 107 0 0:=⟨_,_,0,Tryz.underlying107,rfl,rfl,by kernel_rfl⟩
theorem tF107_1:z0t Tryz.prog 107 1 1:=⟨_,_,0,Tryz.underlying107,rfl,rfl,by kernel_rfl⟩
theorem tF107_2:z0t Tryz.prog 107 2 2:=⟨_,_,0,Tryz.underlying107,rfl,rfl,by kernel_rfl⟩
theorem tF107_3:z0t Tryz.prog 107 3 3:=⟨_,_,0,Tryz.underlying107,rfl,rfl,by kernel_rfl⟩
theorem tF107_4:z0t Tryz.prog 107 4 4:=⟨_,_,0,Tryz.underlying107,rfl,rfl,by kernel_rfl⟩
theorem tP107:∃ fs,Tryz.prog.underlying 107=some (.struct fs)/\z2x Tryz.prog fs #[(0,1),(1,1),(2,1),(3,1),(4,1)]:=⟨_,Tryz.underlying107,fun _=>by kernel_rfl⟩
theorem yi5:((Tryz.prog.info? 125).bind (·.zero))=some (.agg #[]):=by kernel_rfl
theorem tP125:∃ fs,Tryz.prog.underlying 125=some (.struct fs)/\z2x Tryz.prog fs #[]:=⟨_,Tryz.underlying125,fun _=>by kernel_rfl⟩
theorem z4e:((Tryz.prog.info? 152).bind (·.zero))=some (.agg #[.string ⟨#[]⟩,.int .i64 (0)]):=by kernel_rfl
theorem z4i:∃ fs,Tryz.prog.underlying 152=some (.struct fs)/\z2x Tryz.prog fs #[(0,1),(1,1)]:=⟨_,Tryz.underlying152,fun _=>by kernel_rfl⟩
theorem ent11:z0d Tryz.prog 11:=⟨Tryz.f11,Tryz.func11,by kernel_rfl,by kernel_rfl⟩
theorem ent12:z0d Tryz.prog 12:=⟨Tryz.f12,Tryz.func12,by kernel_rfl,by kernel_rfl⟩
theorem ent16:z0d Tryz.prog 16:=⟨Tryz.f16,Tryz.func16,by kernel_rfl,by kernel_rfl⟩
theorem ent17:z0d Tryz.prog 17:=⟨Tryz.f17,Tryz.func17,by kernel_rfl,by kernel_rfl⟩
theorem ent22:z0d Tryz.prog 22:=⟨Tryz.f22,Tryz.func22,by kernel_rfl,by kernel_rfl⟩
theorem ent23:z0d Tryz.prog 23:=⟨Tryz.f23,Tryz.func23,by kernel_rfl,by kernel_rfl⟩
theorem ent24:z0d Tryz.prog 24:=⟨Tryz.f24,Tryz.func24,by kernel_rfl,by kernel_rfl⟩
theorem ent32:z0d Tryz.prog 32:=⟨Tryz.f32,Tryz.func32,by kernel_rfl,by kernel_rfl⟩
theorem ent33:z0d Tryz.prog 33:=⟨Tryz.f33,Tryz.func33,by kernel_rfl,by kernel_rfl⟩
theorem y7g:z0d Tryz.prog 34:=⟨Tryz.f34,Tryz.func34,by kernel_rfl,by kernel_rfl⟩
theorem ent35:z0d Tryz.prog 35:=⟨Tryz.f35,Tryz.func35,by kernel_rfl,by kernel_rfl⟩
theorem y9t:z0d Tryz.prog 36:=⟨Tryz.f36,Tryz.func36,by kernel_rfl,by kernel_rfl⟩
theorem ent37:z0d Tryz.prog 37:=⟨Tryz.f37,Tryz.func37,by kernel_rfl,by kernel_rfl⟩
theorem ent38:z0d Tryz.prog 38:=⟨Tryz.f38,Tryz.func38,by kernel_rfl,by kernel_rfl⟩
theorem ent39:z0d Tryz.prog 39:=⟨Tryz.f39,Tryz.func39,by kernel_rfl,by kernel_rfl⟩
theorem ent40:z0d Tryz.prog 40:=⟨Tryz.f40,Tryz.func40,by kernel_rfl,by kernel_rfl⟩
theorem ent41:z0d Tryz.prog 41:=⟨Tryz.f41,Tryz.func41,by kernel_rfl,by kernel_rfl⟩
theorem ent48:z0d Tryz.prog 48:=⟨Tryz.f48,Tryz.func48,by kernel_rfl,by kernel_rfl⟩
theorem y9u:z0d Tryz.prog 49:=⟨Tryz.f49,Tryz.func49,by kernel_rfl,by kernel_rfl⟩
theorem ent50:z0d Tryz.prog 50:=⟨Tryz.f50,Tryz.func50,by kernel_rfl,by kernel_rfl⟩
theorem y9v:z0d Tryz.prog 51:=⟨Tryz.f51,Tryz.func51,by kernel_rfl,by kernel_rfl⟩
theorem ent52:z0d Tryz.prog 52:=⟨Tryz.f52,Tryz.func52,by kernel_rfl,by kernel_rfl⟩
theorem y9w:z0d Tryz.prog 53:=⟨Tryz.f53,Tryz.func53,by kernel_rfl,by kernel_rfl⟩
theorem ent54:z0d Tryz.prog 54:=⟨Tryz.f54,Tryz.func54,by kernel_rfl,by kernel_rfl⟩
theorem ent56:z0d Tryz.prog 56:=⟨Tryz.f56,Tryz.func56,by kernel_rfl,by kernel_rfl⟩
theorem ent58:z0d Tryz.prog 58:=⟨Tryz.f58,Tryz.func58,by kernel_rfl,by kernel_rfl⟩
theorem ent59:z0d Tryz.prog 59:=⟨Tryz.f59,Tryz.func59,by kernel_rfl,by kernel_rfl⟩
theorem ent60:z0d Tryz.prog 60:=⟨Tryz.f60,Tryz.func60,by kernel_rfl,by kernel_rfl⟩
theorem ent61:z0d Tryz.prog 61:=⟨Tryz.f61,Tryz.func61,by kernel_rfl,by kernel_rfl⟩
theorem y4c:z0d Tryz.prog 62:=⟨Tryz.f62,Tryz.func62,by kernel_rfl,by kernel_rfl⟩
theorem ent63:z0d Tryz.prog 63:=⟨Tryz.f63,Tryz.func63,by kernel_rfl,by kernel_rfl⟩
theorem ent64:z0d Tryz.prog 64:=⟨Tryz.f64,Tryz.func64,by kernel_rfl,by kernel_rfl⟩
theorem ent70:z0d Tryz.prog 70:=⟨Tryz.f70,Tryz.func70,by kernel_rfl,by kernel_rfl⟩
theorem ent71:z0d Tryz.prog 71:=⟨Tryz.f71,Tryz.func71,by kernel_rfl,by kernel_rfl⟩
theorem ent72:z0d Tryz.prog 72:=⟨Tryz.f72,Tryz.func72,by kernel_rfl,by kernel_rfl⟩
theorem ent73:z0d Tryz.prog 73:=⟨Tryz.f73,Tryz.func73,by kernel_rfl,by kernel_rfl⟩
theorem ent74:z0d Tryz.prog 74:=⟨Tryz.f74,Tryz.func74,by kernel_rfl,by kernel_rfl⟩
theorem ent78:z0d Tryz.prog 78:=⟨Tryz.f78,Tryz.func78,by kernel_rfl,by kernel_rfl⟩
theorem ent79:z0d Tryz.prog 79:=⟨Tryz.f79,Tryz.func79,by kernel_rfl,by kernel_rfl⟩
theorem ent80:z0d Tryz.prog 80:=⟨Tryz.f80,Tryz.func80,by kernel_rfl,by kernel_rfl⟩
theorem ent81:z0d Tryz.prog 81:=⟨Tryz.f81,Tryz.func81,by kernel_rfl,by kernel_rfl⟩
theorem ent82:z0d Tryz.prog 82:=⟨Tryz.f82,Tryz.func82,by kernel_rfl,by kernel_rfl⟩
theorem ent83:z0d Tryz.prog 83:=⟨Tryz.f83,Tryz.func83,by kernel_rfl,by kernel_rfl⟩
theorem ent84:z0d Tryz.prog 84:=⟨Tryz.f84,Tryz.func84,by kernel_rfl,by kernel_rfl⟩
theorem ent85:z0d Tryz.prog 85:=⟨Tryz.f85,Tryz.func85,by kernel_rfl,by kernel_rfl⟩
theorem ent86:z0d Tryz.prog 86:=⟨Tryz.f86,Tryz.func86,by kernel_rfl,by kernel_rfl⟩
theorem ent87:z0d Tryz.prog 87:=⟨Tryz.f87,Tryz.func87,by kernel_rfl,by kernel_rfl⟩
theorem ent88:z0d Tryz.prog 88:=⟨Tryz.f88,Tryz.func88,by kernel_rfl,by kernel_rfl⟩
theorem ent97:z0d Tryz.prog 97:=⟨Tryz.f97,Tryz.func97,by kernel_rfl,by kernel_rfl⟩
theorem ent98:z0d Tryz.prog 98:=⟨Tryz.f98,Tryz.func98,by kernel_rfl,by kernel_rfl⟩
theorem ent99:z0d Tryz.prog 99:=⟨Tryz.f99,Tryz.func99,by kernel_rfl,by kernel_rfl⟩
theorem ent100:z0d Tryz.prog 100:=⟨Tryz.f100,Tryz.func100,by kernel_rfl,by kernel_rfl⟩
theorem y22:z0d Tryz.prog 101:=⟨Tryz.f101,Tryz.func101,by kernel_rfl,by kernel_rfl⟩
theorem ent102:z0d Tryz.prog 102:=⟨Tryz.f102,Tryz.func102,by kernel_rfl,by kernel_rfl⟩
theorem ent103:z0d Tryz.prog 103:=⟨Tryz.f103,Tryz.func103,by kernel_rfl,by kernel_rfl⟩
theorem ent104:z0d Tryz.prog 104:=⟨Tryz.f104,Tryz.func104,by kernel_rfl,by kernel_rfl⟩
theorem y9q:z0d Tryz.prog 105:=⟨Tryz.f105,Tryz.func105,by kernel_rfl,by kernel_rfl⟩
theorem zx7:z0d Tryz.prog 112:=⟨Tryz.f112,Tryz.func112,by kernel_rfl,by kernel_rfl⟩
theorem y9r:z0d Tryz.prog 114:=⟨Tryz.f114,Tryz.func114,by kernel_rfl,by kernel_rfl⟩
theorem ent117:z0d Tryz.prog 117:=⟨Tryz.f117,Tryz.func117,by kernel_rfl,by kernel_rfl⟩
theorem ent118:z0d Tryz.prog 118:=⟨Tryz.f118,Tryz.func118,by kernel_rfl,by kernel_rfl⟩
theorem ent119:z0d Tryz.prog 119:=⟨Tryz.f119,Tryz.func119,by kernel_rfl,by kernel_rfl⟩
theorem y9s:z0d Tryz.prog 120:=⟨Tryz.f120,Tryz.func120,by kernel_rfl,by kernel_rfl⟩
theorem ent121:z0d Tryz.prog 121:=⟨Tryz.f121,Tryz.func121,by kernel_rfl,by kernel_rfl⟩
theorem ent122:z0d Tryz.prog 122:=⟨Tryz.f122,Tryz.func122,by kernel_rfl,by kernel_rfl⟩
theorem ent123:z0d Tryz.prog 123:=⟨Tryz.f123,Tryz.func123,by kernel_rfl,by kernel_rfl⟩
theorem ent124:z0d Tryz.prog 124:=⟨Tryz.f124,Tryz.func124,by kernel_rfl,by kernel_rfl⟩
theorem ent125:z0d Tryz.prog 125:=⟨Tryz.f125,Tryz.func125,by kernel_rfl,by kernel_rfl⟩
theorem ent126:z0d Tryz.prog 126:=⟨Tryz.f126,Tryz.func126,by kernel_rfl,by kernel_rfl⟩
theorem ent127:z0d Tryz.prog 127:=⟨Tryz.f127,Tryz.func127,by kernel_rfl,by kernel_rfl⟩
theorem ent128:z0d Tryz.prog 128:=⟨Tryz.f128,Tryz.func128,by kernel_rfl,by kernel_rfl⟩
theorem ent129:z0d Tryz.prog 129:=⟨Tryz.f129,Tryz.func129,by kernel_rfl,by kernel_rfl⟩
theorem ent130:z0d Tryz.prog 130:=⟨Tryz.f130,Tryz.func130,by kernel_rfl,by kernel_rfl⟩
theorem ent131:z0d Tryz.prog 131:=⟨Tryz.f131,Tryz.func131,by kernel_rfl,by kernel_rfl⟩
def tabL:List (Nat × List (Option Nat)):=[(7,[some 0,some 1,some 2,some 3]),(8,[some 0,some 1,some 2,some 3]),(13,[some 0,some 1]),(14,[some 0,some 1]),(18,[some 0]),(19,[some 0]),(24,[some 0,some 1]),(25,[some 0,some 1]),(42,[some 0,some 1,some 2,some 3,some 4,some 5,some 6,some 7]),(43,[some 0,some 1,some 2,some 3,some 4,some 5,some 6,some 7]),(45,[some 0,some 1,some 2,some 3,some 4]),(46,[some 0,some 1,some 2,some 3,some 4]),(48,[some 0,some 1]),(49,[some 0,some 1]),(50,[some 0,some 1,some 2,some 3,some 4]),(51,[some 0,some 1,some 2,some 3,some 4]),(56,[some 0,some 1,some 2,some 3]),(57,[some 0,some 1,some 2,some 3]),(65,[some 0,some 2,some 3,some 4,some 9]),(66,[some 0,some 2,some 3,some 4,some 9]),(72,[some 0,some 1,some 2,some 3,some 4]),(73,[some 0,some 1,some 2,some 3,some 4]),(77,[some 0,some 1]),(78,[some 0,some 1]),(80,[some 0,some 1,some 2]),(81,[some 0,some 1,some 2]),(84,[some 0,some 1]),(85,[some 0,some 1]),(90,[some 0,some 2,some 7]),(91,[some 0,some 2,some 7]),(93,[some 0,some 1,some 2,some 3,some 4]),(103,[some 0,some 2,some 7]),(104,[some 0,some 2,some 7]),(106,[some 0,some 1,some 2,some 3,some 4]),(107,[some 0,some 1,some 2,some 3,some 4]),(125,[]),(151,[some 0,some 1]),(152,[some 0,some 1]),(157,[some 0,some 1,some 2,some 3]),(158,[some 0,some 1,some 2,some 3]),(160,[none]),(161,[none]),(170,[some 0,some 1,some 2,some 3,some 4,some 5,some 6,some 7,some 8,some 9,some 10]),(171,[some 0,some 1,some 2,some 3,some 4,some 5,some 6,some 7,some 8,some 9,some 10])]
def tabQ:List Nat:=[2,3,4,5,6,9,10,11,12,15,16,17,21,22,23,29,31,35,41,44,55,63,64,74,75,76,88,89,99,102,136,140,163,164,165,167,168,169]
theorem tabL_ok:yc5 Tryz.prog tabL=true:=by kernel_rfl
theorem tabQ_ok:okLd Tryz.prog tabQ=true:=by kernel_rfl
def tab:Tab Tryz.prog:=mkTab Tryz.prog tabL tabQ tabL_ok tabQ_ok
theorem sm {c:Cx} {ops:Array Oper} {hp:Hp} {l l':List Oper} {fr fr':Fr} {Q:Exit->Fr->Heap'->Prop} (n:Nat) (h:simL tab ops hp c.n n l fr=some (l',fr')) (h2:WL Tryz.prog c ops Q l' fr' (look hp)):WL Tryz.prog c ops Q l fr (look hp):=sim tab n h h2
theorem smS {c:Cx} {ops:Array Oper} {hp:Hp} {l l':List Oper} {fr fr':Fr} {Q:Exit->Fr->Heap'->Prop} (n:Nat) (h:simL tab ops hp c.n n l fr=some (l',fr')) (h2:WS Tryz.prog c ops Q l' fr' (look hp)):WS Tryz.prog c ops Q l fr (look hp):=simS tab n h h2
theorem smR {c:Cx} {R1:Nat->Prop} {ops:Array Oper} {hp:Hp} {is is':List Nat} {li li':Array Bool} {fr fr':Fr} {Q:Exit->Fr->Heap'->Prop} {fuel:Nat} (n:Nat) (h:simR tab ops hp c.n n is li fr=some (is',li',fr')) (h2:WR Tryz.prog c R1 ops Q is' fuel li' fr' (look hp)):WR Tryz.prog c R1 ops Q is fuel li fr (look hp):=simR' tab n h h2
def rowI (l:List Int):HO:=.row ⟨3,1⟩ (l.map eInt)
def endv (e:Rend):PV:=.agg [vInt e.1,ints e.2]
theorem yh1 {v v':List Int} {x y:Int} (h:setV v x y=some v'):0<=x/\x.toNat<(v.map eInt).length/\v'=v.set x.toNat y:=by
  unfold setV at h
  split at h
  · rename_i hx
    exact ⟨hx.1,by simpa using hx.2,by cases h;rfl⟩
  · cases h
theorem zr3 {v v':List Int} {x:Int} {r n:List Int} (h:mSet v (x::r) n=some v'):∃ y n' v1,n=y::n'/\setV v x y=some v1/\mSet v1 r n'=some v':=by
  cases n with
  | nil=>cases h
  | cons y n' =>
    simp only [mSet,Option.bind_eq_some_iff] at h
    obtain ⟨v1,h1,h2⟩:=h
    exact ⟨y,n',v1,rfl,h1,h2⟩
section
def z56 (s:Rs):Rs:={ s with cost:=w64 (s.cost+1) }
theorem zo2 {v v':List Int} {x y:Int} (h:setV v x y=some v'):v'.length=v.length:=by
  rw [(yh1 h).2.2,List.length_set]
theorem z49:∀ {l n v v':List Int},mSet v l n=some v'->v'.length=v.length
  | [],_,_,_,h=>by cases h;rfl
  | _::_,_,_,_,h=>by
    obtain ⟨y,n',v1,rfl,h1,h2⟩:=zr3 h
    rw [z49 h2,zo2 h1]
theorem y2n {rec:List Nd->List Int->Rs->Option Rres} {recLoop:Nd->List Int->List Int->Rs->Option Rres} {recSum:Nd->List Int->Rs->Option (Int × Rs)} {x:Nd} {a v:List Int} {s:Rs} {r:Rres}
    (hr:∀ q v s r,rec q v s=some r->r.2.1.length=v.length) (hl:∀ x v a s r,recLoop x v a s=some r->r.2.1.length=v.length) (h:z4n rec recLoop recSum x a v s=some r):r.2.1.length=v.length:=by
  unfold z4n at h
  split at h
  ·simp only [Option.bind_eq_some_iff,Option.map_eq_some_iff] at h
   obtain ⟨o,_,v',h1,rfl⟩:=h
   exact zo2 h1
  split at h
  ·cases h;rfl
  split at h
  ·simp only [Option.bind_eq_some_iff] at h
   obtain ⟨a0,_,q,_,r1,h1,h2⟩:=h
   have h3:=hr _ _ _ _ h1
   split at h2
   ·simp only [Option.map_eq_some_iff] at h2
    obtain ⟨v',h4,rfl⟩:=h2
    exact (z49 h4).trans h3
   cases h2;exact h3
  split at h
  ·exact hl _ _ _ _ _ h
  simp only [Option.bind_eq_some_iff] at h
  obtain ⟨r1,h1,h2⟩:=h
  split at h2
  ·simp only [Option.bind_eq_some_iff,Option.map_eq_some_iff] at h2
   obtain ⟨o,_,v',h4,rfl⟩:=h2
   exact zo2 h4
  cases h2;rfl
theorem zi5 (u:Un):∀ d,(∀ l v s r,z1u u d l v s=some r->r.2.1.length=v.length)/\∀ x v a s r,z39 u d x v a s=some r->r.2.1.length=v.length
  | 0=>⟨fun _ _ _ _ h=>by simp [z1u] at h,fun _ _ _ _ _ h=>by simp [z39] at h⟩
  | d+1=>by
    obtain ⟨i1,i2⟩:=zi5 u d
    refine ⟨fun l v s r h=>?_,fun x v a s r h=>?_⟩
    ·cases l with
     | nil=>simp only [z1u] at h;cases h;rfl
     | cons x l =>
       rw [z1u] at h
       split at h
       ·cases h;rfl
       simp only [Option.bind_eq_some_iff] at h
       obtain ⟨a,_,r1,h1,h2⟩:=h
       have h3:=y2n i1 i2 h1
       split at h2
       ·cases h2;exact h3
       exact (i1 _ _ _ _ h2).trans h3
    rw [z39] at h
    simp only [Option.bind_eq_some_iff] at h
    obtain ⟨v1,hv1,q,_,r1,h1,h2⟩:=h
    have h3:=(i1 _ _ _ _ h1).trans (z49 hv1)
    split at h2
    ·cases h2;exact h3
    split at h2
    ·simp only [Option.map_eq_some_iff] at h2
     obtain ⟨v',h4,rfl⟩:=h2
     exact (z49 h4).trans h3
    exact (i2 _ _ _ _ _ h2).trans h3
theorem z76 {u:Un} {d:Nat} {l:List Nd} {v:List Int} {s:Rs} {r:Rres} (h:z1u u d l v s=some r):r.2.1.length=v.length:=(zi5 u d).1 _ _ _ _ h
theorem z4f {u:Un} {d:Nat} {x:Nd} {v a:List Int} {s:Rs} {r:Rres} (h:z39 u d x v a s=some r):∃ d1 v2 q r1,d=d1+1/\mSet v x.params a=some v2/\x.kids[0]? = some q/\z1u u d1 q v2 s=some r1 /\
    (if z12 r1.2.2||r1.1.1==15 then some r1 else if r1.1.1==14 then (mSet r1.2.1 x.outs r1.1.2).map fun v=>((0,[]),v,r1.2.2) else z39 u d1 x r1.2.1 r1.1.2 r1.2.2)=some r:=by
  cases d with
  | zero=>simp [z39] at h
  | succ d =>
    rw [z39] at h
    simp only [Option.bind_eq_some_iff] at h
    obtain ⟨v2,h1,q,h2,r1,h3,h4⟩:=h
    exact ⟨d,v2,q,r1,rfl,h1,h2,h3,h4⟩
theorem z77 {u:Un} {d:Nat} {x:Nd} {l:List Nd} {v:List Int} {s s2:Rs} {r:Rres} (hs2:(z8d s).2=s2) (h:z1u u d (x::l) v s=some r):∃ d1,d=d1+1/\(((z8d s).1=false/\r=((0,[]),v,s2)) ∨
    ((z8d s).1=true/\∃ a r1,mOf v x.args=some a/\z4n (z1u u d1) (z39 u d1) (mSum u d1) x a v s2=some r1/\(if z12 r1.2.2||r1.1.1 != 0 then some r1 else z1u u d1 l r1.2.1 r1.2.2)=some r)):=by
  cases d with
  | zero=>simp [z1u] at h
  | succ d =>
    refine ⟨d,rfl,?_⟩
    subst hs2
    rw [z1u] at h
    split at h
    ·rename_i s' e;cases h;exact .inl ⟨by rw [e],by rw [e]⟩
    rename_i s' e
    simp only [Option.bind_eq_some_iff] at h
    obtain ⟨a,h1,r1,h2,h3⟩:=h
    exact .inr ⟨by rw [e],a,r1,h1,by rw [e];exact h2,h3⟩
section
variable {rec:List Nd->List Int->Rs->Option Rres} {recLoop:Nd->List Int->List Int->Rs->Option Rres} {recSum:Nd->List Int->Rs->Option (Int × Rs)} {x:Nd} {a v:List Int} {s:Rs} {r:Rres}
theorem z78 (h:z4n rec recLoop recSum x a v s=some r) (hk:(x.kind==1||x.kind==2)=true):∃ o v2,x.outs[0]? = some o/\setV v o x.n=some v2/\r=((0,[]),v2,s):=by
  unfold z4n at h
  rw [if_pos hk] at h
  simp only [Option.bind_eq_some_iff,Option.map_eq_some_iff] at h
  obtain ⟨o,h1,v2,h2,rfl⟩:=h
  exact ⟨o,v2,h1,h2,rfl⟩
theorem z4o (h:z4n rec recLoop recSum x a v s=some r) (hk:(x.kind==12||x.kind==13||x.kind==14||x.kind==15)=true):r=((x.kind,a),v,s):=by
  unfold z4n at h
  rw [if_neg (by simp only [Bool.or_eq_true,beq_iff_eq] at hk ⊢;omega),if_pos hk] at h
  cases h;rfl
theorem ze3 (h:z4n rec recLoop recSum x a v s=some r) (hk:(x.kind==10)=true):∃ a0 q r1,a[0]? = some a0/\x.kids[if a0 != 0 then 0 else 1]? = some q/\rec q v s=some r1 /\
    (if !z12 r1.2.2&&r1.1.1==12 then (mSet r1.2.1 x.outs r1.1.2).map fun v'=>((0,[]),v',r1.2.2) else some r1)=some r:=by
  unfold z4n at h
  rw [if_neg (by simp only [Bool.or_eq_true,beq_iff_eq] at hk ⊢;omega),if_neg (by simp only [Bool.or_eq_true,beq_iff_eq] at hk ⊢;omega),if_pos hk] at h
  simp only [Option.bind_eq_some_iff] at h
  obtain ⟨a0,h1,q,h2,r1,h3,h4⟩:=h
  exact ⟨a0,q,r1,h1,h2,h3,h4⟩
theorem z5z (h:z4n rec recLoop recSum x a v s=some r) (hk:(x.kind==11)=true):recLoop x v a s=some r:=by
  unfold z4n at h
  rw [if_neg (by simp only [Bool.or_eq_true,beq_iff_eq] at hk ⊢;omega),if_neg (by simp only [Bool.or_eq_true,beq_iff_eq] at hk ⊢;omega),if_neg (by simp only [beq_iff_eq] at hk ⊢;omega),if_pos hk] at h
  exact h
theorem z79 (h:z4n rec recLoop recSum x a v s=some r) (h1:(x.kind==1||x.kind==2)=false) (h2:(x.kind==12||x.kind==13||x.kind==14||x.kind==15)=false) (h3:(x.kind==10)=false) (h4:(x.kind==11)=false):∃ r1,recSum x a s=some r1 /\
    (if !z12 r1.2&&decide (0<x.outs.length) then (x.outs[0]?).bind fun o=>(setV v o r1.1).map fun v'=>((0,[]),v',r1.2) else some ((0,[]),v,r1.2))=some r:=by
  unfold z4n at h
  rw [h1,h2,h3,h4] at h
  simp only [Bool.false_eq_true,if_false,Option.bind_eq_some_iff] at h
  exact h
end
theorem z5y {u:Un} {d:Nat} {k:Int} {a:List Int} {s:Rs} {r:Int × Rs} (h:z3r u d k a s=some r):∃ d1 f r1,d=d1+1/\0<=k/\u.flows[k.toNat]? = some f/\a.length<=f.types.length/\f.types.length<=1073741824 /\
    z1u u d1 f.body (a++List.replicate (f.types.length - a.length) 0) s=some r1/\r=(if z12 r1.2.2 then 0 else r1.1.2.headD 0,r1.2.2):=by
  cases d with
  | zero=>simp [z3r] at h
  | succ d =>
    rw [z3r] at h
    split at h
    ·rename_i hk
     simp only [Option.bind_eq_some_iff] at h
     obtain ⟨f,hf,h⟩:=h
     split at h
     ·rename_i hl
      simp only [Option.bind_eq_some_iff] at h
      obtain ⟨r1,h1,h2⟩:=h
      refine ⟨d,f,r1,rfl,hk,hf,hl.1,hl.2,h1,?_⟩
      split at h2<;>cases h2<;>simp_all
     cases h
    cases h
variable {u:Un} {d:Nat} {x:Nd} {a:List Int} {s:Rs} {r:Int × Rs}
theorem z6r (h:mSum u d x a s=some r):∃ d',d=d'+1:=by
  cases d with
  | zero=>simp [mSum] at h
  | succ d=>exact ⟨d,rfl⟩
theorem z9g (h:mSum u (d+1) x a s=some r) (hk:(x.kind==3)=true):∃ a0,a[0]? = some a0/\r=(mOne x.op a0,z56 s):=by
  simp only [mSum,hk,if_true,Option.map_eq_some_iff] at h
  obtain ⟨a0,h1,rfl⟩:=h
  exact ⟨a0,h1,rfl⟩
theorem z9h (h:mSum u (d+1) x a s=some r) (hk:(x.kind==4)=true):∃ a0 a1,a[0]? = some a0/\a[1]? = some a1/\r=((mTwo x.op a0 a1).1,if (mTwo x.op a0 a1).2 then z56 s else { z56 s with st:=2 }):=by
  have h3:(x.kind==3)=false:=by have:=eq_of_beq hk;rw [this];rfl
  simp only [mSum,h3,hk,if_true,Bool.false_eq_true,if_false,Option.map_eq_some_iff,Option.bind_eq_some_iff] at h
  obtain ⟨a0,h1,a1,h2,rfl⟩:=h
  exact ⟨a0,a1,h1,h2,rfl⟩
theorem z8o (h:mSum u (d+1) x a s=some r) (hk:(x.kind==7)=true):z3r u d (z03 x.name u.flows 0) a (z56 s)=some r:=by
  have e:=eq_of_beq hk
  simp only [mSum,e] at h
  exact h
theorem z7b (h:mSum u (d+1) x a s=some r) (hk:(x.kind==9)=true):∃ a0,a[0]? = some a0/\s.out.length<1073741824/\r=(0,{ z56 s with out:=s.out++[a0] }):=by
  have e:=eq_of_beq hk
  simp only [mSum,e] at h
  simp only [show ((9:Int)==3)=false from rfl,show ((9:Int)==4)=false from rfl,show ((9:Int)==5)=false from rfl,show ((9:Int)==6)=false from rfl,show ((9:Int)==7)=false from rfl,show ((9:Int)==9)=true from rfl,if_true,Bool.false_eq_true,if_false,Option.bind_eq_some_iff] at h
  obtain ⟨a0,h1,h2⟩:=h
  split at h2
  ·rename_i h3;cases h2;exact ⟨a0,h1,h3,rfl⟩
  cases h2
theorem z8q (h:mSum u (d+1) x a s=some r) (hk:(x.kind==8)=true):(s.ins=[]/\r=(0,{ z56 s with st:=4 }))∨∃ y q,s.ins=y::q/\r=(y,{ z56 s with ins:=q }):=by
  have e:=eq_of_beq hk
  simp only [mSum,e] at h
  simp only [show ((8:Int)==3)=false from rfl,show ((8:Int)==4)=false from rfl,show ((8:Int)==5)=false from rfl,show ((8:Int)==6)=false from rfl,show ((8:Int)==7)=false from rfl,show ((8:Int)==9)=false from rfl,show ((8:Int)==8)=true from rfl,if_true,Bool.false_eq_true,if_false] at h
  split at h
  ·rename_i h1;cases h;exact .inl ⟨h1,rfl⟩
  rename_i y q h1;cases h;exact .inr ⟨y,q,h1,rfl⟩
theorem z8p (h:mSum u (d+1) x a s=some r) (h3:(x.kind==3)=false) (h4:(x.kind==4)=false) (h5:(x.kind==5)=false) (h6:(x.kind==6)=false) (h7:(x.kind==7)=false) (h9:(x.kind==9)=false) (h8:(x.kind==8)=false):r=(0,z56 s):=by
  simp only [mSum,h3,h4,h5,h6,h7,h8,h9,Bool.false_eq_true,if_false] at h
  cases h;rfl
end
def arI:List (List Int)->IV
  | []=>.pv (.val (.slice none 0 0))
  | _::_=>.bs 1003 1
def arH:List (List Int)->List (Nat × HO)
  | []=>[]
  | r::_=>[(1003,.box [.sl 1004 (r.map eInt).length]),(1004,rowI r)]
def rBox (u:Un) (s:Rs):HO:=.box [.pv (arrs u.arrays),.pv (flws u.flows),.pv (ints s.ins),arI s.ar,iInt s.st,iInt s.code,.sl 1002 (s.out.map eInt).length,iInt s.cost,iInt s.fuel,iBool s.spent]
def rH (u:Un) (s:Rs):List (Nat × HO):=(1001,rBox u s)::(1002,rowI s.out)::arH s.ar
def rHV (u:Un) (s:Rs) (v:List Int):List (Nat × HO):=(1001,rBox u s)::(1002,rowI s.out)::(510,rowI v)::arH s.ar
theorem z5a:PSub (.agg [vInt 0,.val (.slice none 0 0)]) (endv (0,[])):=PSub.agg (ps:=[vInt 0,.val (.slice none 0 0)]) (qs:=[vInt 0,.seq []]) (And.intro (PSub.refl _) (And.intro PSub.nil trivial))
theorem zc3 {v v':List Int} {o x:Int} (h:setV v o x=some v'):0<=o/\o.toNat<v.length/\v'=v.set o.toNat x:=by
  unfold setV at h
  split at h
  ·rename_i h1;cases h;exact ⟨h1.1,h1.2,rfl⟩
  cases h
theorem y2m {u:Un} {d:Nat} {v:List Int} {s:Rs} {r:Rres} (h:z1u u d [] v s=some r):r=((0,[]),v,s):=by
  cases d with
  | zero=>simp [z1u] at h
  | succ d=>simp only [z1u] at h;cases h;rfl
theorem zz0 {s s':Rs} {k n:Int} (h:z8n s k n=some (true,s')):s'=s/\0<=n/\0<=k/\∃ row,s.ar[k.toNat]? = some row/\n<row.length:=by
  unfold z8n at h
  split at h
  ·cases h
  split at h
  ·obtain ⟨row,h1,h2⟩:=Option.bind_eq_some_iff.1 h
   split at h2
   ·cases h2
   cases h2
   exact ⟨rfl,by omega,by omega,row,h1,by omega⟩
  cases h
theorem ze2 {s:Rs} {k n:Int} {q:Bool × Rs} (h:z8n s k n=some q):q.2.ar.length=s.ar.length:=by
  unfold z8n at h
  split at h
  ·cases h;rfl
  split at h
  ·obtain ⟨row,h1,h2⟩:=Option.bind_eq_some_iff.1 h
   split at h2<;>cases h2<;>rfl
  cases h
theorem one_ar {s:Rs} {k:Int} {row:List Int} (h1:s.ar.length<=1) (hk:0<=k) (h:s.ar[k.toNat]? = some row):k=((0:Nat):Int)/\s.ar=[row]:=by
  have h2:=(List.getElem?_eq_some_iff.1 h).1
  have h3:k.toNat=0:=by omega
  rw [h3] at h
  match hs:s.ar,h,h1 with
  | [],h,_=>cases h
  | [r],h,_=>cases h;exact ⟨by omega,rfl⟩
  | _::_::_,_,h1=>simp at h1
theorem z7a {u:Un} {d:Nat} {x:Nd} {a:List Int} {s:Rs} {r:Int × Rs} (h:mSum u (d+1) x a s=some r) (hk:x.kind=5):∃ a0 b s',a[0]? = some a0/\z8n (z56 s) (z0g x.name u.arrays 0) a0=some (b,s') /\
    ((b=false/\r=(0,s'))∨(b=true/\∃ row y,(z56 s).ar[(z0g x.name u.arrays 0).toNat]? = some row/\row[a0.toNat]? = some y/\r=(y,z56 s))):=by
  simp only [mSum,hk,show ((5:Int)==3)=false from rfl,show ((5:Int)==4)=false from rfl,show ((5:Int)==5)=true from rfl,if_true,Bool.false_eq_true,if_false,Option.bind_eq_some_iff] at h
  obtain ⟨a0,h1,⟨b,s'⟩,h2,h5⟩:=h
  refine ⟨a0,b,s',h1,h2,?_⟩
  cases b with
  | false=>exact .inl ⟨rfl,by simpa using h5.symm⟩
  | true =>
    simp only [if_true,Option.bind_eq_some_iff,Option.map_eq_some_iff] at h5
    obtain ⟨row,h6,y,h7,h8⟩:=h5
    exact .inr ⟨rfl,row,y,h6,h7,h8.symm⟩
theorem z69 {u:Un} {d:Nat} {x:Nd} {a:List Int} {s:Rs} {r:Int × Rs} (h:mSum u (d+1) x a s=some r) (hk:x.kind=6):∃ a0 b s',a[0]? = some a0/\z8n (z56 s) (z0g x.name u.arrays 0) a0=some (b,s') /\
    ((b=false/\r=(0,s'))∨(b=true/\∃ row y,(z56 s).ar[(z0g x.name u.arrays 0).toNat]? = some row/\a[1]? = some y/\r=(0,{ z56 s with ar:=(z56 s).ar.set (z0g x.name u.arrays 0).toNat (row.set a0.toNat y) }))):=by
  simp only [mSum,hk,show ((6:Int)==3)=false from rfl,show ((6:Int)==4)=false from rfl,show ((6:Int)==5)=false from rfl,show ((6:Int)==6)=true from rfl,if_true,Bool.false_eq_true,if_false,Option.bind_eq_some_iff] at h
  obtain ⟨a0,h1,⟨b,s'⟩,h2,h5⟩:=h
  refine ⟨a0,b,s',h1,h2,?_⟩
  cases b with
  | false=>exact .inl ⟨rfl,by simpa using h5.symm⟩
  | true =>
    simp only [if_true,Option.bind_eq_some_iff,Option.map_eq_some_iff] at h5
    obtain ⟨y,h6,row,h7,h8⟩:=h5
    exact .inr ⟨rfl,row,y,h7,h6,h8.symm⟩
def Oks (B:Int) (s:Rs):Prop:=0<=s.fuel/\0<=s.cost/\s.cost+s.fuel<=B
def Live (s:Rs):Prop:=s.spent=false/\s.st=0
def dec (s:Rs):Rs:={ s with fuel:=s.fuel - 1 }
def gone (s:Rs):Rs:={ s with spent:=true }
def bmp (s:Rs):Rs:={ s with cost:=s.cost+1 }
theorem yl6 {n:Int} (h:0<=n) (h2:n<=4611686018427387904):w64 n=n:=IntWalk.i64_in n oM0
theorem z6t {s:Rs}:z12 s=false↔Live s:=by
  unfold z12 Live
  simp
theorem z0u {s:Rs} (h:Live s):z12 s=false:=z6t.2 h
theorem zk6 {s:Rs} {B:Int} (hB:B<=4611686018427387903) (ho:Oks B s):z56 s=bmp s:=by
  obtain ⟨h1,h2,h3⟩:=ho
  unfold z56 bmp
  rw [yl6 oM0 oM0]
theorem y04 {s:Rs} {B:Int} (hB:B<=4611686018427387903) (ho:Oks B s) (hl:Live s):(s.fuel<1/\z8d s=(false,gone s))∨(1<=s.fuel/\z8d s=(true,dec s)):=by
  obtain ⟨h1,h2,h3⟩:=ho
  unfold z8d
  rw [z0u hl]
  simp only [Bool.false_eq_true,if_false]
  by_cases h:s.fuel<1
  ·rw [if_pos h];exact .inl ⟨h,rfl⟩
  rw [if_neg h,yl6 oM0 oM0];exact .inr ⟨by omega,rfl⟩
theorem y6b {u:Un} {d:Nat} {x:Nd} {l:List Nd} {a:List Int} {s:Rs} {r:Rres} {B:Int} (hB:B<=4611686018427387903) (h:z1u u d (x::l) a s=some r) (ho:Oks B s) (hl:Live s) :
    ∃ d1,d=d1+1/\((s.fuel<1/\r=((0,[]),a,gone s))∨(1<=s.fuel/\∃ p r1,mOf a x.args=some p/\z4n (z1u u d1) (z39 u d1) (mSum u d1) x p a (dec s)=some r1/\(if z12 r1.2.2||r1.1.1 != 0 then some r1 else z1u u d1 l r1.2.1 r1.2.2)=some r)):=by
  obtain ⟨d1,rfl,h2⟩:=z77 rfl h
  refine ⟨d1,rfl,?_⟩
  rcases y04 hB ho hl with ⟨h3,h4⟩ | ⟨h3,h4⟩
  ·rw [h4] at h2
   rcases h2 with ⟨_,h2⟩ | ⟨h2,_⟩
   ·exact .inl ⟨h3,h2⟩
   cases h2
  rw [h4] at h2
  rcases h2 with ⟨h2,_⟩ | ⟨_,h2⟩
  ·cases h2
  exact .inr ⟨h3,h2⟩
def hc (x:Nd):Nat:=if x.kind=3∨x.kind=4 then 1 else 0
def y7l (x:Nd) (p:List Int):Option Int :=
  if x.kind=1∨x.kind=2 then some x.n
  else if x.kind=3 then (p[0]?).map fun a=>mOne x.op a
  else (p[0]?).bind fun a=>(p[1]?).map fun b=>(mTwo x.op a b).1
def HL (x:Nd):Prop:=z0v x=true/\(x.kind=4->z1v x.op=true)/\x.outs≠[]
def hRun (x:Nd) (a a2:List Int):Prop:=∃ p y o,mOf a x.args=some p/\y7l x p=some y/\x.outs[0]? = some o/\setV a o y=some a2
theorem two_ok {op a b:Int} (h:z1v op=true) (h4:op≠4) (h5:op≠5):(mTwo op a b).2=true:=by
  simp only [z1v,Bool.and_eq_true,decide_eq_true_eq] at h
  have:op=1∨op=2∨op=3∨op=6∨op=7∨op=8∨op=9∨op=10∨op=11∨op=12∨op=13∨op=14∨op=15∨op=16∨op=17:=by omega
  rcases this with rfl | rfl | rfl | rfl | rfl | rfl | rfl | rfl | rfl | rfl | rfl | rfl | rfl | rfl | rfl<;>rfl
def hSt (x:Nd) (s:Rs):Rs:={ s with cost:=s.cost+hc x }
theorem hc_01 (x:Nd):hc x=0∨hc x=1:=by unfold hc;split<;>simp
theorem hSt0 {x:Nd} {s:Rs} (h:hc x=0):hSt x s=s:=by unfold hSt;rw [h];simp
theorem y7m {u:Un} {d:Nat} {x:Nd} {p a:List Int} {s:Rs} {r:Rres} {B:Int} (hB:B<=4611686018427387903) (ho:Oks B s) (hl:Live s) (hx:HL x) (h:z4n (z1u u d) (z39 u d) (mSum u d) x p a s=some r) :
    ∃ y o a2,y7l x p=some y/\x.outs[0]? = some o/\setV a o y=some a2/\r=((0,[]),a2,hSt x s):=by
  obtain ⟨h1,h2,h3⟩:=hx
  obtain ⟨n10,n11,_,_⟩:=z68 h1
  have hk:=z7o h1
  rcases hk with hk | hk | hk | hk
  ·obtain ⟨o,v2,g1,g2,rfl⟩:=z78 h (by rw [hk];rfl)
   exact ⟨x.n,o,v2,by simp [y7l,hk],g1,g2,by rw [hSt0];simp [hc,hk]⟩
  ·obtain ⟨o,v2,g1,g2,rfl⟩:=z78 h (by rw [hk];rfl)
   exact ⟨x.n,o,v2,by simp [y7l,hk],g1,g2,by rw [hSt0];simp [hc,hk]⟩
  ·obtain ⟨r1,g1,g2⟩:=z79 h (by rw [hk];rfl) (by rw [hk];rfl) n10 n11
   obtain ⟨d',rfl⟩:=z6r g1
   obtain ⟨a0,g3,rfl⟩:=z9g g1 (by rw [hk];rfl)
   rw [zk6 hB ho] at g2
   have hov:z12 (bmp s)=false:=z0u hl
   rw [hov] at g2
   have hlen:0<x.outs.length:=List.length_pos_iff.2 h3
   simp only [Bool.not_false,Bool.true_and,decide_eq_true hlen,if_true,Option.bind_eq_some_iff,Option.map_eq_some_iff] at g2
   obtain ⟨o,g4,v2,g5,rfl⟩:=g2
   exact ⟨_,o,v2,by simp [y7l,hk,g3],g4,g5,by simp [hSt,hc,hk,bmp]⟩
  have h4:=h2 hk
  have hop:x.op≠4/\x.op≠5:=by
    simp only [z0v,hk] at h1
    simpa using h1
  obtain ⟨r1,g1,g2⟩:=z79 h (by rw [hk];rfl) (by rw [hk];rfl) n10 n11
  obtain ⟨d',rfl⟩:=z6r g1
  obtain ⟨a0,a1,g3,g3',rfl⟩:=z9h g1 (by rw [hk];rfl)
  rw [two_ok h4 hop.1 hop.2,if_pos rfl,zk6 hB ho] at g2
  have hov:z12 (bmp s)=false:=z0u hl
  rw [hov] at g2
  have hlen:0<x.outs.length:=List.length_pos_iff.2 h3
  simp only [Bool.not_false,Bool.true_and,decide_eq_true hlen,if_true,Option.bind_eq_some_iff,Option.map_eq_some_iff] at g2
  obtain ⟨o,g4,v2,g5,rfl⟩:=g2
  exact ⟨_,o,v2,by simp [y7l,hk,g3,g3'],g4,g5,by simp [hSt,hc,hk,bmp]⟩
structure Ext (B:Int) (s t:Rs):Prop where
  ok:Oks B t
  out:s.out <+: t.out
  ar:t.ar.length=s.ar.length
  fuel:t.fuel<=s.fuel
theorem Ext.rfl {B:Int} {s:Rs} (h:Oks B s):Ext B s s:=⟨h,List.prefix_refl _,Eq.refl _,Int.le_refl _⟩
theorem Ext.trans {B:Int} {s t w:Rs} (h:Ext B s t) (h2:Ext B t w):Ext B s w:=⟨h2.ok,h.out.trans h2.out,h2.ar.trans h.ar,Int.le_trans h2.fuel h.fuel⟩
theorem zr1 {s:Rs} {k n:Int} {q:Bool × Rs} (h:z8n s k n=some q):(q=(false,{ s with st:=3 }))∨q=(true,s):=by
  unfold z8n at h
  split at h
  ·cases h;exact .inl (Eq.refl _)
  split at h
  ·obtain ⟨row,h1,h2⟩:=Option.bind_eq_some_iff.1 h
   split at h2
   ·cases h2;exact .inl (Eq.refl _)
   cases h2;exact .inr (Eq.refl _)
  cases h
theorem sum_ext {u:Un} {d:Nat} {x:Nd} {p:List Int} {s:Rs} {r:Int × Rs} {B:Int} (hB:B<=4611686018427387903) (ho:Oks B s) (ho1:s.cost+s.fuel+1<=B)
    (hC:∀ d' k a r,d=d'+1->z3r u d' k a (bmp s)=some r->Ext B (bmp s) r.2) (h:mSum u d x p s=some r):Ext B s r.2:=by
  obtain ⟨d',rfl⟩:=z6r h
  have hb:Oks B (bmp s):=⟨ho.1,by have:=ho.2.1;show 0<=s.cost+1;omega,by show s.cost+1+s.fuel<=B;omega⟩
  have e:=zk6 hB ho
  have E0:Ext B s (bmp s):=⟨hb,List.prefix_refl _,Eq.refl _,Int.le_refl _⟩
  have ne:∀ {i:Int},x.kind≠i->(x.kind==i)=false:=fun h=>beq_eq_false_iff_ne.2 h
  by_cases k3:x.kind=3
  ·obtain ⟨a0,_,rfl⟩:=z9g h (beq_iff_eq.2 k3);rw [e];exact E0
  by_cases k4:x.kind=4
  ·obtain ⟨a0,a1,_,_,rfl⟩:=z9h h (beq_iff_eq.2 k4)
   rw [e]
   split
   ·exact E0
   exact ⟨hb,List.prefix_refl _,Eq.refl _,Int.le_refl _⟩
  by_cases k5:x.kind=5
  ·obtain ⟨a0,b,s',_,h2,h3⟩:=z7a h k5
   rw [e] at h2 h3
   rcases h3 with ⟨rfl,rfl⟩ | ⟨rfl,row,y,_,_,rfl⟩
   ·rcases zr1 h2 with h4 | h4
    ·obtain ⟨_,rfl⟩:=Prod.mk.inj h4
     exact ⟨hb,List.prefix_refl _,Eq.refl _,Int.le_refl _⟩
    cases (Prod.mk.inj h4).1
   exact E0
  by_cases k6:x.kind=6
  ·obtain ⟨a0,b,s',_,h2,h3⟩:=z69 h k6
   rw [e] at h2 h3
   rcases h3 with ⟨rfl,rfl⟩ | ⟨rfl,row,y,_,_,rfl⟩
   ·rcases zr1 h2 with h4 | h4
    ·obtain ⟨_,rfl⟩:=Prod.mk.inj h4
     exact ⟨hb,List.prefix_refl _,Eq.refl _,Int.le_refl _⟩
    cases (Prod.mk.inj h4).1
   exact ⟨hb,List.prefix_refl _,by simp [bmp],Int.le_refl _⟩
  by_cases k7:x.kind=7
  ·have h2:=z8o h (beq_iff_eq.2 k7)
   rw [e] at h2
   exact E0.trans (hC _ _ _ _ (Eq.refl _) h2)
  by_cases k9:x.kind=9
  ·obtain ⟨a0,_,_,rfl⟩:=z7b h (beq_iff_eq.2 k9)
   rw [e]
   exact ⟨hb,List.prefix_append _ _,Eq.refl _,Int.le_refl _⟩
  by_cases k8:x.kind=8
  ·rcases z8q h (beq_iff_eq.2 k8) with ⟨_,rfl⟩ | ⟨y,q,_,rfl⟩<;>rw [e]<;>exact ⟨hb,List.prefix_refl _,Eq.refl _,Int.le_refl _⟩
  obtain rfl:=z8p h (ne k3) (ne k4) (ne k5) (ne k6) (ne k7) (ne k9) (ne k8)
  rw [e];exact E0
theorem z41 {s:Rs} {B:Int} (ho:Oks B s) (h:1<=s.fuel):Oks B (dec s)/\(dec s).cost+(dec s).fuel+1<=B:=by
  obtain ⟨h1,h2,h3⟩:=ho
  refine ⟨⟨?_,h2,?_⟩,?_⟩
  ·show 0<=s.fuel - 1;omega
  ·show s.cost+(s.fuel - 1)<=B;omega
  show s.cost+(s.fuel - 1)+1<=B;omega
theorem yd1 {u:Un} {d:Nat} {l:List Nd} {a:List Int} {s:Rs} {r:Rres} (h:z1u u d l a s=some r) (ho:z12 s=true):r=((0,[]),a,s):=by
  cases l with
  | nil=>exact y2m h
  | cons x l =>
    obtain ⟨d1,rfl,h2⟩:=z77 rfl h
    have:z8d s=(false,s):=by unfold z8d;rw [ho];rfl
    rw [this] at h2
    rcases h2 with ⟨_,h2⟩ | ⟨h2,_⟩
    ·exact h2
    cases h2
theorem y0c (u:Un) {B:Int} (hB:B<=4611686018427387903):∀ d,
    (∀ l a s r,z1u u d l a s=some r->Oks B s->Ext B s r.2.2)/\(∀ x p a s r,z39 u d x p a s=some r->Oks B s->Ext B s r.2.2) /\
    (∀ k p s r,z3r u d k p s=some r->Oks B s->Ext B s r.2)/\∀ x p s r,mSum u d x p s=some r->Oks B s->s.cost+s.fuel+1<=B->Ext B s r.2
  | 0=>⟨fun _ _ _ _ h=>by simp [z1u] at h,fun _ _ _ _ _ h=>by simp [z39] at h,fun _ _ _ _ h=>by simp [z3r] at h,fun _ _ _ _ h=>by simp [mSum] at h⟩
  | d+1=>by
    obtain ⟨i1,i2,i3,i4⟩:=y0c u hB d
    refine ⟨fun l a s r h ho=>?_,fun x p a s r h ho=>?_,fun k p s r h ho=>?_,fun x p s r h ho ho1=>?_⟩
    ·cases l with
     | nil=>rw [y2m h];exact Ext.rfl ho
     | cons x l =>
       cases hov:z12 s with
       | true=>rw [yd1 h hov];exact Ext.rfl ho
       | false =>
         obtain ⟨d1,e,h2⟩:=y6b hB h ho (z6t.1 hov)
         obtain rfl:d1=d:=by omega
         rcases h2 with ⟨_,rfl⟩ | ⟨hf,p,r1,_,h3,h4⟩
         ·exact ⟨ho,List.prefix_refl _,rfl,Int.le_refl _⟩
         obtain ⟨o1,o2⟩:=z41 ho hf
         have E0:Ext B s (dec s):=⟨o1,List.prefix_refl _,rfl,by show s.fuel - 1<=s.fuel;omega⟩
         have E1:Ext B (dec s) r1.2.2:=by
           unfold z4n at h3
           split at h3
           ·simp only [Option.bind_eq_some_iff,Option.map_eq_some_iff] at h3
            obtain ⟨o,_,v',_,rfl⟩:=h3
            exact Ext.rfl o1
           split at h3
           ·cases h3;exact Ext.rfl o1
           split at h3
           ·simp only [Option.bind_eq_some_iff] at h3
            obtain ⟨a0,_,q,_,r2,h5,h6⟩:=h3
            have h7:=i1 _ _ _ _ h5 o1
            split at h6
            ·simp only [Option.map_eq_some_iff] at h6
             obtain ⟨v',_,rfl⟩:=h6
             exact h7
            cases h6;exact h7
           split at h3
           ·exact i2 _ _ _ _ _ h3 o1
           simp only [Option.bind_eq_some_iff] at h3
           obtain ⟨r2,h5,h6⟩:=h3
           have h7:=i4 _ _ _ _ h5 o1 o2
           split at h6
           ·simp only [Option.bind_eq_some_iff,Option.map_eq_some_iff] at h6
            obtain ⟨o,_,v',_,rfl⟩:=h6
            exact h7
           cases h6;exact h7
         split at h4
         ·cases h4;exact E0.trans E1
         exact (E0.trans E1).trans (i1 _ _ _ _ h4 E1.ok)
    ·obtain ⟨d1,v2,q,r1,e,_,_,h3,h4⟩:=z4f h
     obtain rfl:d1=d:=by omega
     have E1:=i1 _ _ _ _ h3 ho
     split at h4
     ·cases h4;exact E1
     split at h4
     ·simp only [Option.map_eq_some_iff] at h4
      obtain ⟨v',_,rfl⟩:=h4
      exact E1
     exact E1.trans (i2 _ _ _ _ _ h4 E1.ok)
    ·obtain ⟨d1,f,r1,e,_,_,_,_,h3,rfl⟩:=z5y h
     obtain rfl:d1=d:=by omega
     exact i1 _ _ _ _ h3 ho
    refine sum_ext hB ho ho1 (fun d' k a r e h2=>?_) h
    obtain rfl:d'=d:=by omega
    have hb:Oks B (bmp s):=⟨ho.1,by have:=ho.2.1;show 0<=s.cost+1;omega,by show s.cost+1+s.fuel<=B;omega⟩
    exact i3 _ _ _ _ h2 hb
theorem z6p {u:Un} {d:Nat} {l:List Nd} {a:List Int} {s:Rs} {r:Rres} {B:Int} (hB:B<=4611686018427387903) (h:z1u u d l a s=some r) (ho:Oks B s):Ext B s r.2.2:=(y0c u hB d).1 _ _ _ _ h ho
theorem zd1 {u:Un} {d:Nat} {x:Nd} {p a:List Int} {s:Rs} {r:Rres} {B:Int} (hB:B<=4611686018427387903) (h:z39 u d x p a s=some r) (ho:Oks B s):Ext B s r.2.2:=(y0c u hB d).2.1 _ _ _ _ _ h ho
theorem y4d {u:Un} {d:Nat} {x:Nd} {p:List Int} {s:Rs} {r:Int × Rs} {B:Int} (hB:B<=4611686018427387903) (h:mSum u d x p s=some r) (ho:Oks B s) (ho1:s.cost+s.fuel+1<=B):Ext B s r.2:=(y0c u hB d).2.2.2 _ _ _ _ h ho ho1
section
structure KF where
  k:Int
  outs:List Int
  rest:List Nd
mutual
def nsz:Nd->Nat
  | .mk _ _ _ _ _ _ _ ks=>1+kdz ks
def lsz:List Nd->Nat
  | []=>0
  | x::r=>nsz x+lsz r
def kdz:List (List Nd)->Nat
  | []=>0
  | l::r=>lsz l+kdz r
end
theorem zz2 (x:Nd):nsz x=1+kdz x.kids:=by cases x;simp [nsz,Nd.kids]
def ksz:List KF->Nat
  | []=>0
  | f::K=>lsz f.rest+ksz K
abbrev VR:=List Int->List Int->Prop
abbrev ER:=Int->List Int->List Int->List Int->List Int->Prop
def setO (outs a:List Int) (y:Int) (a2:List Int):Prop:=match outs with
  | []=>a2=a
  | o::_=>setV a o y=some a2
inductive LRel:Nat->Nat->VR->List Nd->List KF->List Nd->ER->Prop
  | dead {I l K l' E}:(∀ a b,¬ I a b)->LRel 0 0 I l K l' E
  | weak {k c I I' l K l' E}:(∀ a b,I a b->I' a b)->LRel k c I' l K l' E->LRel k c I l K l' E
  | both {k c I J x x' l K l' E}:HL x->HL x'->hc x'<=hc x->(∀ a b a2 b2,I a b->hRun x a a2->hRun x' b b2->J a2 b2)->LRel k c J l K l' E->LRel k c I (x::l) K (x'::l') E
  | skip {k c I J x l K l' E}:HL x->(∀ a b a2,I a b->hRun x a a2->J a2 b)->LRel k c J l K l' E->LRel k c I (x::l) K l' E
  | paid {k c I J x l K l' E}:HL x->(∀ a b a2,I a b->hRun x a a2->J a2 b)->l≠[]->LRel k c J l K l' E->LRel (k+1) (c+hc x) I (x::l) K l' E
  | add {k c I J x' l K l' E}:HL x'->l≠[]->(∀ a b b2,I a b->hRun x' b b2->J a b2)->LRel (k+1) (c+hc x') J l K l' E->LRel k c I l K (x'::l') E
  | eff {I J x x' l K l' E}:(x.kind≠1/\x.kind≠2/\x.kind≠10/\x.kind≠11/\x.kind≠12/\x.kind≠13/\x.kind≠14/\x.kind≠15)->x'.kind=x.kind->x'.op=x.op->x'.name=x.name->x'.outs.length=x.outs.length ->
      (∀ a b p p',I a b->mOf a x.args=some p->mOf b x'.args=some p'->p'=p)->(∀ a b a2 b2 y,I a b->setO x.outs a y a2->setO x'.outs b y b2->J a2 b2)->LRel 0 0 J l K l' E->LRel 0 0 I (x::l) K (x'::l') E
  | ite {I J E2 x x' q0 q1 q0' q1' l K l' E}:x.kind=10->x'.kind=10->x.kids=[q0,q1]->x'.kids=[q0',q1']->(∀ a b p p',I a b->mOf a x.args=some p->mOf b x'.args=some p'->p'[0]? = p[0]?) ->
      LRel 0 0 I q0 [] q0' E2->LRel 0 0 I q1 [] q1' E2 ->
      (∀ n p p' a b,E2 n p p' a b->(n=12/\∀ a2 b2,mSet a x.outs p=some a2->mSet b x'.outs p'=some b2->J a2 b2)∨(n≠12/\n≠0/\(K=[]∨n=15)/\E n p p' a b)) ->
      LRel 0 0 J l K l' E->LRel 0 0 I (x::l) K (x'::l') E
  | loop {k c I I2 J E2 x x' q q' l K l' E}:x.kind=11->x'.kind=11->x.kids=[q]->x'.kids=[q'] ->
      (∀ a b p p' a2 b2,I a b->mOf a x.args=some p->mOf b x'.args=some p'->mSet a x.params p=some a2->mSet b x'.params p'=some b2->I2 a2 b2) ->
      LRel k c I2 q [] q' E2 ->
      (∀ n p p' a b,E2 n p p' a b->(n=15/\E 15 p p' a b)∨(n=14/\∀ a2 b2,mSet a x.outs p=some a2->mSet b x'.outs p'=some b2->J a2 b2)∨(n=13/\∀ a2 b2,mSet a x.params p=some a2->mSet b x'.params p'=some b2->I2 a2 b2)) ->
      LRel 0 0 J l K l' E->LRel k c I (x::l) K (x'::l') E
  | ender {I x x' l K l' E}:12<=x.kind->x.kind<=15->x'.kind=x.kind->(K=[]∨x.kind=15)->(∀ a b p p',I a b->mOf a x.args=some p->mOf b x'.args=some p'->E x.kind p p' a b)->LRel 0 0 I (x::l) K (x'::l') E
  | once {k c I J x q l K l' E}:x.kind=11->x.kids=[q]->(∀ a b p a2,I a b->mOf a x.args=some p->mSet a x.params p=some a2->J a2 b)->LRel k c J q (⟨14,x.outs,l⟩::K) l' E->LRel k c I (x::l) K l' E
  | leave {k c I J y l f K l' E}:y.kind=f.k->f.k=12∨f.k=14->(∀ a b p a2,I a b->mOf a y.args=some p->mSet a f.outs p=some a2->J a2 b)->LRel k c J f.rest K l' E->LRel k c I (y::l) (f::K) l' E
  | fork {k c I x q0 q1 l K l' E}:x.kind=10->x.kids=[q0,q1]->LRel k c I q0 (⟨12,x.outs,l⟩::K) l' E->LRel k c I q1 (⟨12,x.outs,l⟩::K) l' E->LRel k c I (x::l) K l' E
theorem LRel.nil {k c:Nat} {I:VR} {l:List Nd} {K:List KF} {l':List Nd} {E:ER} (h:LRel k c I l K l' E):l=[]->k=0:=by
  induction h with
  | dead _=>exact fun _=>rfl
  | weak _ _ ih=>exact ih
  | add _ h1 _ _ _=>exact fun e=>absurd e h1
  | _=>intro e;cases e
def KFin (u:Un) (D:Nat):List KF->Rres->Rres->Prop
  | [],r1,r=>r=r1
  | f::K,r1,r=>if r1.1.1=15 then r=r1 else if r1.1.1=f.k then ∃ a2 d r2,d<=D/\mSet r1.2.1 f.outs r1.1.2=some a2/\z1u u d f.rest a2 r1.2.2=some r2/\(if z12 r2.2.2=true then r=r2 else KFin u D K r2 r) else r1.2.2.out <+: r.2.2.out
def KRun (u:Un) (D:Nat) (l:List Nd) (K:List KF) (a:List Int) (s:Rs) (r:Rres):Prop:=∃ d r1,d<=D/\z1u u d l a s=some r1/\(if z12 r1.2.2=true then r=r1 else KFin u D K r1 r)
def KNext (u:Un) (D:Nat) (l:List Nd) (K:List KF) (r1 r:Rres):Prop:=(z12 r1.2.2=true/\r=r1)∨(Live r1.2.2/\r1.1.1≠0/\KFin u D K r1 r)∨(Live r1.2.2/\r1.1.1=0/\KRun u D l K r1.2.1 r1.2.2 r)
section
variable {u:Un} {D:Nat} {l:List Nd} {K:List KF} {a:List Int} {s:Rs} {r:Rres} {B:Int}
theorem KFin.out (hB:B<=4611686018427387903):∀ {K:List KF} {r1 r:Rres},KFin u D K r1 r->Oks B r1.2.2->r1.2.2.out <+: r.2.2.out
  | [],r1,r,h,ho=>by obtain rfl:r=r1:=h;exact List.prefix_refl _
  | f::K,r1,r,h,ho=>by
    unfold KFin at h
    split at h
    ·subst h;exact List.prefix_refl _
    split at h
    ·obtain ⟨a2,d,r2,_,_,h2,h3⟩:=h
     have e:=z6p hB h2 ho
     split at h3
     ·subst h3;exact e.out
     exact e.out.trans (KFin.out hB h3 e.ok)
    exact h
theorem KRun.out (hB:B<=4611686018427387903) (h:KRun u D l K a s r) (ho:Oks B s):s.out <+: r.2.2.out:=by
  obtain ⟨d,r1,_,h1,h2⟩:=h
  have e:=z6p hB h1 ho
  split at h2
  ·subst h2;exact e.out
  exact e.out.trans (KFin.out hB h2 e.ok)
theorem KNext.out {r1:Rres} (hB:B<=4611686018427387903) (h:KNext u D l K r1 r) (ho:Oks B r1.2.2):r1.2.2.out <+: r.2.2.out:=by
  rcases h with ⟨_,rfl⟩ | ⟨_,_,h⟩ | ⟨_,_,h⟩
  ·exact List.prefix_refl _
  ·exact KFin.out hB h ho
  exact h.out hB ho
theorem zm5 {x:Nd} (hB:B<=4611686018427387903) (h:KRun u D (x::l) K a s r) (ho:Oks B s) (hl:Live s) :
    (s.fuel<1/\r=((0,[]),a,gone s))∨(1<=s.fuel/\∃ d1 p r1,d1<D/\mOf a x.args=some p/\z4n (z1u u d1) (z39 u d1) (mSum u d1) x p a (dec s)=some r1/\KNext u D l K r1 r):=by
  obtain ⟨d,r0,hd,h1,h2⟩:=h
  obtain ⟨d1,rfl,h3⟩:=y6b hB h1 ho hl
  rcases h3 with ⟨h3,rfl⟩ | ⟨h3,p,r1,h4,h5,h6⟩
  ·rw [if_pos (by simp [z12,gone])] at h2
   exact .inl ⟨h3,h2⟩
  refine .inr ⟨h3,d1,p,r1,hd,h4,h5,?_⟩
  cases hov:z12 r1.2.2 with
  | true =>
    rw [hov] at h6
    cases h6
    rw [if_pos hov] at h2
    exact .inl ⟨hov,h2⟩
  | false =>
    rw [hov] at h6
    by_cases hk:r1.1.1=0
    ·rw [hk] at h6
     exact .inr (.inr ⟨z6t.1 hov,hk,d1,r0,by omega,h6,h2⟩)
    have:(false||r1.1.1 != 0)=true:=by simpa using hk
    rw [if_pos this] at h6
    cases h6
    rw [if_neg (by rw [hov];decide)] at h2
    exact .inr (.inl ⟨z6t.1 hov,hk,h2⟩)
theorem z5p (hl:Live s):Live (dec s):=hl
theorem y0i {x:Nd} (hl:Live s):Live (hSt x s):=hl
theorem zl2 {x:Nd} (ho:Oks B s) (h:1<=s.fuel):Oks B (hSt x (dec s)):=by
  obtain ⟨h1,h2,h3⟩:=ho
  have:=hc_01 x
  refine ⟨?_,?_,?_⟩
  ·show 0<=s.fuel - 1;omega
  ·show 0<=s.cost+(hc x:Int);omega
  show s.cost+(hc x:Int)+(s.fuel - 1)<=B;omega
theorem y2g {x:Nd} (hB:B<=4611686018427387903) (hx:HL x) (h:KRun u D (x::l) K a s r) (ho:Oks B s) (hl:Live s) :
    (s.fuel<1/\r=((0,[]),a,gone s))∨(1<=s.fuel/\∃ a2,hRun x a a2/\KRun u D l K a2 (hSt x (dec s)) r):=by
  rcases zm5 hB h ho hl with h1 | ⟨h1,d1,p,r1,_,h2,h3,h4⟩
  ·exact .inl h1
  obtain ⟨y,o,a2,g1,g2,g3,rfl⟩:=y7m hB (z41 ho h1).1 (z5p hl) hx h3
  refine .inr ⟨h1,a2,⟨p,y,o,h2,g1,g2,g3⟩,?_⟩
  rcases h4 with ⟨h5,_⟩ | ⟨_,h5,_⟩ | ⟨_,_,h5⟩
  ·have:z12 (hSt x (dec s))=false:=z0u hl
   rw [show (((0,[]),a2,hSt x (dec s)):Rres).2.2=hSt x (dec s) from rfl,this] at h5
   cases h5
  ·exact absurd rfl h5
  exact h5
theorem y2x {x:Nd} {q:List Nd} (hB:B<=4611686018427387903) (hx:x.kind=11) (hq:x.kids=[q]) (h:KRun u D (x::l) K a s r) (ho:Oks B s) (hl:Live s) :
    (s.fuel<1/\r=((0,[]),a,gone s))∨(1<=s.fuel/\∃ p a2,mOf a x.args=some p/\mSet a x.params p=some a2/\KRun u D q (⟨14,x.outs,l⟩::K) a2 (dec s) r):=by
  rcases zm5 hB h ho hl with h1 | ⟨h1,d1,p,r1,hd,h2,h3,h4⟩
  ·exact .inl h1
  have h5:=z5z h3 (by rw [hx];rfl)
  have ho1:=(z41 ho h1).1
  obtain ⟨d2,v2,q2,r2,rfl,g1,g2,g3,g4⟩:=z4f h5
  rw [hq] at g2
  obtain rfl:q=q2:=by simpa using g2
  refine .inr ⟨h1,p,v2,h2,g1,d2,r2,by omega,g3,?_⟩
  have e:=z6p hB g3 ho1
  cases hov:z12 r2.2.2 with
  | true =>
    rw [hov] at g4
    cases g4
    rw [if_pos rfl]
    rcases h4 with ⟨_,h4⟩ | ⟨h4,_⟩ | ⟨h4,_⟩
    ·exact h4
    ·rw [z0u h4] at hov;cases hov
    rw [z0u h4] at hov;cases hov
  | false =>
    rw [hov] at g4
    rw [if_neg dC0]
    unfold KFin
    by_cases k15:r2.1.1=15
    ·rw [k15] at g4
     cases g4
     rw [if_pos k15]
     rcases h4 with ⟨h4,_⟩ | ⟨_,_,h4⟩ | ⟨_,h4,_⟩
     ·rw [hov] at h4;cases h4
     ·cases K with
      | nil=>exact h4
      | cons f K=>unfold KFin at h4;rw [if_pos k15] at h4;exact h4
     rw [k15] at h4;exact absurd h4 dC0
    rw [if_neg k15]
    have n15:(false||r2.1.1==15)=false:=by simpa using k15
    rw [n15,if_neg dC0] at g4
    by_cases k14:r2.1.1=14
    ·rw [if_pos k14]
     rw [if_pos (by rw [k14];rfl)] at g4
     obtain ⟨v3,g5,rfl⟩:=Option.map_eq_some_iff.1 g4
     rcases h4 with ⟨h4,_⟩ | ⟨_,h4,_⟩ | ⟨_,_,d3,r3,h6,h7,h8⟩
     ·rw [show (((0,[]),v3,r2.2.2):Rres).2.2=r2.2.2 from rfl,hov] at h4;cases h4
     ·exact absurd rfl h4
     exact ⟨v3,d3,r3,h6,g5,h7,h8⟩
    rw [if_neg k14]
    rw [if_neg (by simpa using k14)] at g4
    have e2:=zd1 hB g4 e.ok
    exact e2.out.trans (h4.out hB e2.ok)
theorem y7f {x:Nd} {d:Nat} {p:List Int} {r1:Rres} (h1:12<=x.kind) (h2:x.kind<=15) (h:z4n (z1u u d) (z39 u d) (mSum u d) x p a s=some r1):r1=((x.kind,p),a,s) :=
  z4o h (by rcases (show x.kind=12∨x.kind=13∨x.kind=14∨x.kind=15 by omega) with e | e | e | e<;>rw [e]<;>rfl)
theorem zh8 {x:Nd} (hB:B<=4611686018427387903) (h1:12<=x.kind) (h2:x.kind<=15) (h:KRun u D (x::l) K a s r) (ho:Oks B s) (hl:Live s) :
    (s.fuel<1/\r=((0,[]),a,gone s))∨(1<=s.fuel/\∃ p,mOf a x.args=some p/\KFin u D K ((x.kind,p),a,dec s) r):=by
  rcases zm5 hB h ho hl with h3 | ⟨h3,d1,p,r1,hd,h4,h5,h6⟩
  ·exact .inl h3
  obtain rfl:=y7f h1 h2 h5
  refine .inr ⟨h3,p,h4,?_⟩
  rcases h6 with ⟨h6,_⟩ | ⟨_,_,h6⟩ | ⟨_,h6,_⟩
  ·have:z12 (dec s)=false:=z0u hl
   rw [show ((x.kind,p),a,dec s).2.2=dec s from rfl,this] at h6
   cases h6
  ·exact h6
  exact absurd h6 (by show x.kind≠0;omega)
theorem zy7 {y:Nd} {f:KF} (hB:B<=4611686018427387903) (hy:y.kind=f.k) (hf:f.k=12∨f.k=14) (h:KRun u D (y::l) (f::K) a s r) (ho:Oks B s) (hl:Live s) :
    (s.fuel<1/\r=((0,[]),a,gone s))∨(1<=s.fuel/\∃ p a2,mOf a y.args=some p/\mSet a f.outs p=some a2/\KRun u D f.rest K a2 (dec s) r):=by
  rcases zh8 hB oM0 oM0 h ho hl with h3 | ⟨h3,p,h4,h5⟩
  ·exact .inl h3
  unfold KFin at h5
  rw [show (((y.kind,p),a,dec s):Rres).1.1=f.k from hy,if_neg oM0,if_pos rfl] at h5
  obtain ⟨a2,d,r2,g1,g2,g3,g4⟩:=h5
  exact .inr ⟨h3,p,a2,h4,g2,d,r2,g1,g3,g4⟩
theorem y2b {x:Nd} {q0 q1:List Nd} (hB:B<=4611686018427387903) (hx:x.kind=10) (hq:x.kids=[q0,q1]) (h:KRun u D (x::l) K a s r) (ho:Oks B s) (hl:Live s) :
    (s.fuel<1/\r=((0,[]),a,gone s))∨(1<=s.fuel/\∃ q,(q=q0∨q=q1)/\KRun u D q (⟨12,x.outs,l⟩::K) a (dec s) r):=by
  rcases zm5 hB h ho hl with h1 | ⟨h1,d1,p,r1,hd,h2,h3,h4⟩
  ·exact .inl h1
  have ho1:=(z41 ho h1).1
  obtain ⟨a0,q,r2,_,g2,g3,g4⟩:=ze3 h3 (by rw [hx];rfl)
  refine .inr ⟨h1,q,?_,d1,r2,by omega,g3,?_⟩
  ·rw [hq] at g2
   by_cases e:(a0 != 0)=true
   ·rw [if_pos e] at g2;exact .inl (by simpa using g2.symm)
   rw [if_neg e] at g2;exact .inr (by simpa using g2.symm)
  have e:=z6p hB g3 ho1
  cases hov:z12 r2.2.2 with
  | true =>
    rw [hov] at g4
    cases g4
    rw [if_pos rfl]
    rcases h4 with ⟨_,h4⟩ | ⟨h4,_⟩ | ⟨h4,_⟩
    ·exact h4
    ·rw [z0u h4] at hov;cases hov
    rw [z0u h4] at hov;cases hov
  | false =>
    rw [hov] at g4
    rw [if_neg dC0]
    unfold KFin
    by_cases k15:r2.1.1=15
    ·rw [k15] at g4
     cases g4
     rw [if_pos k15]
     rcases h4 with ⟨h4,_⟩ | ⟨_,_,h4⟩ | ⟨_,h4,_⟩
     ·rw [hov] at h4;cases h4
     ·cases K with
      | nil=>exact h4
      | cons f K=>unfold KFin at h4;rw [if_pos k15] at h4;exact h4
     rw [k15] at h4;exact absurd h4 dC0
    rw [if_neg k15]
    by_cases k12:r2.1.1=12
    ·rw [if_pos k12]
     rw [k12] at g4
     obtain ⟨v3,g5,rfl⟩:=Option.map_eq_some_iff.1 g4
     rcases h4 with ⟨h4,_⟩ | ⟨_,h4,_⟩ | ⟨_,_,d3,r3,h6,h7,h8⟩
     ·rw [show (((0,[]),v3,r2.2.2):Rres).2.2=r2.2.2 from rfl,hov] at h4;cases h4
     ·exact absurd rfl h4
     exact ⟨v3,d3,r3,h6,g5,h7,h8⟩
    rw [if_neg k12]
    have n12:(!false&&r2.1.1==12)=false:=by simpa using k12
    rw [n12,if_neg dC0] at g4
    cases g4
    exact h4.out hB e.ok
end
end
theorem use_in {tys seen:List Int}:∀ {l want:List Int},l.length=want.length->z0q tys seen l want=true->inR tys.length l
  | [],_,_,_=>fun v hv=>by simp at hv
  | _::_,[],h,_=>by simp at h
  | x::r,w::ws,h,hg=>by
    simp only [z0q,Bool.and_eq_true] at hg
    intro v hv
    rcases List.mem_cons.1 hv with rfl | hv
    ·obtain ⟨h1,h2⟩:=zc0 hg.1
     exact ⟨h1,by omega⟩
    exact use_in (by simpa using h) hg.2 v hv
theorem zg3 {tys seen l want:List Int} (h:z01 tys seen l want=true):l.length=want.length/\inR tys.length l:=by
  simp only [z01,Bool.and_eq_true,beq_iff_eq] at h
  have:l.length=want.length:=by omega
  exact ⟨this,use_in this h.2⟩
theorem getV_tot {a:List Int} {i:Int} (h:0<=i/\i<a.length):∃ y,getV a i=some y:=by
  unfold getV
  rw [if_pos h.1]
  exact ⟨_,List.getElem?_eq_getElem oM0⟩
theorem y19 {a:List Int} {i y:Int} (h:0<=i/\i<a.length):∃ a2,setV a i y=some a2:=by
  unfold setV
  rw [if_pos ⟨h.1,by omega⟩]
  exact ⟨_,rfl⟩
theorem y0k {a:List Int}:∀ {l:List Int},inR a.length l->∃ p,mOf a l=some p/\p.length=l.length
  | [],_=>⟨[],rfl,rfl⟩
  | i::r,h=>by
    obtain ⟨y,hy⟩:=getV_tot (h i (.head _))
    obtain ⟨p,hp,hl⟩:=y0k (l:=r) fun v hv=>h v (.tail _ hv)
    exact ⟨y::p,by simp [mOf,hy,hp],by simp [hl]⟩
theorem zn8:∀ {l p a:List Int},inR a.length l->p.length=l.length->∃ a2,mSet a l p=some a2
  | [],_,a,_,_=>⟨a,rfl⟩
  | _::_,[],_,_,h=>by simp at h
  | i::r,y::p,a,h,hl=>by
    obtain ⟨a1,h1⟩:=y19 (y:=y) (h i (.head _))
    have hl1:=zo2 h1
    obtain ⟨a2,h2⟩:=zn8 (l:=r) (p:=p) (a:=a1) (fun v hv=>by rw [hl1];exact h v (.tail _ hv)) (by simpa using hl)
    exact ⟨a2,by simp [mSet,h1,h2]⟩
theorem z7w {tys l:List Int} (h:inR tys.length l):(r8of tys l).length=l.length:=by
  unfold r8of
  have:l.all (z6i tys)=true:=List.all_eq_true.2 fun v hv=>by
    have:=h v hv
    simp only [z6i,Bool.and_eq_true,decide_eq_true_eq];omega
  rw [if_pos this,List.length_map]
theorem zz6 (name:ByteArray):∀ (l:List Ar) (i:Int),0<=i->z0g name l i ≥ 0->∃ k:Nat,z0g name l i=i+k/\k<l.length
  | [],i,_,h=>by simp [z0g] at h
  | f::r,i,hi,h=>by
    unfold z0g at h ⊢
    split
    ·exact ⟨0,by simp,by simp⟩
    rename_i hne
    rw [if_neg hne] at h
    obtain ⟨k,h1,h2⟩:=zz6 name r (i+1) oM0 h
    exact ⟨k+1,by omega,by simpa using h2⟩
structure Inv (n:Nat) (B M:Int) (s:Rs):Prop where
  ok:Oks B s
  out:(s.out.length:Int)+s.fuel<=M
  ar:s.ar.length=n
structure InvS (n:Nat) (B M:Int) (s:Rs):Prop where
  ok:Oks B s
  ok1:s.cost+s.fuel+1<=B
  out:(s.out.length:Int)+s.fuel+1<=M
  ar:s.ar.length=n
def EOk (w:Wh) (y lv:Bool) (r:Rres):Prop:=(r.1.1=12/\y=true/\w.If=true/\r.1.2.length=w.Yield.length)∨(r.1.1=13/\r.1.2.length=w.Next.length)∨(r.1.1=14/\lv=true/\r.1.2.length=w.Left.length)∨(r.1.1=15/\r.1.2.length=1)
def VF (u:Un) (g:Fl):Prop:=z2s u g 1 z1l (iota g.params.toNat) g.body=true/\g.types.length<=20000/\0<=g.params/\g.params<=g.types.length
theorem vf_of {u:Un} (h:(z18 u).1=0):∀ g∈u.flows,VF u g:=by
  intro g hg
  obtain ⟨h1,h2⟩:=(z74 u).1 h
  have hf:=h2 g hg
  have hp:=z5e h1 g hg
  unfold z2v at hf
  simp only [Bool.and_eq_true] at hf
  obtain ⟨⟨⟨⟨⟨f1,f2⟩,f3⟩,f4⟩,f5⟩,f6⟩:=hf
  simp only [Bool.not_eq_true',decide_eq_false_iff_not] at f1 f2 f3 f4
  rw [z9n u g g.body 1 z1l _ _ (z2z oM0)] at f6
  exact ⟨f6.1,by omega,hp.1,hp.2⟩
def SumOk (u:Un) (x:Nd) (k:Nat):Prop :=
  (x.kind=3->1<=k)/\(x.kind=4->2<=k)/\(x.kind=5->1<=k/\0<=z0g x.name u.arrays 0)/\(x.kind=6->2<=k/\0<=z0g x.name u.arrays 0) /\
  (x.kind=7->0<=z03 x.name u.flows 0/\∀ g,u.flows[(z03 x.name u.flows 0).toNat]? = some g->(k:Int)=g.params)/\(x.kind=9->1<=k)
theorem zl0 {p:List Int} {i:Nat} (h:i<p.length):∃ y,p[i]? = some y:=⟨_,List.getElem?_eq_getElem h⟩
theorem sum_tot {u:Un} {n:Nat} {B M:Int} (hB:B<=4611686018427387903) (hM:M<=1073741824) (hn:n=u.arrays.length) (hv:∀ g∈u.flows,VF u g) {d:Nat}
    (hC:∀ k p s,0<=k->(∃ g,u.flows[k.toNat]? = some g/\(p.length:Int)=g.params)->Inv n B M s->3*s.fuel+2<=d->∃ r,z3r u d k p s=some r/\Inv n B M r.2)
    (x:Nd) (p:List Int) (s:Rs) (hx:SumOk u x p.length) (hi:InvS n B M s) (hd:3*s.fuel+3<=((d+1:Nat):Int)):∃ r,mSum u (d+1) x p s=some r/\Inv n B M r.2:=by
  have e:=zk6 hB hi.ok
  have hb:Inv n B M (bmp s):=⟨⟨hi.ok.1,by have:=hi.ok.2.1;show 0<=s.cost+1;omega,by have:=hi.ok1;show s.cost+1+s.fuel<=B;omega⟩,by have:=hi.out;show (s.out.length:Int)+s.fuel<=M;omega,hi.ar⟩
  obtain ⟨x3,x4,x5,x6,x7,x9⟩:=hx
  have ne:∀ {i:Int},x.kind≠i->(x.kind==i)=false:=fun h=>beq_eq_false_iff_ne.2 h
  have cell:∀ {a0:Int},0<=z0g x.name u.arrays 0->∃ q,z8n (bmp s) (z0g x.name u.arrays 0) a0=some q/\((q.1=false/\q.2={ bmp s with st:=3 })∨(q.1=true/\q.2=bmp s/\∃ row y,s.ar[(z0g x.name u.arrays 0).toNat]? = some row/\row[a0.toNat]? = some y)):=by
    intro a0 hk
    obtain ⟨j,hj,hjl⟩:=zz6 x.name u.arrays 0 oM0 hk
    obtain ⟨row,hrow⟩:∃ row,s.ar[(z0g x.name u.arrays 0).toNat]? = some row:=⟨_,List.getElem?_eq_getElem (by rw [hi.ar];omega)⟩
    unfold z8n
    by_cases h0:a0<0
    ·rw [if_pos h0];exact ⟨_,rfl,.inl ⟨rfl,rfl⟩⟩
    rw [if_neg h0,if_pos hk,show (bmp s).ar=s.ar from rfl,hrow,Option.bind_some]
    by_cases h1:a0 ≥ row.length
    ·rw [if_pos h1];exact ⟨_,rfl,.inl ⟨rfl,rfl⟩⟩
    rw [if_neg h1]
    exact ⟨_,rfl,.inr ⟨rfl,rfl,row,_,rfl,List.getElem?_eq_getElem oM0⟩⟩
  have c3:Inv n B M { bmp s with st:=3 }:=⟨hb.ok,hb.out,hb.ar⟩
  rw [mSum]
  simp only [show w64 (s.cost+1)=s.cost+1 from yl6 (by have:=hi.ok.2.1;omega) (by have:=hi.ok.1;have:=hi.ok1;omega)]
  by_cases k3:x.kind=3
  ·obtain ⟨a0,h0⟩:=zl0 (x3 k3)
   rw [k3,h0]
   exact ⟨_,rfl,hb⟩
  by_cases k4:x.kind=4
  ·obtain ⟨a0,h0⟩:=zl0 (show 0<p.length by have:=x4 k4;omega)
   obtain ⟨a1,h1⟩:=zl0 (show 1<p.length by have:=x4 k4;omega)
   rw [k4,h0,h1]
   refine ⟨_,rfl,?_⟩
   dsimp only
   split
   ·exact hb
   exact ⟨hb.ok,hb.out,hb.ar⟩
  by_cases k5:x.kind=5
  ·obtain ⟨a0,h0⟩:=zl0 (x5 k5).1
   obtain ⟨⟨qb,qs⟩,hq,hq2⟩:=cell (a0:=a0) (x5 k5).2
   rw [ne k3,ne k4,k5,h0]
   simp only [Bool.false_eq_true,if_false,show ((5:Int)==5)=true from rfl,if_true,Option.bind_some]
   erw [hq]
   simp only [Option.bind_some]
   rcases hq2 with ⟨rfl,rfl⟩ | ⟨rfl,rfl,row,y,hr,hy⟩
   ·exact ⟨_,rfl,c3⟩
   rw [if_pos rfl,hr,Option.bind_some,hy]
   exact ⟨_,rfl,hb⟩
  by_cases k6:x.kind=6
  ·obtain ⟨a0,h0⟩:=zl0 (show 0<p.length by have:=(x6 k6).1;omega)
   obtain ⟨a1,h1⟩:=zl0 (show 1<p.length by have:=(x6 k6).1;omega)
   obtain ⟨⟨qb,qs⟩,hq,hq2⟩:=cell (a0:=a0) (x6 k6).2
   rw [ne k3,ne k4,ne k5,k6,h0]
   simp only [Bool.false_eq_true,if_false,show ((6:Int)==6)=true from rfl,if_true,Option.bind_some]
   erw [hq]
   simp only [Option.bind_some]
   rcases hq2 with ⟨rfl,rfl⟩ | ⟨rfl,rfl,row,y,hr,hy⟩
   ·exact ⟨_,rfl,c3⟩
   rw [if_pos rfl,hr,h1]
   exact ⟨_,rfl,⟨hb.ok,hb.out,by simp only [List.length_set];exact hb.ar⟩⟩
  by_cases k7:x.kind=7
  ·rw [ne k3,ne k4,ne k5,ne k6,k7]
   obtain ⟨h0,h1⟩:=x7 k7
   obtain ⟨j,hj,hjl⟩:=zj5 x.name u.flows 0 oM0 h0
   obtain ⟨g,hg⟩:∃ g,u.flows[(z03 x.name u.flows 0).toNat]? = some g:=⟨_,List.getElem?_eq_getElem oM0⟩
   exact hC _ p (bmp s) h0 ⟨g,hg,h1 g hg⟩ hb (by show 3*s.fuel+2<=(d:Int);omega)
  by_cases k9:x.kind=9
  ·obtain ⟨a0,h0⟩:=zl0 (x9 k9)
   have hfu:=hi.ok.1
   have hlo:s.out.length<1073741824:=by have:=hi.out;omega
   rw [ne k3,ne k4,ne k5,ne k6,ne k7,k9,h0]
   simp only [Bool.false_eq_true,if_false,show ((9:Int)==9)=true from rfl,if_true,Option.bind_some,if_pos hlo]
   exact ⟨_,rfl,⟨hb.ok,by have:=hi.out;show ((s.out++[a0]).length:Int)+s.fuel<=M;simp;omega,hb.ar⟩⟩
  by_cases k8:x.kind=8
  ·rw [ne k3,ne k4,ne k5,ne k6,ne k7,ne k9,k8]
   simp only [Bool.false_eq_true,if_false,show ((8:Int)==8)=true from rfl,if_true]
   cases hin:s.ins with
   | nil=>exact ⟨_,rfl,⟨hb.ok,hb.out,hb.ar⟩⟩
   | cons y q=>exact ⟨_,rfl,⟨hb.ok,hb.out,hb.ar⟩⟩
  rw [ne k3,ne k4,ne k5,ne k6,ne k7,ne k9,ne k8]
  exact ⟨_,rfl,hb⟩
theorem smp_ok {u:Un} {f:Fl} {x:Nd} {seen:List Int} {w:Wh} (hgp:∀ g∈u.flows,VF u g) (h:(z2l u f x seen w).ok f.types x.outs=true) :
    inR f.types.length x.outs/\inR f.types.length x.args/\SumOk u x x.args.length/\((x.kind=1∨x.kind=2)->x.outs≠[]) /\
    (x.kind=12->w.If=true/\x.args.length=w.Yield.length)/\(x.kind=13->x.args.length=w.Next.length)/\(x.kind=14->x.args.length=w.Left.length)/\(x.kind=15->x.args.length=1):=by
  refine ⟨ok_in h,?_⟩
  have V:∀ {b:Bool} {want:Option (List Int)},SForm.ok ⟨b,want⟩ f.types x.outs=true->b=true:=fun {b want} h=>by
    cases want<;>simp only [SForm.ok,Bool.and_eq_true] at h<;>exact h.1
  have V1:∀ {b:Bool} {t:Int},SForm.ok ⟨b,some [t]⟩ f.types x.outs=true->x.outs≠[]:=fun {b t} h e=>by
    simp only [SForm.ok,Bool.and_eq_true] at h
    have:=z98 h.2
    rw [e] at this;simp at this
  have T:∀ {want:List Int},z01 f.types seen x.args want=true->inR f.types.length x.args/\x.args.length=want.length:=fun h=>⟨(zg3 h).2,(zg3 h).1⟩
  have tr:∀ {k:Int} {P:Prop} {j:Int},x.kind=k->k≠j->x.kind=j->P:=fun h1 h2 h3=>absurd (h1.symm.trans h3) h2
  unfold z2l at h
  by_cases k1:x.kind=1
  ·rw [if_pos (beq_iff_eq.2 k1)] at h
   obtain ⟨t1,t2⟩:=T (V h)
   refine ⟨t1,⟨tr k1 dC0,tr k1 dC0,tr k1 dC0,tr k1 dC0,tr k1 dC0,tr k1 dC0⟩,fun _=>V1 h,tr k1 dC0,tr k1 dC0,tr k1 dC0,tr k1 dC0⟩
  rw [if_neg (by simpa using k1)] at h
  by_cases k2:x.kind=2
  ·rw [if_pos (beq_iff_eq.2 k2)] at h
   have hb:=V h
   simp only [Bool.and_eq_true] at hb
   obtain ⟨t1,t2⟩:=T hb.2
   refine ⟨t1,⟨tr k2 dC0,tr k2 dC0,tr k2 dC0,tr k2 dC0,tr k2 dC0,tr k2 dC0⟩,fun _=>V1 h,tr k2 dC0,tr k2 dC0,tr k2 dC0,tr k2 dC0⟩
  rw [if_neg (by simpa using k2)] at h
  have n12:¬ (x.kind=1∨x.kind=2):=by rintro (h | h)<;>contradiction
  by_cases k3:x.kind=3
  ·rw [if_pos (beq_iff_eq.2 k3)] at h
   have hb:=V h
   simp only [Bool.and_eq_true] at hb
   obtain ⟨t1,t2⟩:=T hb.2
   refine ⟨t1,⟨fun _=>by rw [t2];exact Nat.le_refl _,tr k3 dC0,tr k3 dC0,tr k3 dC0,tr k3 dC0,tr k3 dC0⟩,fun h=>absurd h n12,tr k3 dC0,tr k3 dC0,tr k3 dC0,tr k3 dC0⟩
  rw [if_neg (by simpa using k3)] at h
  by_cases k4:x.kind=4
  ·rw [if_pos (beq_iff_eq.2 k4)] at h
   have hb:=V h
   simp only [Bool.and_eq_true] at hb
   obtain ⟨t1,t2⟩:=T hb.1.2
   refine ⟨t1,⟨tr k4 dC0,fun _=>by rw [t2];exact Nat.le_refl _,tr k4 dC0,tr k4 dC0,tr k4 dC0,tr k4 dC0⟩,fun h=>absurd h n12,tr k4 dC0,tr k4 dC0,tr k4 dC0,tr k4 dC0⟩
  rw [if_neg (by simpa using k4)] at h
  by_cases k5:x.kind=5
  ·rw [if_pos (beq_iff_eq.2 k5)] at h
   have hb:=V h
   simp only [Bool.and_eq_true,decide_eq_true_eq] at hb
   obtain ⟨t1,t2⟩:=T hb.2
   refine ⟨t1,⟨tr k5 dC0,tr k5 dC0,fun _=>⟨by rw [t2];exact Nat.le_refl _,hb.1⟩,tr k5 dC0,tr k5 dC0,tr k5 dC0⟩,fun h=>absurd h n12,tr k5 dC0,tr k5 dC0,tr k5 dC0,tr k5 dC0⟩
  rw [if_neg (by simpa using k5)] at h
  by_cases k6:x.kind=6
  ·rw [if_pos (beq_iff_eq.2 k6)] at h
   have hb:=V h
   simp only [Bool.and_eq_true,decide_eq_true_eq] at hb
   obtain ⟨t1,t2⟩:=T hb.2
   refine ⟨t1,⟨tr k6 dC0,tr k6 dC0,tr k6 dC0,fun _=>⟨by rw [t2];exact Nat.le_refl _,hb.1⟩,tr k6 dC0,tr k6 dC0⟩,fun h=>absurd h n12,tr k6 dC0,tr k6 dC0,tr k6 dC0,tr k6 dC0⟩
  rw [if_neg (by simpa using k6)] at h
  by_cases k7:x.kind=7
  ·rw [if_pos (beq_iff_eq.2 k7)] at h
   by_cases hp:decide (z03 x.name u.flows 0 ≥ 0)=true
   ·rw [if_pos hp] at h
    have hp':0<=z03 x.name u.flows 0:=by simpa using hp
    cases hg:u.flows[(z03 x.name u.flows 0).toNat]? with
    | none=>rw [hg] at h;exact absurd (V h) dC0
    | some g =>
      rw [hg] at h
      obtain ⟨t1,t2⟩:=T (V h)
      obtain ⟨_,_,g1,g2⟩:=hgp g (List.mem_of_getElem? hg)
      refine ⟨t1,⟨tr k7 dC0,tr k7 dC0,tr k7 dC0,tr k7 dC0,fun _=>⟨hp',fun g' hg'=>?_⟩,tr k7 dC0⟩,fun h=>absurd h n12,tr k7 dC0,tr k7 dC0,tr k7 dC0,tr k7 dC0⟩
      rw [hg] at hg'
      cases hg'
      rw [t2,List.length_take];omega
   rw [if_neg hp] at h;exact absurd (V h) dC0
  rw [if_neg (by simpa using k7)] at h
  by_cases k8:x.kind=8
  ·rw [if_pos (beq_iff_eq.2 k8)] at h
   have hb:=V h
   have:x.args=[]:=List.eq_nil_of_length_eq_zero (by simp at hb;simp [hb])
   refine ⟨by rw [this];exact fun v hv=>by simp at hv,⟨tr k8 dC0,tr k8 dC0,tr k8 dC0,tr k8 dC0,tr k8 dC0,tr k8 dC0⟩,fun h=>absurd h n12,tr k8 dC0,tr k8 dC0,tr k8 dC0,tr k8 dC0⟩
  rw [if_neg (by simpa using k8)] at h
  by_cases k9:x.kind=9
  ·rw [if_pos (beq_iff_eq.2 k9)] at h
   obtain ⟨t1,t2⟩:=T (V h)
   refine ⟨t1,⟨tr k9 dC0,tr k9 dC0,tr k9 dC0,tr k9 dC0,tr k9 dC0,fun _=>by rw [t2];exact Nat.le_refl _⟩,fun h=>absurd h n12,tr k9 dC0,tr k9 dC0,tr k9 dC0,tr k9 dC0⟩
  rw [if_neg (by simpa using k9)] at h
  have S:SumOk u x x.args.length:=⟨fun h=>absurd h k3,fun h=>absurd h k4,fun h=>absurd h k5,fun h=>absurd h k6,fun h=>absurd h k7,fun h=>absurd h k9⟩
  by_cases k12:x.kind=12
  ·rw [if_pos (beq_iff_eq.2 k12)] at h
   have hb:=V h
   simp only [Bool.and_eq_true] at hb
   obtain ⟨t1,t2⟩:=T hb.2
   exact ⟨t1,S,fun h=>absurd h n12,fun _=>⟨hb.1,t2⟩,tr k12 dC0,tr k12 dC0,tr k12 dC0⟩
  rw [if_neg (by simpa using k12)] at h
  by_cases k13:x.kind=13
  ·rw [if_pos (beq_iff_eq.2 k13)] at h
   have hb:=V h
   simp only [Bool.and_eq_true] at hb
   obtain ⟨t1,t2⟩:=T hb.2
   exact ⟨t1,S,fun h=>absurd h n12,tr k13 dC0,fun _=>t2,tr k13 dC0,tr k13 dC0⟩
  rw [if_neg (by simpa using k13)] at h
  by_cases k14:x.kind=14
  ·rw [if_pos (beq_iff_eq.2 k14)] at h
   have hb:=V h
   simp only [Bool.and_eq_true] at hb
   obtain ⟨t1,t2⟩:=T hb.2
   exact ⟨t1,S,fun h=>absurd h n12,tr k14 dC0,tr k14 dC0,fun _=>t2,tr k14 dC0⟩
  rw [if_neg (by simpa using k14)] at h
  by_cases k15:x.kind=15
  ·rw [if_pos (beq_iff_eq.2 k15)] at h
   obtain ⟨t1,t2⟩:=T (V h)
   exact ⟨t1,S,fun h=>absurd h n12,tr k15 dC0,tr k15 dC0,tr k15 dC0,fun _=>t2⟩
  rw [if_neg (by simpa using k15)] at h
  exact absurd (V h) dC0
theorem LRel.monoE {k c:Nat} {I:VR} {l:List Nd} {K:List KF} {l':List Nd} {E:ER} (h:LRel k c I l K l' E):∀ {E':ER},(∀ n p p' a b,E n p p' a b->E' n p p' a b)->LRel k c I l K l' E':=by
  induction h with
  | dead h=>exact fun _=>.dead h
  | weak h _ ih=>exact fun he=>.weak h (ih he)
  | both h1 h2 h3 h4 _ ih=>exact fun he=>.both h1 h2 h3 h4 (ih he)
  | skip h1 h2 _ ih=>exact fun he=>.skip h1 h2 (ih he)
  | paid h1 h2 h3 _ ih=>exact fun he=>.paid h1 h2 h3 (ih he)
  | add h1 h2 h3 _ ih=>exact fun he=>.add h1 h2 h3 (ih he)
  | eff h1 h2 h3 h4 h5 h6 h7 _ ih=>exact fun he=>.eff h1 h2 h3 h4 h5 h6 h7 (ih he)
  | ite h1 h2 h3 h4 h5 h6 h7 h8 _ _ _ ih=>exact fun he=>.ite h1 h2 h3 h4 h5 h6 h7 (fun n p p' a b hh=>(h8 n p p' a b hh).imp_right fun ⟨x,y,z,w⟩=>⟨x,y,z,he _ _ _ _ _ w⟩) (ih he)
  | loop h1 h2 h3 h4 h5 h6 h7 _ _ ih=>exact fun he=>.loop h1 h2 h3 h4 h5 h6 (fun n p p' a b hh=>(h7 n p p' a b hh).imp_left fun ⟨x,y⟩=>⟨x,he _ _ _ _ _ y⟩) (ih he)
  | ender h1 h2 h3 h4 h5=>exact fun he=>.ender h1 h2 h3 h4 fun a b p p' x y z=>he _ _ _ _ _ (h5 a b p p' x y z)
  | once h1 h2 h3 _ ih=>exact fun he=>.once h1 h2 h3 (ih he)
  | leave h1 h2 h3 _ ih=>exact fun he=>.leave h1 h2 h3 (ih he)
  | fork h1 h2 _ _ ih0 ih1=>exact fun he=>.fork h1 h2 (ih0 he) (ih1 he)
theorem z9d {a a2:List Int} {o y x:Int} (h:setV a o y=some a2):getV a2 x=if x=o then some y else getV a x:=by
  obtain ⟨h1,h2,rfl⟩:=zc3 h
  unfold getV
  by_cases hx:0<=x
  · rw [if_pos hx]
    by_cases e:x=o
    · subst e
      rw [if_pos rfl,List.getElem?_set_self h2]
    · rw [if_neg e,if_pos hx,List.getElem?_set_ne oM0]
  · rw [if_neg hx,if_neg hx,if_neg oM0]
theorem yc0 {a b:List Int}:∀ {l:List Int},(∀ x∈l,getV a x=getV b x)->mOf a l=mOf b l
  | [],_=>rfl
  | i::r,h=>by
    simp only [mOf]
    rw [h i (.head _),yc0 (l:=r) fun x hx=>h x (.tail _ hx)]
theorem y72 {tys seen:List Int}:∀ {l want:List Int},l.length=want.length->z0q tys seen l want=true->∀ v∈l,v∈seen
  | [],_,_,_=>fun v hv=>by simp at hv
  | _::_,[],h,_=>by simp at h
  | x::r,w::ws,h,hg=>by
    simp only [z0q,Bool.and_eq_true] at hg
    intro v hv
    rcases List.mem_cons.1 hv with rfl | hv
    · have:=hg.1
      unfold z73 at this
      simp only [Bool.not_eq_true',Bool.or_eq_false_iff] at this
      simpa using this.1.2
    · exact y72 (by simpa using h) hg.2 v hv
theorem z22 {tys seen l want:List Int} (h:z01 tys seen l want=true):∀ v∈l,v∈seen:=by
  have h0:=(zg3 h).1
  simp only [z01,Bool.and_eq_true] at h
  exact y72 h0 h.2
theorem zu9 {u:Un} {f:Fl} {x:Nd} {seen:List Int} {w:Wh} (h:(z2l u f x seen w).ok f.types x.outs=true) :
    (∀ v∈x.args,v∈seen)/\x.outs.length<=1/\(z0v x=true->HL x/\∃ o,x.outs=[o])/\(x.kind=12->w.If=true)/\(12<=x.kind->x.kind<=15):=by
  have V:∀ {b:Bool} {want:Option (List Int)},SForm.ok ⟨b,want⟩ f.types x.outs=true->b=true:=fun {b want} h=>by
    cases want<;>simp only [SForm.ok,Bool.and_eq_true] at h<;>exact h.1
  have V1:∀ {b:Bool} {t:Int},SForm.ok ⟨b,some [t]⟩ f.types x.outs=true->x.outs.length=1:=fun {b t} h=>by
    simp only [SForm.ok,Bool.and_eq_true] at h
    exact z98 h.2
  have V0:∀ {b:Bool},SForm.ok ⟨b,none⟩ f.types x.outs=true->x.outs.length=0:=fun {b} h=>by
    simp only [SForm.ok,Bool.and_eq_true,beq_iff_eq] at h
    omega
  have ex1:x.outs.length=1->∃ o,x.outs=[o]:=fun h=>List.length_eq_one_iff.1 h
  have hne:x.outs.length=1->x.outs≠[]:=fun h e=>by rw [e] at h;cases h
  unfold z2l at h
  by_cases k1:x.kind=1
  · rw [if_pos (beq_iff_eq.2 k1)] at h
    have h1:=V1 h
    exact ⟨z22 (V h),by omega,fun hm=>⟨⟨hm,fun h=>absurd (k1.symm.trans h) dC0,hne h1⟩,ex1 h1⟩,fun h=>absurd (k1.symm.trans h) dC0,by omega⟩
  rw [if_neg (by simpa using k1)] at h
  by_cases k2:x.kind=2
  · rw [if_pos (beq_iff_eq.2 k2)] at h
    have h1:=V1 h
    have hb:=V h
    simp only [Bool.and_eq_true] at hb
    exact ⟨z22 hb.2,by omega,fun hm=>⟨⟨hm,fun h=>absurd (k2.symm.trans h) dC0,hne h1⟩,ex1 h1⟩,fun h=>absurd (k2.symm.trans h) dC0,by omega⟩
  rw [if_neg (by simpa using k2)] at h
  by_cases k3:x.kind=3
  · rw [if_pos (beq_iff_eq.2 k3)] at h
    have h1:=V1 h
    have hb:=V h
    simp only [Bool.and_eq_true] at hb
    exact ⟨z22 hb.2,by omega,fun hm=>⟨⟨hm,fun h=>absurd (k3.symm.trans h) dC0,hne h1⟩,ex1 h1⟩,fun h=>absurd (k3.symm.trans h) dC0,by omega⟩
  rw [if_neg (by simpa using k3)] at h
  by_cases k4:x.kind=4
  · rw [if_pos (beq_iff_eq.2 k4)] at h
    have h1:=V1 h
    have hb:=V h
    simp only [Bool.and_eq_true] at hb
    exact ⟨z22 hb.1.2,by omega,fun hm=>⟨⟨hm,fun _=>hb.1.1,hne h1⟩,ex1 h1⟩,fun h=>absurd (k4.symm.trans h) dC0,by omega⟩
  rw [if_neg (by simpa using k4)] at h
  have hno:z0v x=false:=by
    cases hx:z0v x with
    | false=>rfl
    | true=>have:=z7o hx;omega
  have hm0:z0v x=true->HL x/\∃ o,x.outs=[o]:=fun h=>by rw [hno] at h;cases h
  by_cases k5:x.kind=5
  · rw [if_pos (beq_iff_eq.2 k5)] at h
    have hb:=V h
    simp only [Bool.and_eq_true] at hb
    exact ⟨z22 hb.2,by have:=V1 h;omega,hm0,fun h=>absurd (k5.symm.trans h) dC0,by omega⟩
  rw [if_neg (by simpa using k5)] at h
  by_cases k6:x.kind=6
  · rw [if_pos (beq_iff_eq.2 k6)] at h
    have hb:=V h
    simp only [Bool.and_eq_true] at hb
    exact ⟨z22 hb.2,by have:=V0 h;omega,hm0,fun h=>absurd (k6.symm.trans h) dC0,by omega⟩
  rw [if_neg (by simpa using k6)] at h
  by_cases k7:x.kind=7
  · rw [if_pos (beq_iff_eq.2 k7)] at h
    by_cases hp:decide (z03 x.name u.flows 0 ≥ 0)=true
    · rw [if_pos hp] at h
      cases hg:u.flows[(z03 x.name u.flows 0).toNat]? with
      | none=>rw [hg] at h;exact absurd (V h) dC0
      | some g=>rw [hg] at h;exact ⟨z22 (V h),by have:=V1 h;omega,hm0,fun h=>absurd (k7.symm.trans h) dC0,by omega⟩
    · rw [if_neg hp] at h;exact absurd (V h) dC0
  rw [if_neg (by simpa using k7)] at h
  by_cases k8:x.kind=8
  · rw [if_pos (beq_iff_eq.2 k8)] at h
    have hb:=V h
    have:x.args=[]:=List.eq_nil_of_length_eq_zero (by simp at hb;simp [hb])
    exact ⟨by rw [this];exact fun v hv=>by simp at hv,by have:=V1 h;omega,hm0,fun h=>absurd (k8.symm.trans h) dC0,by omega⟩
  rw [if_neg (by simpa using k8)] at h
  by_cases k9:x.kind=9
  · rw [if_pos (beq_iff_eq.2 k9)] at h
    exact ⟨z22 (V h),by have:=V0 h;omega,hm0,fun h=>absurd (k9.symm.trans h) dC0,by omega⟩
  rw [if_neg (by simpa using k9)] at h
  by_cases k12:x.kind=12
  · rw [if_pos (beq_iff_eq.2 k12)] at h
    have hb:=V h
    simp only [Bool.and_eq_true] at hb
    exact ⟨z22 hb.2,by have:=V0 h;omega,hm0,fun _=>hb.1,by omega⟩
  rw [if_neg (by simpa using k12)] at h
  by_cases k13:x.kind=13
  · rw [if_pos (beq_iff_eq.2 k13)] at h
    have hb:=V h
    simp only [Bool.and_eq_true] at hb
    exact ⟨z22 hb.2,by have:=V0 h;omega,hm0,fun h=>absurd (k13.symm.trans h) dC0,by omega⟩
  rw [if_neg (by simpa using k13)] at h
  by_cases k14:x.kind=14
  · rw [if_pos (beq_iff_eq.2 k14)] at h
    have hb:=V h
    simp only [Bool.and_eq_true] at hb
    exact ⟨z22 hb.2,by have:=V0 h;omega,hm0,fun h=>absurd (k14.symm.trans h) dC0,by omega⟩
  rw [if_neg (by simpa using k14)] at h
  by_cases k15:x.kind=15
  · rw [if_pos (beq_iff_eq.2 k15)] at h
    exact ⟨z22 (V h),by have:=V0 h;omega,hm0,fun h=>absurd (k15.symm.trans h) dC0,by omega⟩
  rw [if_neg (by simpa using k15)] at h
  exact absurd (V h) dC0
theorem yb6 {u:Un} {f:Fl} {deep:Int} {w:Wh}:∀ {l:List Nd} {S:List Int},vGo u f deep w S l=true->z1b l=12->w.If=true
  | [],_,_,h=>by simp [z1b] at h
  | [x],S,hv,h=>by
    unfold vGo at hv
    simp only [Bool.and_eq_true] at hv
    have hk:x.kind=12:=by
      simp only [z1b,List.getLast?_singleton] at h
      split at h
      · exact h
      · exact absurd h dC0
    have hx:=hv.1.1.2
    rw [z1i u f deep w S (z3u u f deep w S hx) (by rw [hk];rfl) (by rw [hk];rfl)] at hx
    exact (zu9 hx).2.2.2.1 hk
  | x::y::r,S,hv,h=>by
    unfold vGo at hv
    simp only [Bool.and_eq_true] at hv
    have e:z1b (x::y::r)=z1b (y::r):=by simp [z1b,List.getLast?_cons_cons]
    rw [e] at h
    exact yb6 hv.2 h
theorem y6j {x:Nd} {l:List Nd} (h:l≠[]):z1b (x::l)=z1b l:=by
  cases l with
  | nil=>exact absurd rfl h
  | cons y r=>simp [z1b,List.getLast?_cons_cons]
theorem y6d (x:Nd):z1b [x]=if z0p x.kind then x.kind else 0:=by simp [z1b]
def NEnd (w:Wh) (x:Nd) (r:Rres):Prop:=(r.1.1=0/\z04 x=false)∨EOk w (x.kind==12) (z1w x) r
def LTot (u:Un) (n:Nat) (B M:Int) (d:Nat):Prop:=∀ f deep w seen l a s,l≠[]->vGo u f deep w seen l=true->a.length=f.types.length->Inv n B M s->3*s.fuel+1<=(d:Int) ->
  ∃ r,z1u u d l a s=some r/\Inv n B M r.2.2/\(Live r.2.2->r.2.2.fuel<s.fuel/\EOk w (z1b l==12) (z0h l) r)
def PTot (u:Un) (n:Nat) (B M:Int) (d:Nat):Prop:=∀ f deep x q seen a p s,x.kids=[q]->q≠[]->vGo u f deep (w2 f x) seen q=true->inR f.types.length x.params->inR f.types.length x.outs->p.length=x.params.length->a.length=f.types.length->Inv n B M s->3*s.fuel+2<=(d:Int) ->
  ∃ r,z39 u d x a p s=some r/\Inv n B M r.2.2/\(Live r.2.2->(r.1.1=0/\z0h q=true)∨(r.1.1=15/\r.1.2.length=1))
def CTot (u:Un) (n:Nat) (B M:Int) (d:Nat):Prop:=∀ k p s,0<=k->(∃ g,u.flows[k.toNat]? = some g/\(p.length:Int)=g.params)->Inv n B M s->3*s.fuel+2<=(d:Int)->∃ r,z3r u d k p s=some r/\Inv n B M r.2
def STot (u:Un) (n:Nat) (B M:Int) (d:Nat):Prop:=∀ x p s,SumOk u x p.length->InvS n B M s->3*s.fuel+3<=(d:Int)->∃ r,mSum u d x p s=some r/\Inv n B M r.2
theorem node_tot {u:Un} {n:Nat} {B M:Int} (hB:B<=4611686018427387903) (hv:∀ g∈u.flows,VF u g) {d:Nat} (i1:LTot u n B M d) (i2:PTot u n B M d) (i4:STot u n B M d)
    {f:Fl} {deep:Int} {w:Wh} {seen:List Int} {x:Nd} {a:List Int} {s:Rs} (hx:z4j u f deep w seen x=true) (ha:a.length=f.types.length) (hl:Live s) (hi:Inv n B M s) (hf:1<=s.fuel) (hd:3*s.fuel+1<=((d+1:Nat):Int)) :
    ∃ p r,mOf a x.args=some p/\z4n (z1u u d) (z39 u d) (mSum u d) x p a (dec s)=some r/\Inv n B M r.2.2/\(Live r.2.2->r.2.2.fuel<s.fuel/\NEnd w x r):=by
  have hb:=z3u u f deep w seen hx
  have hiS:InvS n B M (dec s):=⟨(z41 hi.ok hf).1,(z41 hi.ok hf).2,by have:=hi.out;show (s.out.length:Int)+(s.fuel - 1)+1<=M;omega,hi.ar⟩
  have hi1:Inv n B M (dec s):=⟨hiS.ok,by have:=hiS.out;omega,hiS.ar⟩
  have hdf:(dec s).fuel=s.fuel - 1:=rfl
  have ne:∀ {i:Int},x.kind≠i->(x.kind==i)=false:=fun h=>beq_eq_false_iff_ne.2 h
  by_cases h10:x.kind=10
  ·obtain ⟨q0,q1,hk⟩:=z36 hb h10
   rw [z54 u f deep w seen hb h10 hk] at hx
   simp only [Bool.and_eq_true,z2s] at hx
   obtain ⟨⟨⟨⟨v1,v2⟩,v3⟩,v4⟩,v5⟩:=hx
   obtain ⟨t1,t2⟩:=zg3 v1
   have hou:=z19 v5
   obtain ⟨p,hp,hpl⟩:=y0k (a:=a) (l:=x.args) (by rw [ha];exact t2)
   obtain ⟨c,hc⟩:=zl0 (p:=p) (i:=0) (by rw [hpl,t1];decide)
   have hq:∃ q,x.kids[if c != 0 then 0 else 1]? = some q/\q≠[]/\vGo u f (deep+1) (w1 w f x) seen q=true/\(q=q0∨q=q1):=by
     rw [hk]
     by_cases hc0:(c != 0)=true
     ·rw [if_pos hc0];exact ⟨q0,rfl,by simpa using v2.1,v2.2,.inl rfl⟩
     rw [if_neg hc0];exact ⟨q1,rfl,by simpa using v3.1,v3.2,.inr rfl⟩
   obtain ⟨q,hq1,hq2,hq3,hq4⟩:=hq
   obtain ⟨r2,g1,g2,g3⟩:=i1 f (deep+1) (w1 w f x) seen q a (dec s) hq2 hq3 ha hi1 (by rw [hdf];omega)
   have hlen:=z76 g1
   have hlv:z0h q=true->z1w x=true:=fun h=>by
     rw [z2k,h10,hk]
     rcases hq4 with rfl | rfl<;>simp [z2d,h]
   have hcl:z1b q=12->z04 x=false:=fun h=>by
     rcases hq4 with rfl | rfl<;>simp [z04,h10,hk,kid0,kid1,h]
   by_cases hov:z12 r2.2.2=true
   ·refine ⟨p,r2,hp,?_,g2,fun h=>by rw [z0u h] at hov;cases hov⟩
    unfold z4n
    simp only [h10,show ((10:Int)==1)=false from rfl,show ((10:Int)==2)=false from rfl,show ((10:Int)==12)=false from rfl,show ((10:Int)==13)=false from rfl,show ((10:Int)==14)=false from rfl,show ((10:Int)==15)=false from rfl,show ((10:Int)==10)=true from rfl,Bool.or_self,Bool.false_eq_true,if_false,if_true,hc,Option.bind_some,hq1,g1,hov,Bool.not_true,Bool.false_and]
   have hov':z12 r2.2.2=false:=by simpa using hov
   have hL2:=z6t.1 hov'
   obtain ⟨e1,e2⟩:=g3 hL2
   by_cases h12:r2.1.1=12
   ·rcases e2 with ⟨_,e3,_,e4⟩ | ⟨e3,_⟩ | ⟨e3,_⟩ | ⟨e3,_⟩
    ·rw [show (w1 w f x).Yield=r8of f.types x.outs from rfl,z7w hou] at e4
     obtain ⟨a2,h2⟩:=zn8 (l:=x.outs) (p:=r2.1.2) (a:=r2.2.1) (by rw [hlen,ha];exact hou) e4
     refine ⟨p,((0,[]),a2,r2.2.2),hp,?_,g2,fun _=>⟨by show r2.2.2.fuel<s.fuel;have:=hdf;omega,.inl ⟨rfl,hcl (by simpa using e3)⟩⟩⟩
     unfold z4n
     simp only [h10,show ((10:Int)==1)=false from rfl,show ((10:Int)==2)=false from rfl,show ((10:Int)==12)=false from rfl,show ((10:Int)==13)=false from rfl,show ((10:Int)==14)=false from rfl,show ((10:Int)==15)=false from rfl,show ((10:Int)==10)=true from rfl,Bool.or_self,Bool.false_eq_true,if_false,if_true,hc,Option.bind_some,hq1,g1,hov',h12,Bool.not_false,Bool.true_and,show ((12:Int)==12)=true from rfl,h2,Option.map_some]
    ·rw [h12] at e3;exact absurd e3 dC0
    ·rw [h12] at e3;exact absurd e3 dC0
    rw [h12] at e3;exact absurd e3 dC0
   refine ⟨p,r2,hp,?_,g2,fun _=>⟨by have:=hdf;omega,.inr ?_⟩⟩
   ·unfold z4n
    have hc12:(!false&&r2.1.1==12)=false:=by simpa using h12
    simp only [h10,show ((10:Int)==1)=false from rfl,show ((10:Int)==2)=false from rfl,show ((10:Int)==12)=false from rfl,show ((10:Int)==13)=false from rfl,show ((10:Int)==14)=false from rfl,show ((10:Int)==15)=false from rfl,show ((10:Int)==10)=true from rfl,Bool.or_self,Bool.false_eq_true,if_false,if_true,hc,Option.bind_some,hq1,g1,hov',hc12]
   rcases e2 with ⟨e3,_⟩ | e3 | ⟨e3,e4,e5⟩ | e3
   ·exact absurd e3 h12
   ·exact .inr (.inl e3)
   ·exact .inr (.inr (.inl ⟨e3,hlv e4,e5⟩))
   exact .inr (.inr (.inr e3))
  by_cases h11:x.kind=11
  ·obtain ⟨q,hk⟩:=z1t hb h11
   rw [z37 u f deep w seen hb h11 hk] at hx
   simp only [Bool.and_eq_true,z2s] at hx
   obtain ⟨⟨⟨⟨v1,v2⟩,v3⟩,v4⟩,v5⟩:=hx
   obtain ⟨t1,t2⟩:=zg3 v1
   have hpi:=z19 v2
   rw [z7w hpi] at t1
   obtain ⟨p,hp,hpl⟩:=y0k (a:=a) (l:=x.args) (by rw [ha];exact t2)
   obtain ⟨r,g1,g2,g3⟩:=i2 f (deep+1) x q _ a p (dec s) hk (by simpa using v3.1) v3.2 hpi (z19 v5) (by rw [hpl,t1]) ha hi1 (by rw [hdf];omega)
   refine ⟨p,r,hp,?_,g2,fun hL=>⟨?_,?_⟩⟩
   ·unfold z4n
    simp only [h11,show ((11:Int)==1)=false from rfl,show ((11:Int)==2)=false from rfl,show ((11:Int)==12)=false from rfl,show ((11:Int)==13)=false from rfl,show ((11:Int)==14)=false from rfl,show ((11:Int)==15)=false from rfl,show ((11:Int)==10)=false from rfl,show ((11:Int)==11)=true from rfl,Bool.or_self,Bool.false_eq_true,if_false,if_true,g1]
   ·have:=(zd1 hB g1 hi1.ok).fuel;omega
   rcases g3 hL with ⟨e1,e2⟩ | ⟨e1,e2⟩
   ·exact .inl ⟨e1,by simp [z04,h11,hk,kid0,e2]⟩
   exact .inr (.inr (.inr (.inr ⟨e1,e2⟩)))
  rw [z1i u f deep w seen hb (ne h10) (ne h11)] at hx
  obtain ⟨s1,s2,s3,s4,s12,s13,s14,s15⟩:=smp_ok hv hx
  obtain ⟨p,hp,hpl⟩:=y0k (a:=a) (l:=x.args) (by rw [ha];exact s2)
  have cl:z04 x=z0p x.kind:=by unfold z04;rw [ne h10,ne h11];rfl
  by_cases h1:x.kind=1∨x.kind=2
  ·have ho:=s4 h1
   obtain ⟨o,os,he⟩:∃ o os,x.outs=o::os:=by cases hxo:x.outs with
     | nil=>exact absurd hxo ho
     | cons o os=>exact ⟨o,os,rfl⟩
   obtain ⟨a2,h2⟩:=y19 (a:=a) (i:=o) (y:=x.n) (by rw [ha];exact s1 o (by rw [he];exact .head _))
   refine ⟨p,((0,[]),a2,dec s),hp,?_,hi1,fun _=>⟨by show s.fuel - 1<s.fuel;omega,.inl ⟨rfl,?_⟩⟩⟩
   ·unfold z4n
    rw [if_pos (by rcases h1 with h1 | h1<;>rw [h1]<;>rfl),he]
    simp only [List.getElem?_cons_zero,Option.bind_some,h2,Option.map_some]
   rw [cl];rcases h1 with h1 | h1<;>rw [h1]<;>rfl
  have n1:(x.kind==1||x.kind==2)=false:=by rw [Bool.or_eq_false_iff];exact ⟨ne fun h=>h1 (.inl h),ne fun h=>h1 (.inr h)⟩
  by_cases hE:12<=x.kind/\x.kind<=15
  ·refine ⟨p,((x.kind,p),a,dec s),hp,?_,hi1,fun _=>⟨by show s.fuel - 1<s.fuel;omega,.inr ?_⟩⟩
   ·unfold z4n
    rw [n1,if_neg dC0,if_pos (by rcases (show x.kind=12∨x.kind=13∨x.kind=14∨x.kind=15 by omega) with e | e | e | e<;>rw [e]<;>rfl)]
   rcases (show x.kind=12∨x.kind=13∨x.kind=14∨x.kind=15 by omega) with e | e | e | e
   ·exact .inl ⟨e,by rw [e];rfl,(s12 e).1,by rw [<- (s12 e).2];exact hpl⟩
   ·exact .inr (.inl ⟨e,by rw [<- s13 e];exact hpl⟩)
   ·exact .inr (.inr (.inl ⟨e,by rw [z2k,e];rfl,by rw [<- s14 e];exact hpl⟩))
   exact .inr (.inr (.inr ⟨e,by rw [<- s15 e];exact hpl⟩))
  have n2:(x.kind==12||x.kind==13||x.kind==14||x.kind==15)=false:=by simp;omega
  obtain ⟨q,g1,g2⟩:=i4 x p (dec s) (by rw [hpl];exact s3) hiS (by rw [hdf];omega)
  have hfq:=(y4d hB g1 hiS.ok hiS.ok1).fuel
  have cl0:z04 x=false:=by rw [cl];simp [z0p];omega
  have hnode:∀ r1,(if !z12 q.2&&decide (0<x.outs.length) then (x.outs[0]?).bind fun o=>(setV a o q.1).map fun v'=>(((0,[]),v',q.2):Rres) else some ((0,[]),a,q.2))=some r1->z4n (z1u u d) (z39 u d) (mSum u d) x p a (dec s)=some r1:=fun r1 h=>by
    unfold z4n
    rw [n1,n2,ne h10,ne h11]
    simp only [Bool.false_eq_true,if_false,g1,Option.bind_some]
    exact h
  by_cases hov:(!z12 q.2&&decide (0<x.outs.length))=true
  ·obtain ⟨o,os,he⟩:∃ o os,x.outs=o::os:=by cases hxo:x.outs with
     | nil=>rw [hxo] at hov;simp at hov
     | cons o os=>exact ⟨o,os,rfl⟩
   obtain ⟨a2,h2⟩:=y19 (a:=a) (i:=o) (y:=q.1) (by rw [ha];exact s1 o (by rw [he];exact .head _))
   exact ⟨p,((0,[]),a2,q.2),hp,hnode _ (by rw [if_pos hov,he];simp [h2]),g2,fun _=>⟨by show q.2.fuel<s.fuel;omega,.inl ⟨rfl,cl0⟩⟩⟩
  exact ⟨p,((0,[]),a,q.2),hp,hnode _ (if_neg hov),g2,fun _=>⟨by show q.2.fuel<s.fuel;omega,.inl ⟨rfl,cl0⟩⟩⟩
theorem list_tot {u:Un} {n:Nat} {B M:Int} (hB:B<=4611686018427387903) (hv:∀ g∈u.flows,VF u g) {d:Nat} (i1:LTot u n B M d) (i2:PTot u n B M d) (i4:STot u n B M d):LTot u n B M (d+1):=by
  intro f deep w seen l a s hne hg ha hi hd
  cases l with
  | nil=>exact absurd rfl hne
  | cons x l =>
    cases hov:z12 s with
    | true =>
      have:z8d s=(false,s):=by unfold z8d;rw [hov];rfl
      refine ⟨((0,[]),a,s),by rw [z1u,this],hi,fun h=>by rw [z0u h] at hov;cases hov⟩
    | false =>
      have hl:=z6t.1 hov
      unfold vGo at hg
      simp only [Bool.and_eq_true,beq_iff_eq] at hg
      obtain ⟨⟨⟨_,v2⟩,v3⟩,v4⟩:=hg
      rcases y04 hB hi.ok hl with ⟨hf,hs⟩ | ⟨hf,hs⟩
      ·refine ⟨((0,[]),a,gone s),by rw [z1u,hs],⟨hi.ok,hi.out,hi.ar⟩,fun h=>?_⟩
       have:=h.1
       cases this
      obtain ⟨p,r1,g1,g2,g3,g4⟩:=node_tot hB hv i1 i2 i4 v2 ha hl hi hf hd
      have hlen:r1.2.1.length=a.length:=y2n (fun _ _ _ _ h=>(zi5 u d).1 _ _ _ _ h) (fun _ _ _ _ _ h=>(zi5 u d).2 _ _ _ _ _ h) g2
      by_cases hov1:z12 r1.2.2=true
      ·exact ⟨r1,by rw [z1u,hs];simp only [g1,Option.bind_some,g2,hov1,Bool.true_or,if_true],g3,fun h=>by rw [z0u h] at hov1;cases hov1⟩
      have hov1':z12 r1.2.2=false:=by simpa using hov1
      obtain ⟨f1,f2⟩:=g4 (z6t.1 hov1')
      by_cases hk0:r1.1.1=0
      ·have hc:z04 x=false:=by
         rcases f2 with ⟨_,h⟩ | ⟨h,_⟩ | ⟨h,_⟩ | ⟨h,_⟩ | ⟨h,_⟩
         ·exact h
         all_goals rw [hk0] at h;exact absurd h dC0
       have hlne:l≠[]:=by rw [hc] at v3;intro e;rw [e] at v3;cases v3
       obtain ⟨r,q1,q2,q3⟩:=i1 f deep w _ l r1.2.1 r1.2.2 hlne v4 (by rw [hlen,ha]) g3 (by have:=hi.ok.1;omega)
       refine ⟨r,by rw [z1u,hs];simp only [g1,Option.bind_some,g2,hov1',hk0,Bool.false_or,show ((0:Int) != 0)=false from rfl,Bool.false_eq_true,if_false,q1],q2,fun h=>?_⟩
       obtain ⟨z1,z2⟩:=q3 h
       refine ⟨by omega,?_⟩
       rw [y6j hlne]
       rcases z2 with z | z | ⟨z1,z2,z3⟩ | z
       ·exact .inl z
       ·exact .inr (.inl z)
       ·exact .inr (.inr (.inl ⟨z1,by simp [z0h,z2],z3⟩))
       exact .inr (.inr (.inr z))
      have hk1:(false||r1.1.1 != 0)=true:=by simpa using hk0
      refine ⟨r1,by rw [z1u,hs];simp only [g1,Option.bind_some,g2,hov1',hk1,if_true],g3,fun _=>⟨f1,?_⟩⟩
      rcases f2 with ⟨h,_⟩ | ⟨z1,z2,z3,z4⟩ | z | ⟨z1,z2,z3⟩ | z
      ·exact absurd h hk0
      ·have hxk:x.kind=12:=by simpa using z2
       have hc:z04 x=true:=by unfold z04;rw [hxk];rfl
       have hl0:l=[]:=by rw [hc] at v3;cases l with
         | nil=>rfl
         | cons y r=>cases v3
       refine .inl ⟨z1,?_,z3,z4⟩
       rw [hl0,y6d,hxk];rfl
      ·exact .inr (.inl z)
      ·exact .inr (.inr (.inl ⟨z1,by simp [z0h,z2],z3⟩))
      exact .inr (.inr (.inr z))
theorem loop_tot {u:Un} {n:Nat} {B M:Int} {d:Nat} (i1:LTot u n B M d) (i2:PTot u n B M d):PTot u n B M (d+1):=by
  intro f deep x q seen a p s hk hq hg hpi hoi hp ha hi hd
  obtain ⟨a2,h2⟩:=zn8 (l:=x.params) (p:=p) (a:=a) (by rw [ha];exact hpi) hp
  obtain ⟨r1,g1,g2,g3⟩:=i1 f deep (w2 f x) seen q a2 s hq hg (by rw [z49 h2,ha]) hi oM0
  have hlen:=(z76 g1).trans (z49 h2)
  have hk0:x.kids[0]? = some q:=by rw [hk];rfl
  by_cases hov:z12 r1.2.2=true
  ·exact ⟨r1,by rw [z39,h2];simp only [Option.bind_some,hk0,g1,hov,Bool.true_or,if_true],g2,fun h=>by rw [z0u h] at hov;cases hov⟩
  have hov':z12 r1.2.2=false:=by simpa using hov
  obtain ⟨f1,f2⟩:=g3 (z6t.1 hov')
  rcases f2 with ⟨_,_,h,_⟩ | ⟨z1,z2⟩ | ⟨z1,z2,z3⟩ | ⟨z1,z2⟩
  ·cases h
  ·rw [show (w2 f x).Next=r8of f.types x.params from rfl,z7w hpi] at z2
   obtain ⟨r,q1,q2,q3⟩:=i2 f deep x q seen r1.2.1 r1.1.2 r1.2.2 hk hq hg hpi hoi z2 (by rw [hlen,ha]) g2 oM0
   exact ⟨r,by rw [z39,h2];simp only [Option.bind_some,hk0,g1,hov',z1,Bool.false_or,show ((13:Int)==15)=false from rfl,show ((13:Int)==14)=false from rfl,Bool.false_eq_true,if_false,q1],q2,q3⟩
  ·rw [show (w2 f x).Left=r8of f.types x.outs from rfl,z7w hoi] at z3
   obtain ⟨a3,h3⟩:=zn8 (l:=x.outs) (p:=r1.1.2) (a:=r1.2.1) (by rw [hlen,ha];exact hoi) z3
   exact ⟨((0,[]),a3,r1.2.2),by rw [z39,h2];simp only [Option.bind_some,hk0,g1,hov',z1,Bool.false_or,show ((14:Int)==15)=false from rfl,show ((14:Int)==14)=true from rfl,Bool.false_eq_true,if_false,if_true,h3,Option.map_some],g2,fun _=>.inl ⟨rfl,z2⟩⟩
  exact ⟨r1,by rw [z39,h2];simp only [Option.bind_some,hk0,g1,hov',z1,Bool.false_or,show ((15:Int)==15)=true from rfl,if_true],g2,fun _=>.inr ⟨z1,z2⟩⟩
theorem call_tot {u:Un} {n:Nat} {B M:Int} (hv:∀ g∈u.flows,VF u g) {d:Nat} (i1:LTot u n B M d):CTot u n B M (d+1):=by
  rintro k p s hk ⟨g,hg,hp⟩ hi hd
  obtain ⟨v1,v2,v3,v4⟩:=hv g (List.mem_of_getElem? hg)
  simp only [z2s,Bool.and_eq_true] at v1
  have hpl:p.length<=g.types.length:=by omega
  obtain ⟨r1,g1,g2,_⟩:=i1 g 1 z1l _ g.body (p++List.replicate (g.types.length - p.length) 0) s (by simpa using v1.1) v1.2 (by simp;omega) hi oM0
  have e:z3r u (d+1) k p s=(if z12 r1.2.2 then some (0,r1.2.2) else some (r1.1.2.headD 0,r1.2.2)):=by
    rw [z3r,if_pos hk,hg,Option.bind_some,if_pos ⟨hpl,by omega⟩,g1,Option.bind_some]
  rw [e]
  split
  ·exact ⟨_,rfl,g2⟩
  exact ⟨_,rfl,g2⟩
theorem yi8 {u:Un} {n:Nat} {B M:Int} (hB:B<=4611686018427387903) (hM:M<=1073741824) (hn:n=u.arrays.length) (hv:∀ g∈u.flows,VF u g):∀ d,LTot u n B M d/\PTot u n B M d/\CTot u n B M d/\STot u n B M d
  | 0=>⟨fun f deep w seen l a s _ _ _ hi hd=>by have:=hi.ok.1;omega,fun f deep x q seen a p s _ _ _ _ _ _ _ hi hd=>by have:=hi.ok.1;omega,fun k p s _ _ hi hd=>by have:=hi.ok.1;omega,fun x p s _ hi hd=>by have:=hi.ok.1;omega⟩
  | d+1=>by
    obtain ⟨i1,i2,i3,i4⟩:=yi8 hB hM hn hv d
    exact ⟨list_tot hB hv i1 i2 i4,loop_tot i1 i2,call_tot hv i1,fun x p s hx hi hd=>sum_tot hB hM hn hv i3 x p s hx hi hd⟩
def G (m:Bool) (N k w:Nat) (F F':Int):Prop:=if m then F<=F'+k else F'*(N+1)+w<=F
theorem g_mul (F':Int) (N:Nat):(F' - 1)*((N:Int)+1)=F'*(N+1) - N - 1:=by rw [Int.sub_mul];omega
theorem G.step {m:Bool} {N k w:Nat} {F F':Int} (h:G m N k w F F') (hw:1<=w):G m N k (N+1) (F - 1) (F' - 1):=by
  unfold G at h ⊢
  cases m with
  | true=>simp only [if_true] at h ⊢;omega
  | false =>
    simp only [Bool.false_eq_true,if_false] at h ⊢
    rw [g_mul];generalize F'*((N:Int)+1)=P at h ⊢;omega
theorem G.weak {m:Bool} {N k w k2 w2:Nat} {F F':Int} (h:G m N k w F F') (hk:k<=k2) (hw:w2<=w):G m N k2 w2 F F':=by
  unfold G at h ⊢
  cases m with
  | true=>simp only [if_true] at h ⊢;omega
  | false=>simp only [Bool.false_eq_true,if_false] at h ⊢;omega
theorem G.left {m:Bool} {N k w:Nat} {F F':Int} (h:G m N k (w+1) F F'):G m N k w (F - 1) F':=by
  unfold G at h ⊢
  cases m with
  | true=>simp only [if_true] at h ⊢;omega
  | false=>simp only [Bool.false_eq_true,if_false] at h ⊢;omega
theorem G.pay {m:Bool} {N k w:Nat} {F F':Int} (h:G m N (k+1) (w+1) F F'):G m N k w (F - 1) F':=by
  unfold G at h ⊢
  cases m with
  | true=>simp only [if_true] at h ⊢;omega
  | false=>simp only [Bool.false_eq_true,if_false] at h ⊢;omega
theorem G.right {m:Bool} {N k w:Nat} {F F':Int} (h:G m N k w F F'):G m N (k+1) w F (F' - 1):=by
  unfold G at h ⊢
  cases m with
  | true=>simp only [if_true] at h ⊢;omega
  | false =>
    simp only [Bool.false_eq_true,if_false] at h ⊢
    rw [g_mul];generalize F'*((N:Int)+1)=P at h ⊢;omega
structure Alike (s s':Rs):Prop where
  l:Live s
  l':Live s'
  ins:s'.ins=s.ins
  ar:s'.ar=s.ar
  out:s'.out=s.out
  code:s'.code=s.code
structure RelR (m:Bool) (N k w c:Nat) (s s':Rs):Prop where
  al:Alike s s'
  g:G m N k w s.fuel s'.fuel
  co:s'.cost<=s.cost+c
structure Halt (m:Bool) (s s':Rs):Prop where
  st:s.st≠0
  st':s'.st=s.st
  sp:s.spent=false
  sp':s'.spent=false
  out:s'.out=s.out
  code:s'.code=s.code
  co:s'.cost<=s.cost
  fu:m=true->s.fuel<=s'.fuel
def Cut (m:Bool) (s s':Rs):Prop:=if m then s.spent=true/\s.st=0/\s.out <+: s'.out else s'.spent=true/\s'.st=0/\s'.out <+: s.out
inductive RR (m:Bool) (N:Nat) (E:ER) (r r':Rres):Prop
  | ok:r'.1.1=r.1.1->E r.1.1 r.1.2 r'.1.2 r.2.1 r'.2.1->RelR m N 0 (N+1) 0 r.2.2 r'.2.2->RR m N E r r'
  | halt:Halt m r.2.2 r'.2.2->RR m N E r r'
  | cut:Cut m r.2.2 r'.2.2->RR m N E r r'
inductive RC (m:Bool) (N:Nat) (q q':Int × Rs):Prop
  | ok:q'.1=q.1->RelR m N 0 (N+1) 0 q.2 q'.2->RC m N q q'
  | halt:Halt m q.2 q'.2->RC m N q q'
  | cut:Cut m q.2 q'.2->RC m N q q'
theorem Halt.over {m:Bool} {s s':Rs} (h:Halt m s s'):z12 s=true/\z12 s'=true:=by
  have h1:=h.st
  have h2:=h.st'
  unfold z12
  rw [h2]
  have:(s.st != 0)=true:=by simpa using h1
  rw [this,Bool.or_true,Bool.or_true]
  exact ⟨rfl,rfl⟩
section
section
variable {u v:Un} {D:Nat} {B:Int} {m:Bool} {N:Nat}
theorem zw8 {k w c:Nat} {E:ER} {s s':Rs} {a:List Int} {r r':Rres} (h:RelR m N k w c s s') (hw:1<=w) (hf:s.fuel<1) (h0:0<=s'.fuel) (ho:s'.out <+: r'.2.2.out) (hr:r=((0,[]),a,gone s)):RR m N E r r':=by
  subst hr
  cases m with
  | true=>exact .cut (by unfold Cut;rw [if_pos rfl];exact ⟨rfl,h.al.l.2,by show s.out <+: _;rw [<- h.al.out];exact ho⟩)
  | false =>
    have:=h.g
    unfold G at this
    simp only [Bool.false_eq_true,if_false] at this
    have h2:0<=s'.fuel*((N:Int)+1):=Int.mul_nonneg h0 oM0
    omega
theorem poor (hB:B<=4611686018427387903) {k c:Nat} {I:VR} {l:List Nd} {K:List KF} {l':List Nd} {E:ER} (h:LRel k c I l K l' E) :
    ∀ (D:Nat) (a:List Int) (s:Rs) (r:Rres),KRun u D l K a s r->Oks B s->Live s->l≠[]->s.fuel<=k->r.2.2.spent=true/\r.2.2.st=0/\r.2.2.out=s.out:=by
  have G0:∀ {s:Rs} {a:List Int} {r:Rres},Live s->r=((0,[]),a,gone s)->r.2.2.spent=true/\r.2.2.st=0/\r.2.2.out=s.out:=fun hl e=>by subst e;exact ⟨rfl,hl.2,rfl⟩
  have Z:∀ {D:Nat} {l:List Nd} {K:List KF} {a:List Int} {s:Rs} {r:Rres},KRun u D l K a s r->Oks B s->Live s->l≠[]->s.fuel<=(0:Nat)->r.2.2.spent=true/\r.2.2.st=0/\r.2.2.out=s.out:=by
    intro D l K a s r hk ho hl hn hf
    cases l with
    | nil=>exact absurd rfl hn
    | cons x l =>
      rcases zm5 hB hk ho hl with ⟨_,e⟩ | ⟨e,_⟩
      ·exact G0 hl e
      exact absurd hf (by simp;omega)
  have ne:∀ {k c:Nat} {I:VR} {l:List Nd} {K:List KF} {l':List Nd} {E:ER} {f:Int},LRel k c I l K l' E->1<=f->f<=k->l≠[]:=by
    intro k c I l K l' E f h h1 h2 e
    have:=LRel.nil h e
    subst this
    simp at h2;omega
  induction h with
  | dead _=>exact fun _ _ _ _=>Z
  | weak _ _ ih=>exact ih
  | both hx _ _ _ hL ih =>
    intro D a s r hk ho hl hn hf
    rcases y2g hB hx hk ho hl with ⟨_,e⟩ | ⟨e,a2,_,h2⟩
    ·exact G0 hl e
    have t:=ih _ _ _ _ h2 (zl2 ho e) (y0i (z5p hl)) (ne hL e hf) (by show s.fuel - 1<=_;omega)
    exact t
  | skip hx _ hL ih =>
    intro D a s r hk ho hl hn hf
    rcases y2g hB hx hk ho hl with ⟨_,e⟩ | ⟨e,a2,_,h2⟩
    ·exact G0 hl e
    have t:=ih _ _ _ _ h2 (zl2 ho e) (y0i (z5p hl)) (ne hL e hf) (by show s.fuel - 1<=_;omega)
    exact t
  | paid hx _ hne hL ih =>
    intro D a s r hk ho hl hn hf
    rcases y2g hB hx hk ho hl with ⟨_,e⟩ | ⟨e,a2,_,h2⟩
    ·exact G0 hl e
    have t:=ih _ _ _ _ h2 (zl2 ho e) (y0i (z5p hl)) hne (by show s.fuel - 1<=_;omega)
    exact t
  | add _ _ _ _ ih =>
    intro D a s r hk ho hl hn hf
    exact ih _ _ _ _ hk ho hl hn oM0
  | eff=>exact fun _ _ _ _=>Z
  | ite=>exact fun _ _ _ _=>Z
  | ender=>exact fun _ _ _ _=>Z
  | loop hx _ hq _ _ hL _ _ ih _ =>
    intro D a s r hk ho hl hn hf
    rcases zm5 hB hk ho hl with ⟨_,e⟩ | ⟨e,d1,p,r1,_,_,h3,h4⟩
    ·exact G0 hl e
    have h5:=z5z h3 (by rw [hx];rfl)
    have ho1:=(z41 ho e).1
    obtain ⟨d2,v2,q2,r2,rfl,_,g2,g3,g4⟩:=z4f h5
    rw [hq] at g2
    obtain rfl:=Option.some.inj g2
    have h6:=ih d2 v2 (dec s) r2 ⟨d2,r2,Nat.le_refl _,g3,by split<;>rfl⟩ ho1 (z5p hl) (ne hL e hf) (by show s.fuel - 1<=_;omega)
    have hov:z12 r2.2.2=true:=by unfold z12;rw [h6.1];rfl
    rw [hov] at g4
    cases g4
    rcases h4 with ⟨_,h4⟩ | ⟨h4,_⟩ | ⟨h4,_⟩
    ·subst h4;exact h6
    ·rw [z0u h4] at hov;cases hov
    rw [z0u h4] at hov;cases hov
  | once hx hq _ hL ih =>
    intro D a s r hk ho hl hn hf
    rcases y2x hB hx hq hk ho hl with ⟨_,e⟩ | ⟨e,p,a2,_,_,h2⟩
    ·exact G0 hl e
    have t:=ih _ _ _ _ h2 (z41 ho e).1 (z5p hl) (ne hL e hf) (by show s.fuel - 1<=_;omega)
    exact t
  | leave hy hy2 _ hL ih =>
    intro D a s r hk ho hl hn hf
    rcases zy7 hB hy hy2 hk ho hl with ⟨_,e⟩ | ⟨e,p,a2,_,_,h2⟩
    ·exact G0 hl e
    have t:=ih _ _ _ _ h2 (z41 ho e).1 (z5p hl) (ne hL e hf) (by show s.fuel - 1<=_;omega)
    exact t
  | fork hx hq hL0 hL1 ih0 ih1 =>
    intro D a s r hk ho hl hn hf
    rcases y2b hB hx hq hk ho hl with ⟨_,e⟩ | ⟨e,q,hq',h2⟩
    ·exact G0 hl e
    rcases hq' with rfl | rfl
    ·have t:=ih0 _ _ _ _ h2 (z41 ho e).1 (z5p hl) (ne hL0 e hf) (by show s.fuel - 1<=_;omega)
     exact t
    have t:=ih1 _ _ _ _ h2 (z41 ho e).1 (z5p hl) (ne hL1 e hf) (by show s.fuel - 1<=_;omega)
    exact t
theorem y8x {k w c:Nat} {I:VR} {l:List Nd} {K:List KF} {l':List Nd} {E:ER} {a b:List Int} {s s':Rs} {r r':Rres} (hB:B<=4611686018427387903) (hL:LRel k c I l K l' E) (hn:l≠[]) (hk:KRun u D l K a s r) (ho:Oks B s)
    (h:RelR m N k w c s s') (hf:s'.fuel<1) (hr:r'=((0,[]),b,gone s')):RR m N E r r':=by
  subst hr
  refine .cut ?_
  unfold Cut
  cases m with
  | true =>
    rw [if_pos rfl]
    have hg:=h.g
    unfold G at hg
    simp only [if_true] at hg
    obtain ⟨h1,h2,h3⟩:=poor hB hL _ _ _ _ hk ho h.al.l hn oM0
    exact ⟨h1,h2,by rw [h3];show s.out <+: s'.out;rw [h.al.out];exact List.prefix_refl _⟩
  | false =>
    rw [if_neg dC0]
    refine ⟨rfl,h.al.l'.2,?_⟩
    show s'.out <+: _
    rw [h.al.out]
    exact hk.out hB ho
def upd (s:Rs) (ins:List Int) (ar:List (List Int)) (st:Int) (out:List Int):Rs:={ bmp s with ins:=ins,ar:=ar,st:=st,out:=out }
theorem yi2 {d d':Nat} {x x':Nd} {p:List Int} {s s':Rs} {q q':Int × Rs} (hk:x'.kind=x.kind) (hop:x'.op=x.op) (hnm:x'.name=x.name) (h7:x.kind≠7) (hA:v.arrays=u.arrays)
    (hB:B<=4611686018427387903) (ho:Oks B s) (ho':Oks B s') (hal:Alike s s') (h:mSum u d x p s=some q) (h':mSum v d' x' p s'=some q') :
    q'.1=q.1/\∃ ins ar st out,q.2=upd s ins ar st out/\q'.2=upd s' ins ar st out:=by
  obtain ⟨d,rfl⟩:=z6r h
  obtain ⟨d',rfl⟩:=z6r h'
  have e:=zk6 hB ho
  have e':=zk6 hB ho'
  obtain ⟨hl,hl',i1,i2,i3,i4⟩:=hal
  have U:bmp s=upd s s.ins s.ar s.st s.out:=rfl
  have U':bmp s'=upd s' s.ins s.ar s.st s.out:=by unfold upd bmp;rw [<- i1,<- i2,<- i3,hl.2,<- hl'.2]
  have ne:∀ {i:Int},x.kind≠i->(x.kind==i)=false:=fun h=>beq_eq_false_iff_ne.2 h
  have ne':∀ {i:Int},x.kind≠i->(x'.kind==i)=false:=fun h=>beq_eq_false_iff_ne.2 (by rw [hk];exact h)
  by_cases k3:x.kind=3
  ·obtain ⟨a0,g1,rfl⟩:=z9g h (beq_iff_eq.2 k3)
   obtain ⟨a0',g1',rfl⟩:=z9g h' (beq_iff_eq.2 (hk.trans k3))
   rw [g1] at g1';cases g1'
   rw [e,e',hop];exact ⟨rfl,_,_,_,_,U,U'⟩
  by_cases k4:x.kind=4
  ·obtain ⟨a0,a1,g1,g2,rfl⟩:=z9h h (beq_iff_eq.2 k4)
   obtain ⟨a0',a1',g1',g2',rfl⟩:=z9h h' (beq_iff_eq.2 (hk.trans k4))
   rw [g1] at g1';cases g1'
   rw [g2] at g2';cases g2'
   rw [e,e',hop]
   refine ⟨rfl,?_⟩
   cases (mTwo x.op a0 a1).2 with
   | true=>exact ⟨_,_,_,_,U,U'⟩
   | false=>exact ⟨s.ins,s.ar,2,s.out,rfl,by show ({ bmp s' with st:=2 }:Rs)=_;rw [U'];rfl⟩
  have cell:∀ (k n:Int) (q q':Bool × Rs),z8n (bmp s) k n=some q->z8n (bmp s') k n=some q'->q'.1=q.1/\((q.1=false->q.2=upd s s.ins s.ar 3 s.out/\q'.2=upd s' s.ins s.ar 3 s.out)):=by
    intro k n q q' g g'
    rw [U'] at g'
    unfold z8n at g g'
    have S:({ upd s' s.ins s.ar s.st s.out with st:=3 }:Rs)=upd s' s.ins s.ar 3 s.out:=rfl
    split at g
    ·rename_i c1
     rw [if_pos c1] at g'
     cases g;cases g'
     exact ⟨rfl,fun _=>⟨rfl,S⟩⟩
    rename_i c1
    rw [if_neg c1] at g'
    split at g
    ·rename_i c2
     rw [if_pos c2] at g'
     obtain ⟨row,r1,r2⟩:=Option.bind_eq_some_iff.1 g
     obtain ⟨row',r1',r2'⟩:=Option.bind_eq_some_iff.1 g'
     have:s.ar[k.toNat]? = some row:=r1
     have h2:s.ar[k.toNat]? = some row':=r1'
     rw [this] at h2;cases h2
     split at r2
     ·rename_i c3
      rw [if_pos c3] at r2'
      cases r2;cases r2'
      exact ⟨rfl,fun _=>⟨rfl,S⟩⟩
     rename_i c3
     rw [if_neg c3] at r2'
     cases r2;cases r2'
     exact ⟨rfl,fun h=>by cases h⟩
    cases g
  by_cases k5:x.kind=5
  ·obtain ⟨a0,b,t,g1,g2,g3⟩:=z7a h k5
   obtain ⟨a0',b',t',g1',g2',g3'⟩:=z7a h' (hk.trans k5)
   rw [g1] at g1';cases g1'
   rw [e] at g2 g3
   rw [e'] at g2' g3'
   rw [hA,hnm] at g2' g3'
   obtain ⟨c1,c2⟩:=cell _ _ _ _ g2 g2'
   have c1:b'=b:=c1
   subst c1
   rcases g3 with ⟨rfl,rfl⟩ | ⟨rfl,row,y,h4,h5,rfl⟩
   ·rcases g3' with ⟨_,rfl⟩ | ⟨h0,_⟩
    ·obtain ⟨c3,c4⟩:=c2 rfl
     exact ⟨rfl,_,_,_,_,c3,c4⟩
    cases h0
   rcases g3' with ⟨h0,_⟩ | ⟨_,row',y',h4',h5',rfl⟩
   ·cases h0
   rw [U'] at h4'
   have e1:s.ar[(z0g x.name u.arrays 0).toNat]? = some row:=h4
   have e2:s.ar[(z0g x.name u.arrays 0).toNat]? = some row':=h4'
   rw [e1] at e2;cases e2
   rw [h5] at h5';cases h5'
   exact ⟨rfl,_,_,_,_,U,U'⟩
  by_cases k6:x.kind=6
  ·obtain ⟨a0,b,t,g1,g2,g3⟩:=z69 h k6
   obtain ⟨a0',b',t',g1',g2',g3'⟩:=z69 h' (hk.trans k6)
   rw [g1] at g1';cases g1'
   rw [e] at g2 g3
   rw [e'] at g2' g3'
   rw [hA,hnm] at g2' g3'
   obtain ⟨c1,c2⟩:=cell _ _ _ _ g2 g2'
   have c1:b'=b:=c1
   subst c1
   rcases g3 with ⟨rfl,rfl⟩ | ⟨rfl,row,y,h4,h5,rfl⟩
   ·rcases g3' with ⟨_,rfl⟩ | ⟨h0,_⟩
    ·obtain ⟨c3,c4⟩:=c2 rfl
     exact ⟨rfl,_,_,_,_,c3,c4⟩
    cases h0
   rcases g3' with ⟨h0,_⟩ | ⟨_,row',y',h4',h5',rfl⟩
   ·cases h0
   rw [U'] at h4'
   have e1:s.ar[(z0g x.name u.arrays 0).toNat]? = some row:=h4
   have e2:s.ar[(z0g x.name u.arrays 0).toNat]? = some row':=h4'
   rw [e1] at e2;cases e2
   rw [h5] at h5';cases h5'
   refine ⟨rfl,s.ins,s.ar.set (z0g x.name u.arrays 0).toNat (row.set a0.toNat y),s.st,s.out,rfl,?_⟩
   rw [U'];rfl
  by_cases k9:x.kind=9
  ·obtain ⟨a0,g1,_,rfl⟩:=z7b h (beq_iff_eq.2 k9)
   obtain ⟨a0',g1',_,rfl⟩:=z7b h' (beq_iff_eq.2 (hk.trans k9))
   rw [g1] at g1';cases g1'
   rw [e,e',U',i3]
   exact ⟨rfl,s.ins,s.ar,s.st,s.out++[a0],rfl,rfl⟩
  by_cases k8:x.kind=8
  ·have R1:=z8q h (beq_iff_eq.2 k8)
   have R2:=z8q h' (beq_iff_eq.2 (hk.trans k8))
   rw [e] at R1
   rw [e',U',i1] at R2
   rcases R1 with ⟨c1,rfl⟩ | ⟨y,z,c1,rfl⟩
   ·rcases R2 with ⟨c2,rfl⟩ | ⟨y',z',c2,rfl⟩
    ·exact ⟨rfl,s.ins,s.ar,4,s.out,rfl,rfl⟩
    rw [c1] at c2;cases c2
   rcases R2 with ⟨c2,rfl⟩ | ⟨y',z',c2,rfl⟩
   ·rw [c1] at c2;cases c2
   rw [c1] at c2;cases c2
   exact ⟨rfl,z,s.ar,s.st,s.out,rfl,rfl⟩
  obtain rfl:=z8p h (ne k3) (ne k4) (ne k5) (ne k6) (ne h7) (ne k9) (ne k8)
  obtain rfl:=z8p h' (ne' k3) (ne' k4) (ne' k5) (ne' k6) (ne' h7) (ne' k9) (ne' k8)
  rw [e,e'];exact ⟨rfl,_,_,_,_,U,U'⟩
end
end
section
def HCall (u v:Un) (D:Nat) (B:Int) (m:Bool) (N:Nat):Prop:=∀ e e' k p s s' q q',e<D->z3r u e k p s=some q->z3r v e' k p s'=some q'->Oks B s->Oks B s'->RelR m N 0 (N+1) 0 s s'->RC m N q q'
inductive RN (m:Bool) (N:Nat) (J:VR) (F:Int->Prop) (E:ER) (r r':Rres):Prop
  | go:r.1.1=0->r'.1.1=0->RelR m N 0 (N+1) 0 r.2.2 r'.2.2->J r.2.1 r'.2.1->RN m N J F E r r'
  | fin:r.1.1≠0->r'.1.1=r.1.1->F r.1.1->RelR m N 0 (N+1) 0 r.2.2 r'.2.2->E r.1.1 r.1.2 r'.1.2 r.2.1 r'.2.1->RN m N J F E r r'
  | halt:Halt m r.2.2 r'.2.2->RN m N J F E r r'
  | cut:Cut m r.2.2 r'.2.2->RN m N J F E r r'
theorem z61 {s:Rs} (h:s.spent=true):z12 s=true:=by unfold z12;rw [h];rfl
section
variable {u v:Un} {D:Nat} {B:Int} {m:Bool} {N:Nat}
theorem RelR.weak {k w c k2 w2 c2:Nat} {s s':Rs} (h:RelR m N k w c s s') (hk:k<=k2) (hw:w2<=w) (hc:c<=c2):RelR m N k2 w2 c2 s s':=⟨h.al,h.g.weak hk hw,by have:=h.co;omega⟩
theorem RelR.dec {k w c:Nat} {s s':Rs} (h:RelR m N k w c s s') (hw:1<=w):RelR m N k (N+1) c (dec s) (dec s'):=⟨⟨h.al.l,h.al.l',h.al.ins,h.al.ar,h.al.out,h.al.code⟩,h.g.step hw,h.co⟩
theorem sum_sim (hB:B<=4611686018427387903) (hA:v.arrays=u.arrays) (hP:∀ name,z03 name v.flows 0=z03 name u.flows 0) (HC:HCall u v D B m N) {d d':Nat} (hd:d<=D) {x x':Nd} {p:List Int} {s s':Rs} {q q':Int × Rs}
    (hk:x'.kind=x.kind) (hop:x'.op=x.op) (hnm:x'.name=x.name) (h:mSum u d x p s=some q) (h':mSum v d' x' p s'=some q') (ho:Oks B s) (ho':Oks B s') (ho1:s.cost+s.fuel+1<=B) (ho1':s'.cost+s'.fuel+1<=B)
    (hr:RelR m N 0 (N+1) 0 s s'):RC m N q q':=by
  by_cases k7:x.kind=7
  ·obtain ⟨d,rfl⟩:=z6r h
   obtain ⟨d',rfl⟩:=z6r h'
   have g:=z8o h (beq_iff_eq.2 k7)
   have g':=z8o h' (beq_iff_eq.2 (hk.trans k7))
   rw [zk6 hB ho] at g
   rw [zk6 hB ho',hnm,hP] at g'
   have hb:∀ {s:Rs},Oks B s->s.cost+s.fuel+1<=B->Oks B (bmp s):=fun {s} ho ho1=>⟨ho.1,by have:=ho.2.1;show 0<=s.cost+1;omega,by show s.cost+1+s.fuel<=B;omega⟩
   refine HC _ _ _ _ _ _ _ _ oM0 g g' (hb ho ho1) (hb ho' ho1') ⟨⟨hr.al.l,hr.al.l',hr.al.ins,hr.al.ar,hr.al.out,hr.al.code⟩,hr.g,?_⟩
   have:=hr.co
   show s'.cost+1<=s.cost+1+(0:Nat);omega
  obtain ⟨h1,ins,ar,st,out,h2,h3⟩:=yi2 hk hop hnm k7 hA hB ho ho' hr.al h h'
  have hco:q'.2.cost<=q.2.cost:=by rw [h2,h3];have:=hr.co;show s'.cost+1<=s.cost+1;omega
  by_cases hst:st=0
  ·subst hst
   refine .ok h1 ⟨?_,?_,by simpa using hco⟩
   ·rw [h2,h3];exact ⟨⟨hr.al.l.1,rfl⟩,⟨hr.al.l'.1,rfl⟩,rfl,rfl,rfl,hr.al.code⟩
   rw [h2,h3];exact hr.g
  refine .halt ⟨by rw [h2];exact hst,by rw [h2,h3];rfl,by rw [h2];exact hr.al.l.1,by rw [h3];exact hr.al.l'.1,by rw [h2,h3];rfl,by rw [h2,h3];exact hr.al.code,hco,fun hm=>?_⟩
  have:=hr.g
  unfold G at this
  rw [if_pos hm] at this
  rw [h2,h3];show s.fuel<=s'.fuel;simpa using this
theorem zf2 {l:List Nd} {K:List KF} {r1 r:Rres} (h:KNext u D l K r1 r) (ho:z12 r1.2.2=true):r=r1:=by
  rcases h with ⟨_,h⟩ | ⟨h,_⟩ | ⟨h,_⟩
  ·exact h
  ·rw [z0u h] at ho;cases ho
  rw [z0u h] at ho;cases ho
theorem y0n (hB:B<=4611686018427387903) {D':Nat} {J:VR} {F:Int->Prop} {E:ER} {l l':List Nd} {K:List KF} {r1 r1' r r':Rres} (h:KNext u D l K r1 r) (h':KNext v D' l' [] r1' r') (ho:Oks B r1.2.2) (ho':Oks B r1'.2.2)
    (hR:RN m N J F E r1 r1') (hF:∀ n,F n->K=[]∨n=15) (hN:lsz l+ksz K<=N)
    (ih:∀ (D':Nat) (a b:List Int) (s s':Rs) (r r':Rres),KRun u D l K a s r->KRun v D' l' [] b s' r'->Oks B s->Oks B s'->RelR m N 0 (lsz l+ksz K) 0 s s'->lsz l+ksz K<=N->J a b->RR m N E r r'):RR m N E r r':=by
  cases hR with
  | go e e' hr hJ =>
    rcases h with ⟨h,_⟩ | ⟨_,h,_⟩ | ⟨_,_,h⟩
    ·rw [z0u hr.al.l] at h;cases h
    ·exact absurd e h
    rcases h' with ⟨h',_⟩ | ⟨_,h',_⟩ | ⟨_,_,h'⟩
    ·rw [z0u hr.al.l'] at h';cases h'
    ·exact absurd e' h'
    exact ih _ _ _ _ _ _ _ h h' ho ho' (hr.weak (Nat.le_refl _) oM0 (Nat.le_refl _)) hN hJ
  | fin e e' hf hr hE =>
    rcases h with ⟨h,_⟩ | ⟨_,_,h⟩ | ⟨_,h,_⟩
    ·rw [z0u hr.al.l] at h;cases h
    ·rcases h' with ⟨h',_⟩ | ⟨_,_,h'⟩ | ⟨_,h',_⟩
     ·rw [z0u hr.al.l'] at h';cases h'
     ·obtain rfl:r'=r1':=h'
      have hr1:r=r1:=by
        rcases hF _ hf with rfl | k15
        ·exact h
        cases K with
        | nil=>exact h
        | cons f K=>unfold KFin at h;rw [if_pos k15] at h;exact h
      subst hr1
      exact .ok e' hE hr
     exact absurd (e'.symm.trans h') e
    exact absurd h e
  | halt hh =>
    obtain ⟨o1,o2⟩:=hh.over
    rw [zf2 h o1,zf2 h' o2]
    exact .halt hh
  | cut hc =>
    refine .cut ?_
    unfold Cut at hc ⊢
    cases m with
    | true =>
      simp only [if_true] at hc ⊢
      rw [zf2 h (z61 hc.1)]
      exact ⟨hc.1,hc.2.1,hc.2.2.trans (h'.out hB ho')⟩
    | false =>
      simp only [Bool.false_eq_true,if_false] at hc ⊢
      rw [zf2 h' (z61 hc.1)]
      exact ⟨hc.1,hc.2.1,hc.2.2.trans (h.out hB ho)⟩
theorem y32 (hB:B<=4611686018427387903) {d:Nat} {x:Nd} {r1 r:Rres} (ho:Oks B r1.2.2)
    (h:(if z12 r1.2.2||r1.1.1==15 then some r1 else if r1.1.1==14 then (mSet r1.2.1 x.outs r1.1.2).map fun v=>((0,[]),v,r1.2.2) else z39 u d x r1.2.1 r1.1.2 r1.2.2)=some r):r1.2.2.out <+: r.2.2.out/\(z12 r1.2.2=true->r=r1):=by
  split at h
  ·cases h;exact ⟨List.prefix_refl _,fun _=>rfl⟩
  rename_i hn
  refine ⟨?_,fun ho=>absurd (by rw [ho];rfl) hn⟩
  split at h
  ·obtain ⟨v3,_,rfl⟩:=Option.map_eq_some_iff.1 h
   exact List.prefix_refl _
  exact (zd1 hB h ho).out
theorem y6h (hB:B<=4611686018427387903) {k c:Nat} {I2 J:VR} {E E2:ER} {x x':Nd} {q q':List Nd} (hq:x.kids=[q]) (hq':x'.kids=[q']) (hN:lsz q<=N)
    (ih:∀ (D':Nat) (a b:List Int) (s s':Rs) (r r':Rres),KRun u D q [] a s r->KRun v D' q' [] b s' r'->Oks B s->Oks B s'->RelR m N k (lsz q+ksz []) c s s'->lsz q+ksz []<=N->I2 a b->RR m N E2 r r')
    (hE:∀ n p p' a b,E2 n p p' a b->(n=15/\E 15 p p' a b)∨(n=14/\∀ a2 b2,mSet a x.outs p=some a2->mSet b x'.outs p'=some b2->J a2 b2)∨(n=13/\∀ a2 b2,mSet a x.params p=some a2->mSet b x'.params p'=some b2->I2 a2 b2)) :
    ∀ (d d':Nat) (a b p p':List Int) (s s':Rs) (r r':Rres),d<=D->z39 u d x a p s=some r->z39 v d' x' b p' s'=some r'->Oks B s->Oks B s'->RelR m N k (lsz q) c s s' ->
      (∀ a2 b2,mSet a x.params p=some a2->mSet b x'.params p'=some b2->I2 a2 b2)->RN m N J (fun n=>n=15) E r r'
  | 0,_,_,_,_,_,_,_,_,_,_,h,_,_,_,_,_=>by simp [z39] at h
  | d+1,d',a,b,p,p',s,s',r,r',hd,h,h',ho,ho',hr,hI=>by
    obtain ⟨d1,v2,q2,r1,e,g1,g2,g3,g4⟩:=z4f h
    obtain ⟨d1',v2',q2',r1',e',g1',g2',g3',g4'⟩:=z4f h'
    obtain rfl:d1=d:=by omega
    rw [hq] at g2
    rw [hq'] at g2'
    obtain rfl:=Option.some.inj g2
    obtain rfl:=Option.some.inj g2'
    have R:=ih d1' v2 v2' s s' r1 r1' ⟨d1,r1,by omega,g3,by split<;>rfl⟩ ⟨d1',r1',Nat.le_refl _,g3',by split<;>rfl⟩ ho ho' hr hN (hI _ _ g1 g1')
    have o1:=(z6p hB g3 ho).ok
    have o1':=(z6p hB g3' ho').ok
    have W:=y32 hB o1 g4
    have W':=y32 hB o1' g4'
    cases R with
    | halt hh =>
      obtain ⟨t1,t2⟩:=hh.over
      rw [W.2 t1,W'.2 t2]
      exact .halt hh
    | cut hc =>
      refine .cut ?_
      unfold Cut at hc ⊢
      cases m with
      | true =>
        simp only [if_true] at hc ⊢
        rw [W.2 (z61 hc.1)]
        exact ⟨hc.1,hc.2.1,hc.2.2.trans W'.1⟩
      | false =>
        simp only [Bool.false_eq_true,if_false] at hc ⊢
        rw [W'.2 (z61 hc.1)]
        exact ⟨hc.1,hc.2.1,hc.2.2.trans W.1⟩
    | ok ek eE hr2 =>
      rw [z0u hr2.al.l] at g4
      rw [z0u hr2.al.l',ek] at g4'
      obtain ⟨⟨n,pp⟩,va,sa⟩:=r1
      obtain ⟨⟨n',pp'⟩,vb,sb⟩:=r1'
      obtain rfl:n'=n:=ek
      rcases hE _ _ _ _ _ eE with ⟨rfl,h15⟩ | ⟨rfl,h14⟩ | ⟨rfl,h13⟩
      ·cases g4;cases g4'
       exact .fin (show (15:Int)≠0 by decide) rfl rfl hr2 h15
      ·obtain ⟨w,g5,rfl⟩:=Option.map_eq_some_iff.1 g4
       obtain ⟨w',g5',rfl⟩:=Option.map_eq_some_iff.1 g4'
       exact .go rfl rfl hr2 (h14 _ _ g5 g5')
      exact y6h hB hq hq' hN ih hE d1 d1' va vb pp pp' sa sb r r' oM0 g4 g4' o1 o1' (hr2.weak (Nat.zero_le _) oM0 (Nat.zero_le _)) h13
end
end
section
section
variable {u v:Un} {D:Nat} {B:Int} {m:Bool} {N:Nat}
theorem z8u (x:Nd):1<=nsz x:=by rw [zz2];omega
theorem yh0 {x:Nd} {q:Int × Rs} {a:List Int} {r1:Rres} (hl:Live q.2)
    (h:(if !z12 q.2&&decide (0<x.outs.length) then (x.outs[0]?).bind fun o=>(setV a o q.1).map fun v'=>((0,[]),v',q.2) else some ((0,[]),a,q.2))=some r1):∃ a2,setO x.outs a q.1 a2/\r1=((0,[]),a2,q.2):=by
  rw [z0u hl] at h
  cases ho:x.outs with
  | nil=>rw [ho] at h;cases h;exact ⟨a,rfl,rfl⟩
  | cons o os =>
    rw [ho] at h
    simp only [Bool.not_false,Bool.true_and,List.length_cons,Nat.zero_lt_succ,decide_true,if_true,List.getElem?_cons_zero,Option.bind_some,Option.map_eq_some_iff] at h
    obtain ⟨a2,h1,rfl⟩:=h
    exact ⟨a2,h1,rfl⟩
theorem y2q {x:Nd} {q:Int × Rs} {a:List Int} {r1:Rres}
    (h:(if !z12 q.2&&decide (0<x.outs.length) then (x.outs[0]?).bind fun o=>(setV a o q.1).map fun v'=>((0,[]),v',q.2) else some ((0,[]),a,q.2))=some r1):r1.2.2=q.2:=by
  split at h
  ·simp only [Option.bind_eq_some_iff,Option.map_eq_some_iff] at h
   obtain ⟨o,_,v',_,rfl⟩:=h
   rfl
  cases h;rfl
theorem sound (hB:B<=4611686018427387903) (hA:v.arrays=u.arrays) (hP:∀ name,z03 name v.flows 0=z03 name u.flows 0) (HC:HCall u v D B m N)
    {k c:Nat} {I:VR} {l:List Nd} {K:List KF} {l':List Nd} {E:ER} (h:LRel k c I l K l' E) :
    ∀ (D':Nat) (a b:List Int) (s s':Rs) (r r':Rres),KRun u D l K a s r->KRun v D' l' [] b s' r'->Oks B s->Oks B s'->RelR m N k (lsz l+ksz K) c s s'->lsz l+ksz K<=N->I a b->RR m N E r r':=by
  induction h with
  | dead hd=>intro D' a b s s' r r' h h' ho ho' hr hN hI;exact absurd hI (hd a b)
  | weak hw _ ih=>intro D' a b s s' r r' h h' ho ho' hr hN hI;exact ih D' a b s s' r r' h h' ho ho' hr hN (hw a b hI)
  | @both k c I J x x' l K l' E hx hx' hcc hJ hL ih =>
    intro D' a b s s' r r' h h' ho ho' hr hN hI
    have hs:=z8u x
    have ez:lsz (x::l)=nsz x+lsz l:=rfl
    rcases y2g hB hx h ho hr.al.l with ⟨hf,e⟩ | ⟨hf,a2,ha,hk⟩
    ·exact zw8 hr oM0 hf ho'.1 (h'.out hB ho') e
    rcases y2g hB hx' h' ho' hr.al.l' with ⟨hf',e'⟩ | ⟨hf',b2,hb,hk'⟩
    ·exact y8x hB (LRel.both hx hx' hcc hJ hL) (List.cons_ne_nil _ _) h ho hr hf' e'
    have h2:=hr.dec oM0
    refine ih D' a2 b2 _ _ r r' hk hk' (zl2 ho hf) (zl2 ho' hf') ⟨⟨h2.al.l,h2.al.l',h2.al.ins,h2.al.ar,h2.al.out,h2.al.code⟩,h2.g.weak (Nat.le_refl _) oM0,?_⟩ oM0 (hJ _ _ _ _ hI ha hb)
    have:=hr.co
    show s'.cost+(hc x':Int)<=s.cost+(hc x:Int)+(c:Int);omega
  | @skip k c I J x l K l' E hx hJ hL ih =>
    intro D' a b s s' r r' h h' ho ho' hr hN hI
    have hs:=z8u x
    have ez:lsz (x::l)=nsz x+lsz l:=rfl
    rcases y2g hB hx h ho hr.al.l with ⟨hf,e⟩ | ⟨hf,a2,ha,hk⟩
    ·exact zw8 hr oM0 hf ho'.1 (h'.out hB ho') e
    refine ih D' a2 b _ _ r r' hk h' (zl2 ho hf) ho' ⟨⟨hr.al.l,hr.al.l',hr.al.ins,hr.al.ar,hr.al.out,hr.al.code⟩,(hr.g.weak (Nat.le_refl _) (w2:=lsz l+ksz K+1) oM0).left,?_⟩ oM0 (hJ _ _ _ hI ha)
    have:=hr.co
    show s'.cost<=s.cost+(hc x:Int)+(c:Int);omega
  | @paid k c I J x l K l' E hx hJ hne hL ih =>
    intro D' a b s s' r r' h h' ho ho' hr hN hI
    have hs:=z8u x
    have ez:lsz (x::l)=nsz x+lsz l:=rfl
    rcases y2g hB hx h ho hr.al.l with ⟨hf,e⟩ | ⟨hf,a2,ha,hk⟩
    ·exact zw8 hr oM0 hf ho'.1 (h'.out hB ho') e
    refine ih D' a2 b _ _ r r' hk h' (zl2 ho hf) ho' ⟨⟨hr.al.l,hr.al.l',hr.al.ins,hr.al.ar,hr.al.out,hr.al.code⟩,(hr.g.weak (Nat.le_refl _) (w2:=lsz l+ksz K+1) oM0).pay,?_⟩ oM0 (hJ _ _ _ hI ha)
    have:=hr.co
    show s'.cost<=s.cost+(hc x:Int)+(c:Int);omega
  | @add k c I J x' l K l' E hx' hne hJ hL ih =>
    intro D' a b s s' r r' h h' ho ho' hr hN hI
    rcases y2g hB hx' h' ho' hr.al.l' with ⟨hf',e'⟩ | ⟨hf',b2,hb,hk'⟩
    ·exact y8x hB (LRel.add hx' hne hJ hL) hne h ho hr hf' e'
    refine ih D' a b2 _ _ r r' h hk' ho (zl2 ho' hf') ⟨⟨hr.al.l,hr.al.l',hr.al.ins,hr.al.ar,hr.al.out,hr.al.code⟩,hr.g.right,?_⟩ hN (hJ _ _ _ hI hb)
    have:=hr.co
    show s'.cost+(hc x':Int)<=s.cost+((c+hc x':Nat):Int);omega
  | @eff I J x x' l K l' E hk hkk hop hnm hlen hp hJ hL ih =>
    intro D' a b s s' r r' h h' ho ho' hr hN hI
    have hs:=z8u x
    have ez:lsz (x::l)=nsz x+lsz l:=rfl
    rcases zm5 hB h ho hr.al.l with ⟨hf,e⟩ | ⟨hf,d1,p,r1,hd,g1,g2,g3⟩
    ·exact zw8 hr oM0 hf ho'.1 (h'.out hB ho') e
    rcases zm5 hB h' ho' hr.al.l' with ⟨hf',e'⟩ | ⟨hf',d1',p',r1',hd',g1',g2',g3'⟩
    ·exact y8x hB (LRel.eff hk hkk hop hnm hlen hp hJ hL) (List.cons_ne_nil _ _) h ho hr hf' e'
    obtain ⟨k1,k2,k10,k11,k12,k13,k14,k15⟩:=hk
    have ne:∀ {i:Int},x.kind≠i->(x.kind==i)=false:=fun h=>beq_eq_false_iff_ne.2 h
    have ne':∀ {i:Int},x.kind≠i->(x'.kind==i)=false:=fun h=>beq_eq_false_iff_ne.2 (by rw [hkk];exact h)
    obtain ⟨q,t1,t2⟩:=z79 g2 (by rw [ne k1,ne k2];rfl) (by rw [ne k12,ne k13,ne k14,ne k15];rfl) (ne k10) (ne k11)
    obtain ⟨q',t1',t2'⟩:=z79 g2' (by rw [ne' k1,ne' k2];rfl) (by rw [ne' k12,ne' k13,ne' k14,ne' k15];rfl) (ne' k10) (ne' k11)
    have hpp:=hp _ _ _ _ hI g1 g1'
    subst hpp
    have h2:=hr.dec oM0
    obtain ⟨o1,o2⟩:=z41 ho hf
    obtain ⟨o1',o2'⟩:=z41 ho' hf'
    have e1:r1.2.2=q.2:=y2q t2
    have e1':r1'.2.2=q'.2:=y2q t2'
    have R:RN m N J (fun n=>K=[]∨n=15) E r1 r1':=by
      cases sum_sim hB hA hP HC oM0 hkk hop hnm t1 t1' o1 o1' o2 o2' h2 with
      | ok hv hrel =>
        obtain ⟨a2,s1,rfl⟩:=yh0 hrel.al.l t2
        obtain ⟨b2,s2,rfl⟩:=yh0 hrel.al.l' t2'
        rw [hv] at s2
        exact .go rfl rfl hrel (hJ _ _ _ _ _ hI s1 s2)
      | halt hh=>exact .halt (by rw [e1,e1'];exact hh)
      | cut hh=>exact .cut (by rw [e1,e1'];exact hh)
    exact y0n hB g3 g3' (by rw [e1];exact (y4d hB t1 o1 o2).ok) (by rw [e1'];exact (y4d hB t1' o1' o2').ok) R (fun _ h=>h) oM0 ih
  | @ite I J E2 x x' q0 q1 q0' q1' l K l' E hk hk' hq hq' hp hL0 hL1 hE hL ih0 ih1 ih =>
    intro D' a b s s' r r' h h' ho ho' hr hN hI
    have hs:=z8u x
    have ez:lsz (x::l)=nsz x+lsz l:=rfl
    have ezx:nsz x=1+(lsz q0+(lsz q1+0)):=by rw [zz2,hq];rfl
    rcases zm5 hB h ho hr.al.l with ⟨hf,e⟩ | ⟨hf,d1,p,r1,hd,g1,g2,g3⟩
    ·exact zw8 hr oM0 hf ho'.1 (h'.out hB ho') e
    rcases zm5 hB h' ho' hr.al.l' with ⟨hf',e'⟩ | ⟨hf',d1',p',r1',hd',g1',g2',g3'⟩
    ·exact y8x hB (LRel.ite hk hk' hq hq' hp hL0 hL1 hE hL) (List.cons_ne_nil _ _) h ho hr hf' e'
    have hpp:=hp _ _ _ _ hI g1 g1'
    obtain ⟨a0,q,r2,t1,t2,t3,t4⟩:=ze3 g2 (by rw [hk];rfl)
    obtain ⟨a0',q',r2',t1',t2',t3',t4'⟩:=ze3 g2' (by rw [hk'];rfl)
    rw [t1,t1'] at hpp
    obtain rfl:=Option.some.inj hpp
    have h2:=hr.dec oM0
    obtain ⟨o1,o2⟩:=z41 ho hf
    obtain ⟨o1',o2'⟩:=z41 ho' hf'
    have R2:RR m N E2 r2 r2':=by
      rw [hq] at t2
      rw [hq'] at t2'
      by_cases c0:(a0' != 0)=true
      ·rw [if_pos c0] at t2 t2'
       obtain rfl:q0=q:=by simpa using t2
       obtain rfl:q0'=q':=by simpa using t2'
       exact ih0 d1' a b _ _ r2 r2' ⟨d1,r2,by omega,t3,by split<;>rfl⟩ ⟨d1',r2',Nat.le_refl _,t3',by split<;>rfl⟩ o1 o1' (h2.weak (Nat.le_refl _) (by simp [ksz];omega) (Nat.le_refl _)) (by simp [ksz];omega) hI
      rw [if_neg c0] at t2 t2'
      obtain rfl:q1=q:=by simpa using t2
      obtain rfl:q1'=q':=by simpa using t2'
      exact ih1 d1' a b _ _ r2 r2' ⟨d1,r2,by omega,t3,by split<;>rfl⟩ ⟨d1',r2',Nat.le_refl _,t3',by split<;>rfl⟩ o1 o1' (h2.weak (Nat.le_refl _) (by simp [ksz];omega) (Nat.le_refl _)) (by simp [ksz];omega) hI
    have x1:=(z6p hB t3 o1).ok
    have x1':=(z6p hB t3' o1').ok
    have SS:∀ {x:Nd} {r2 r1:Rres},(if !z12 r2.2.2&&r2.1.1==12 then (mSet r2.2.1 x.outs r2.1.2).map fun v'=>(((0,[]),v',r2.2.2):Rres) else some r2)=some r1->r1.2.2=r2.2.2:=by
      intro x r2 r1 h
      split at h
      ·obtain ⟨w,_,rfl⟩:=Option.map_eq_some_iff.1 h;rfl
      cases h;rfl
    have e1:=SS t4
    have e1':=SS t4'
    have R:RN m N J (fun n=>K=[]∨n=15) E r1 r1':=by
      cases R2 with
      | halt hh=>exact .halt (by rw [e1,e1'];exact hh)
      | cut hh=>exact .cut (by rw [e1,e1'];exact hh)
      | ok ek eE hr2 =>
        rw [z0u hr2.al.l] at t4
        rw [z0u hr2.al.l',ek] at t4'
        obtain ⟨⟨n,pp⟩,va,sa⟩:=r2
        obtain ⟨⟨n',pp'⟩,vb,sb⟩:=r2'
        obtain rfl:n'=n:=ek
        rcases hE _ _ _ _ _ eE with ⟨rfl,h12⟩ | ⟨n12,n0,hKn,hEE⟩
        ·obtain ⟨w,g5,rfl⟩:=Option.map_eq_some_iff.1 t4
         obtain ⟨w',g5',rfl⟩:=Option.map_eq_some_iff.1 t4'
         exact .go rfl rfl hr2 (h12 _ _ g5 g5')
        have c:(!false&&n'==12)=false:=by simpa using n12
        simp only [c] at t4 t4'
        cases t4;cases t4'
        exact .fin n0 rfl hKn hr2 hEE
    exact y0n hB g3 g3' (by rw [e1];exact x1) (by rw [e1'];exact x1') R (fun _ h=>h) oM0 ih
  | @loop k c I I2 J E2 x x' q q' l K l' E hk hk' hq hq' hI2 hL2 hE hL ih2 ih =>
    intro D' a b s s' r r' h h' ho ho' hr hN hI
    have hs:=z8u x
    have ez:lsz (x::l)=nsz x+lsz l:=rfl
    have ezx:nsz x=1+(lsz q+0):=by rw [zz2,hq];rfl
    rcases zm5 hB h ho hr.al.l with ⟨hf,e⟩ | ⟨hf,d1,p,r1,hd,g1,g2,g3⟩
    ·exact zw8 hr oM0 hf ho'.1 (h'.out hB ho') e
    rcases zm5 hB h' ho' hr.al.l' with ⟨hf',e'⟩ | ⟨hf',d1',p',r1',hd',g1',g2',g3'⟩
    ·exact y8x hB (LRel.loop hk hk' hq hq' hI2 hL2 hE hL) (List.cons_ne_nil _ _) h ho hr hf' e'
    have t:=z5z g2 (by rw [hk];rfl)
    have t':=z5z g2' (by rw [hk'];rfl)
    have h2:=hr.dec oM0
    obtain ⟨o1,_⟩:=z41 ho hf
    obtain ⟨o1',_⟩:=z41 ho' hf'
    have R:=y6h hB hq hq' oM0 ih2 hE d1 d1' a b p p' _ _ r1 r1' oM0 t t' o1 o1' (h2.weak (Nat.le_refl _) oM0 (Nat.le_refl _)) fun a2 b2=>hI2 a b p p' a2 b2 hI g1 g1'
    exact y0n hB g3 g3' (zd1 hB t o1).ok (zd1 hB t' o1').ok R (fun n hn=>.inr hn) oM0 ih
  | @ender I x x' l K l' E h1 h2 hkk hKn hE =>
    intro D' a b s s' r r' h h' ho ho' hr hN hI
    have hs:=z8u x
    have ez:lsz (x::l)=nsz x+lsz l:=rfl
    rcases zh8 hB h1 h2 h ho hr.al.l with ⟨hf,e⟩ | ⟨hf,p,g1,g2⟩
    ·exact zw8 hr oM0 hf ho'.1 (h'.out hB ho') e
    rcases zh8 hB (by rw [hkk];exact h1) (by rw [hkk];exact h2) h' ho' hr.al.l' with ⟨hf',e'⟩ | ⟨hf',p',g1',g2'⟩
    ·exact y8x (l':=x'::l') hB (LRel.ender h1 h2 hkk hKn hE) (List.cons_ne_nil _ _) h ho hr hf' e'
    obtain rfl:r'=((x'.kind,p'),b,dec s'):=g2'
    obtain rfl:r=((x.kind,p),a,dec s):=by
      rcases hKn with rfl | k15
      ·exact g2
      cases K with
      | nil=>exact g2
      | cons f K=>unfold KFin at g2;rw [show (((x.kind,p),a,dec s):Rres).1.1=15 from k15,if_pos rfl] at g2;exact g2
    exact .ok hkk (hE _ _ _ _ hI g1 g1') (hr.dec oM0)
  | @once k c I J x q l K l' E hk hq hJ hL ih =>
    intro D' a b s s' r r' h h' ho ho' hr hN hI
    have ez:lsz (x::l)=nsz x+lsz l:=rfl
    have ezx:nsz x=1+(lsz q+0):=by rw [zz2,hq];rfl
    have ek:ksz (⟨14,x.outs,l⟩::K)=lsz l+ksz K:=rfl
    rcases y2x hB hk hq h ho hr.al.l with ⟨hf,e⟩ | ⟨hf,p,a2,g1,g2,g3⟩
    ·exact zw8 hr oM0 hf ho'.1 (h'.out hB ho') e
    exact ih D' a2 b _ _ r r' g3 h' (z41 ho hf).1 ho' ⟨⟨hr.al.l,hr.al.l',hr.al.ins,hr.al.ar,hr.al.out,hr.al.code⟩,(hr.g.weak (Nat.le_refl _) (w2:=lsz q+(lsz l+ksz K)+1) oM0).left,hr.co⟩ oM0 (hJ _ _ _ _ hI g1 g2)
  | @leave k c I J y l f K l' E hk hk2 hJ hL ih =>
    intro D' a b s s' r r' h h' ho ho' hr hN hI
    have hs:=z8u y
    have ez:lsz (y::l)=nsz y+lsz l:=rfl
    have ek:ksz (f::K)=lsz f.rest+ksz K:=rfl
    rcases zy7 hB hk hk2 h ho hr.al.l with ⟨hf,e⟩ | ⟨hf,p,a2,g1,g2,g3⟩
    ·exact zw8 hr oM0 hf ho'.1 (h'.out hB ho') e
    exact ih D' a2 b _ _ r r' g3 h' (z41 ho hf).1 ho' ⟨⟨hr.al.l,hr.al.l',hr.al.ins,hr.al.ar,hr.al.out,hr.al.code⟩,(hr.g.weak (Nat.le_refl _) (w2:=lsz f.rest+ksz K+1) oM0).left,hr.co⟩ oM0 (hJ _ _ _ _ hI g1 g2)
  | @fork k c I x q0 q1 l K l' E hk hq hL0 hL1 ih0 ih1 =>
    intro D' a b s s' r r' h h' ho ho' hr hN hI
    have ez:lsz (x::l)=nsz x+lsz l:=rfl
    have ezx:nsz x=1+(lsz q0+(lsz q1+0)):=by rw [zz2,hq];rfl
    have ek:ksz (⟨12,x.outs,l⟩::K)=lsz l+ksz K:=rfl
    rcases y2b hB hk hq h ho hr.al.l with ⟨hf,e⟩ | ⟨hf,q,hq',g3⟩
    ·exact zw8 hr oM0 hf ho'.1 (h'.out hB ho') e
    rcases hq' with rfl | rfl
    ·exact ih0 D' a b _ _ r r' g3 h' (z41 ho hf).1 ho' ⟨⟨hr.al.l,hr.al.l',hr.al.ins,hr.al.ar,hr.al.out,hr.al.code⟩,(hr.g.weak (Nat.le_refl _) (w2:=lsz q+(lsz l+ksz K)+1) oM0).left,hr.co⟩ oM0 hI
    exact ih1 D' a b _ _ r r' g3 h' (z41 ho hf).1 ho' ⟨⟨hr.al.l,hr.al.l',hr.al.ins,hr.al.ar,hr.al.out,hr.al.code⟩,(hr.g.weak (Nat.le_refl _) (w2:=lsz q+(lsz l+ksz K)+1) oM0).left,hr.co⟩ oM0 hI
def EF:ER:=fun _ p p' _ _=>p'.headD 0=p.headD 0
def FRel (N:Nat) (f g:Fl):Prop:=g.types.length=f.types.length/\lsz f.body<=N/\LRel 0 0 (fun a b=>a=b/\a.length=f.types.length) f.body [] g.body EF
theorem y1x (hB:B<=4611686018427387903) (hA:v.arrays=u.arrays) (hP:∀ name,z03 name v.flows 0=z03 name u.flows 0)
    (hF:∀ (i:Nat) f g,u.flows[i]? = some f->v.flows[i]? = some g->FRel N f g):∀ D,HCall u v D B m N
  | 0=>fun e _ _ _ _ _ _ _ h=>absurd h (Nat.not_lt_zero e)
  | D+1=>by
    intro e e' k p s s' q q' he h h' ho ho' hr
    have HC:=y1x hB hA hP hF D
    obtain ⟨d1,f,r1,rfl,hk,hf,hl1,_,h1,rfl⟩:=z5y h
    obtain ⟨d1',g,r1',rfl,_,hg,hl1',_,h1',rfl⟩:=z5y h'
    obtain ⟨ht,hsz,hL⟩:=hF _ _ _ hf hg
    have R:=sound hB hA hP HC hL d1' _ _ s s' r1 r1' ⟨d1,r1,by omega,h1,by split<;>rfl⟩ ⟨d1',r1',Nat.le_refl _,h1',by split<;>rfl⟩ ho ho' (hr.weak (Nat.le_refl _) (by simp [ksz];omega) (Nat.le_refl _)) (by simp [ksz];omega) ⟨by rw [ht],by simp;omega⟩
    cases R with
    | ok ek eE hr2 =>
      refine .ok ?_ hr2
      rw [z0u hr2.al.l,z0u hr2.al.l']
      exact eE
    | halt hh=>exact .halt hh
    | cut hc=>exact .cut hc
end
end
section
variable {P:Program} {c:Cx} {fr:Fr} {hp:Hp} {Q:Exit->Fr->Heap'->Prop}
def ISub (x y:IV):Prop:=∀ F ρ σ w v,RepI F ρ σ w x v->RepI F ρ σ w y v
theorem ISub.refl (x:IV):ISub x x:=fun _ _ _ _ _ h=>h
theorem ISub.pv {p q:PV} (h:PSub p q):ISub (.pv p) (.pv q):=fun _ _ _ _ _ hv=>z4w h hv
def ISubs:List IV->List IV->Prop
  | [],[]=>True
  | x::xs,y::ys=>ISub x y/\ISubs xs ys
  | _,_=>False
theorem ISubs.length:∀ {xs ys:List IV},ISubs xs ys->xs.length=ys.length
  | [],[],_=>rfl
  | _::_,_::_,h=>congrArg (· + 1) (ISubs.length h.2)
theorem ISubs.at:∀ {xs ys:List IV},ISubs xs ys->∀ {j:Nat} {y:IV},ys[j]? = some y->∃ x,xs[j]? = some x/\ISub x y
  | [],[],_,_,_,hj=>by simp at hj
  | x::xs,y::ys,h,0,y',hj=>by simp at hj;subst hj;exact ⟨x,rfl,h.1⟩
  | x::xs,y::ys,h,j+1,y',hj=>by simpa using ISubs.at h.2 (by simpa using hj)
theorem All.subBox {ρ:Loc} {w:World} {a:Act} {k:Nat} {cs cs':List IV} (h:All c ρ (look hp) w fr a) (hk:look hp k=some (.box cs)) (hs:ISubs cs cs') (hR:¬ c.R k):All c ρ (look ((k,some (.box cs'))::hp)) w fr a:=by
  cases hρ:ρ k with
  | none=>obtain ⟨s,hs⟩:=h.rel.real k _ hk hρ;cases hs
  | some bc =>
    obtain ⟨b,cc⟩:=bc
    obtain ⟨o,ho,hro⟩:=h.rel.obj k b cc hρ
    rw [hk] at ho;cases ho
    refine h.write hρ hk trivial hR rfl rfl rfl rfl (fun _ _=>rfl) fun hI _=>?_
    cases hro with
    | box _ e a' u h1 h2 h3 h4 =>
      refine .box _ e a' u h1 (hs.length ▸ h2) (fun j x hj=>?_) fun j x hj=>?_
      ·obtain ⟨x0,h5,_⟩:=hs.at hj
       exact h3 j x0 h5
      obtain ⟨x0,h5,h6⟩:=hs.at hj
      exact h6 _ _ _ _ _ (hI _ _ (h4 j x0 h5))
theorem Tr.subBox {x:Code} {k:Nat} {cs:List IV} (cs':List IV) (hk:look hp k=some (.box cs)) (hs:ISubs cs cs') (hR:¬ c.R k) (h:Tr P c x fr (look ((k,some (.box cs'))::hp)) Q):Tr P c x fr (look hp) Q :=
  fun _ w a ha=>h _ w a (ha.subBox hk hs hR)
theorem ok_max {R1:Nat->Prop} {o:Oper} {σ:Heap'} {t:TypeId} {x y:Operand} {k:IntKind} {m n:Int} (ho:o.op = .call { callee:=.builtin .max,args:=#[x,y],argTypes:=#[t,t] }) (hx:fr.ev x=some (.pv (.val (.int k m)))) (hy:fr.ev y=some (.pv (.val (.int k n)))) :
    OkV P c R1 o fr σ (.pv (.val (.int k (if m<n then n else m)))):=by
  intro ρ w a h
  refine ⟨.int k (if m<n then n else m),fun w2 _=>?_,z32 _⟩
  simp [execOp,ho,z0w h hx,z0w h hy,resolve,invoke,builtin,Builtin.max_,Builtin.max2]
end
section
def sw (a b k:Nat):Nat:=bif Nat.beq k a then b else bif Nat.beq k b then a else k
theorem sw_sw (a b k:Nat):sw a b (sw a b k)=k:=by
  unfold sw
  by_cases h1:k=a
  ·subst h1
   have e1:Nat.beq k k=true:=Nat.beq_refl k
   simp only [e1,cond_true]
   by_cases h2:b=k
   ·subst h2;simp
   have e2:Nat.beq b k=false:=z0c h2
   have e3:Nat.beq b b=true:=Nat.beq_refl b
   simp [e2,e3]
  have e1:Nat.beq k a=false:=z0c h1
  simp only [e1,cond_false]
  by_cases h2:k=b
  ·subst h2
   simp
  have e2:Nat.beq k b=false:=z0c h2
  simp [e1,e2]
mutual
def IV.ren (p:Nat->Nat):IV->IV
  | .pv x=>.pv x
  | .ptr k off=>.ptr (p k) off
  | .sl k len=>.sl (p k) len
  | .rpt k len off=>.rpt (p k) len off
  | .bs k n=>.bs (p k) n
  | .mp k=>.mp (p k)
  | .agg cs=>.agg (renL p cs)
  | .tup cs=>.tup (renL p cs)
  | .fn f xs ys=>.fn f (renL p xs) (renL p ys)
def renL (p:Nat->Nat):List IV->List IV
  | []=>[]
  | x::r=>x.ren p::renL p r
end
theorem zo1 (p:Nat->Nat):∀ xs:List IV,renL p xs=xs.map (IV.ren p)
  | []=>rfl
  | x::r=>by simp [renL,zo1 p r]
theorem z51 {p:Nat->Nat} {xs:List IV} {j:Nat} {c:IV} (h:(renL p xs)[j]? = some c):∃ x,xs[j]? = some x/\c=x.ren p:=by
  rw [zo1,List.getElem?_map,Option.map_eq_some_iff] at h
  obtain ⟨x,h1,rfl⟩:=h
  exact ⟨x,h1,rfl⟩
theorem z9o (p:Nat->Nat) (xs:List IV):(renL p xs).length=xs.length:=by rw [zo1,List.length_map]
def HO.ren (p:Nat->Nat):HO->HO
  | .box cs=>.box (renL p cs)
  | .row s els=>.row s els
  | .map es=>.map es
def renP (p:Nat->Nat) (l:List (Nat × HO)):List (Nat × HO):=l.map fun x=>(p x.1,x.2.ren p)
section
variable {p:Nat->Nat} (hp:∀ k,p (p k)=k) {F:Nat->Prop} {ρ:Loc} {σ σ':Heap'} {w:World}
include hp
theorem zs3 {b:Nat}:owned F (fun k=>ρ (p k)) b↔owned F ρ b:=by
  constructor
  ·rintro (h | ⟨k,c,h⟩)
   ·exact .inl h
   exact .inr ⟨p k,c,h⟩
  rintro (h | ⟨k,c,h⟩)
  ·exact .inl h
  exact .inr ⟨p k,c,by show ρ (p (p k))=_;rw [hp];exact h⟩
theorem y0y (hσ:∀ k,σ' (p k)=(σ k).map (HO.ren p)) {x:IV} {v:Value} (h:RepI F ρ σ w x v):RepI F (fun k=>ρ (p k)) σ' w (x.ren p) v:=by
  induction h with
  | pv q v h=>exact .pv q v (h.own fun b hb=>(zs3 hp).1 hb)
  | ptr k off v h =>
    refine .ptr _ off v fun cs' h'=>?_
    rw [hσ,Option.map_eq_some_iff] at h'
    obtain ⟨o,h1,h2⟩:=h'
    cases o with
    | box cs=>obtain ⟨b,c,h3,h4⟩:=h cs h1;exact ⟨b,c,by rw [hp];exact h3,h4⟩
    | row=>cases h2
    | map=>cases h2
  | sl k len v h =>
    refine .sl _ len v fun s els h'=>?_
    rw [hσ,Option.map_eq_some_iff] at h'
    obtain ⟨o,h1,h2⟩:=h'
    cases o with
    | row s' els'=>cases h2;rw [hp];exact h _ _ h1
    | box=>cases h2
    | map=>cases h2
  | rpt k len off v h =>
    refine .rpt _ len off v fun s els h'=>?_
    rw [hσ,Option.map_eq_some_iff] at h'
    obtain ⟨o,h1,h2⟩:=h'
    cases o with
    | row s' els'=>cases h2;rw [hp];exact h _ _ h1
    | box=>cases h2
    | map=>cases h2
  | bs k n v h =>
    refine .bs _ n v fun cs' h'=>?_
    rw [hσ,Option.map_eq_some_iff] at h'
    obtain ⟨o,h1,h2⟩:=h'
    cases o with
    | box cs=>obtain ⟨b,c,h3,h4⟩:=h cs h1;exact ⟨b,c,by rw [hp];exact h3,h4⟩
    | row=>cases h2
    | map=>cases h2
  | mp k v h =>
    refine .mp _ v fun es h'=>?_
    rw [hσ,Option.map_eq_some_iff] at h'
    obtain ⟨o,h1,h2⟩:=h'
    cases o with
    | map es'=>cases h2;rw [hp];exact h _ h1
    | row=>cases h2
    | box=>cases h2
  | agg cs vs u hl hv _ ih =>
    refine .agg _ vs u (by rw [z9o];exact hl) (fun j c hj=>?_) fun j c hj=>?_
    ·obtain ⟨x,h1,rfl⟩:=z51 hj;exact hv j x h1
    obtain ⟨x,h1,rfl⟩:=z51 hj;exact ih j x h1
  | tup cs vs u hl hv _ ih =>
    refine .tup _ vs u (by rw [z9o];exact hl) (fun j c hj=>?_) fun j c hj=>?_
    ·obtain ⟨x,h1,rfl⟩:=z51 hj;exact hv j x h1
    obtain ⟨x,h1,rfl⟩:=z51 hj;exact ih j x h1
  | fn f xs ys vs ws u t hl hv _ hl' hv' _ ih ih' =>
    refine .fn f _ _ vs ws u t (by rw [z9o];exact hl) (fun j c hj=>?_) (fun j c hj=>?_) (by rw [z9o];exact hl') (fun j c hj=>?_) fun j c hj=>?_
    ·obtain ⟨x,h1,rfl⟩:=z51 hj;exact hv j x h1
    ·obtain ⟨x,h1,rfl⟩:=z51 hj;exact ih j x h1
    ·obtain ⟨x,h1,rfl⟩:=z51 hj;exact hv' j x h1
    obtain ⟨x,h1,rfl⟩:=z51 hj;exact ih' j x h1
mutual
theorem yd8:∀ x:IV,(x.ren p).ren p=x
  | .pv _=>rfl
  | .ptr k off=>by simp only [IV.ren,hp]
  | .sl k len=>by simp only [IV.ren,hp]
  | .rpt k len off=>by simp only [IV.ren,hp]
  | .bs k n=>by simp only [IV.ren,hp]
  | .mp k=>by simp only [IV.ren,hp]
  | .agg cs=>by simp only [IV.ren,z7e cs]
  | .tup cs=>by simp only [IV.ren,z7e cs]
  | .fn f xs ys=>by simp only [IV.ren,z7e xs,z7e ys]
theorem z7e:∀ xs:List IV,renL p (renL p xs)=xs
  | []=>rfl
  | x::r=>by simp only [renL,yd8 x,z7e r]
end
theorem HO.ren_ren (o:HO):(o.ren p).ren p=o:=by cases o<;>simp [HO.ren,z7e hp]
theorem repO_ren (hσ:∀ k,σ' (p k)=(σ k).map (HO.ren p)) {b c:Nat} {o:HO} (h:RepO F ρ σ w b c o):RepO F (fun k=>ρ (p k)) σ' w b c (o.ren p):=by
  cases h with
  | box cs e a u h1 h2 h3 h4 =>
    refine .box _ e a u h1 (by rw [z9o];exact h2) (fun j x hj=>?_) fun j x hj=>?_
    ·obtain ⟨y,h5,rfl⟩:=z51 hj;exact h3 j y h5
    obtain ⟨y,h5,rfl⟩:=z51 hj;exact y0y hp hσ (h4 j y h5)
  | row s els a u h1 h2 h3 h4 h5 h6 h7=>exact .row s els a u h1 h2 h3 h4 h5 h6 fun i el hi j x hj=>(h7 i el hi j x hj).own fun b hb=>(zs3 hp).1 hb
  | map es a t u h1 h2 h3 h4=>exact .map es a t u h1 h2 h3 fun i k q hi=>(h4 i k q hi).own fun b hb=>(zs3 hp).1 hb
theorem y6t (hσ:∀ k,σ' (p k)=(σ k).map (HO.ren p)) (h:RelH F ρ σ w):RelH F (fun k=>ρ (p k)) σ' w where
  inj k k' b c c' h1 h2:=by
    have:=h.inj _ _ _ _ _ h1 h2
    rw [<- hp k,this,hp]
  apart k b c h1:=h.apart _ _ _ h1
  old:=h.old
  obj k b c h1:=by
    obtain ⟨o,h2,h3⟩:=h.obj _ _ _ h1
    refine ⟨o.ren p,?_,repO_ren hp hσ h3⟩
    have:=hσ (p k)
    rw [hp,h2] at this
    exact this
  real k o h1 h2:=by
    have h3:=hσ (p k)
    rw [hp,h1] at h3
    obtain ⟨o',h4,h5⟩:=Option.map_eq_some_iff.1 h3.symm
    obtain ⟨s,rfl⟩:=h.real _ _ h4 h2
    exact ⟨s,h5.symm⟩
end
theorem yi9 {p:Nat->Nat} (hp:∀ k,p (p k)=k) {F R:Nat->Prop} {ρ ρ1:Loc} {σ σ1 τ τ1:Heap'} {w w':World} (hσ:∀ k,τ (p k)=(σ k).map (HO.ren p)) (hσ1:∀ k,τ1 (p k)=(σ1 k).map (HO.ren p)) (t:Trans F R ρ σ w ρ1 σ1 w') :
    Trans F (fun k=>R (p k)) (fun k=>ρ (p k)) τ w (fun k=>ρ1 (p k)) τ1 w' where
  os:=t.os
  tape:=t.tape
  output:=t.output
  size:=t.size
  blk b hb h:=t.blk b hb fun k c hk=>by
    have:=h (p k) c (by rw [hp];exact hk)
    rwa [hp] at this
  own k b c h hb:=t.own _ b c h hb
  box k cs cs' h h':=by
    have e:=hσ (p k);have e':=hσ1 (p k)
    rw [hp,h] at e;rw [hp,h'] at e'
    obtain ⟨o,h1,h2⟩:=Option.map_eq_some_iff.1 e.symm
    obtain ⟨o',h3,h4⟩:=Option.map_eq_some_iff.1 e'.symm
    cases o with
    | box cs0=>cases o' with
      | box cs1=>exact t.box _ _ _ h1 h3
      | row=>cases h4
      | map=>cases h4
    | row=>cases h2
    | map=>cases h2
  map k cs cs' h h':=by
    have e:=hσ (p k);have e':=hσ1 (p k)
    rw [hp,h] at e;rw [hp,h'] at e'
    obtain ⟨o,h1,h2⟩:=Option.map_eq_some_iff.1 e.symm
    obtain ⟨o',h3,h4⟩:=Option.map_eq_some_iff.1 e'.symm
    cases o with
    | map cs0=>cases o' with
      | map cs1=>exact t.map _ _ _ h1 h3
      | row=>cases h4
      | box=>cases h4
    | row=>cases h2
    | box=>cases h2
  row k s s' els els' h h' hl:=by
    have e:=hσ (p k);have e':=hσ1 (p k)
    rw [hp,h] at e;rw [hp,h'] at e'
    obtain ⟨o,h1,h2⟩:=Option.map_eq_some_iff.1 e.symm
    obtain ⟨o',h3,h4⟩:=Option.map_eq_some_iff.1 e'.symm
    cases o with
    | row s0 cs0=>cases o' with
      | row s1 cs1=>cases h2;cases h4;exact t.row _ _ _ _ _ h1 h3 hl
      | map=>cases h4
      | box=>cases h4
    | map=>cases h2
    | box=>cases h2
  grow k s s' els els' h h':=by
    have e:=hσ (p k);have e':=hσ1 (p k)
    rw [hp,h] at e;rw [hp,h'] at e'
    obtain ⟨o,h1,h2⟩:=Option.map_eq_some_iff.1 e.symm
    obtain ⟨o',h3,h4⟩:=Option.map_eq_some_iff.1 e'.symm
    cases o with
    | row s0 cs0=>cases o' with
      | row s1 cs1=>cases h2;cases h4;exact t.grow _ _ _ _ _ h1 h3
      | map=>cases h4
      | box=>cases h4
    | map=>cases h2
    | box=>cases h2
  kindB k cs' h':=by
    have e':=hσ1 (p k);have e:=hσ (p k)
    rw [hp,h'] at e';rw [hp] at e
    obtain ⟨o',h3,h4⟩:=Option.map_eq_some_iff.1 e'.symm
    cases o' with
    | box cs1 =>
      rcases t.kindB _ _ h3 with h5 | ⟨cs,h5⟩
      ·rw [h5] at e;exact .inl e
      rw [h5] at e;exact .inr ⟨_,e⟩
    | row=>cases h4
    | map=>cases h4
  kindM k cs' h':=by
    have e':=hσ1 (p k);have e:=hσ (p k)
    rw [hp,h'] at e';rw [hp] at e
    obtain ⟨o',h3,h4⟩:=Option.map_eq_some_iff.1 e'.symm
    cases o' with
    | map cs1 =>
      rcases t.kindM _ _ h3 with h5 | ⟨cs,h5⟩
      ·rw [h5] at e;exact .inl e
      rw [h5] at e;exact .inr ⟨_,e⟩
    | row=>cases h4
    | box=>cases h4
  kindR k s cs' h':=by
    have e':=hσ1 (p k);have e:=hσ (p k)
    rw [hp,h'] at e';rw [hp] at e
    obtain ⟨o',h3,h4⟩:=Option.map_eq_some_iff.1 e'.symm
    cases o' with
    | row s1 cs1 =>
      cases h4
      rcases t.kindR _ _ _ h3 with h5 | ⟨cs,h5⟩
      ·rw [h5] at e;exact .inl e
      rw [h5] at e;exact .inr ⟨_,e⟩
    | map=>cases h4
    | box=>cases h4
theorem beq_ren {p:Nat->Nat} (hp:∀ k,p (p k)=k) (a k:Nat):Nat.beq (p a) (p k)=Nat.beq a k:=by
  by_cases h:a=k
  ·subst h;simp
  rw [z0c h,z0c fun e=>h (by rw [<- hp a,e,hp])]
theorem z9f {p:Nat->Nat} (hp:∀ k,p (p k)=k):∀ (l:List (Nat × HO)) (k:Nat),look (up (renP p l)) (p k)=(look (up l) k).map (HO.ren p)
  | [],_=>rfl
  | (a,o)::r,k=>by
    simp only [renP,up,List.map_cons,look]
    rw [beq_ren hp]
    cases Nat.beq a k with
    | true=>rfl
    | false=>exact z9f hp r k
theorem SC.ren {P:Program} {p:Nat->Nat} (hp:∀ k,p (p k)=k) {f:FuncId} {args:List IV} {pre post:List (Nat × HO)} {R:Nat->Prop} {r:IV} (h:SC P f args pre R r post):SC P f (renL p args) (renP p pre) (fun k=>R (p k)) (r.ren p) (renP p post):=by
  intro F ρ w vs hrel hargs
  have hb:∀ (l:List (Nat × HO)) (k:Nat),look (up l) (p k)=(look (up (renP p l)) k).map (HO.ren p):=by
    intro l k
    have:=z9f hp l (p k)
    rw [hp] at this
    rw [this]
    cases look (up l) (p k) with
    | none=>rfl
    | some o=>exact congrArg some (HO.ren_ren hp o).symm
  have h1:RelH F (fun k=>ρ (p k)) (look (up pre)) w:=y6t hp (hb pre) hrel
  have h2:RepL F (fun k=>ρ (p k)) (look (up pre)) w args vs:=by
    refine ⟨by rw [<- hargs.1,z9o],fun j x hj=>?_⟩
    obtain ⟨v,h3,h4⟩:=hargs.2 j (x.ren p) (by rw [zo1,List.getElem?_map,hj];rfl)
    have h5:=y0y hp (hb pre) h4
    rw [yd8 hp] at h5
    exact ⟨v,h3,h5⟩
  refine Calls.mono (h F _ w vs h1 h2) fun e w' hq=>?_
  obtain ⟨ρ',v,h3,h4,h5,h6⟩:=hq
  refine ⟨fun k=>ρ' (p k),v,h3,y0y hp (z9f hp post) h4,y6t hp (z9f hp post) h5,?_⟩
  have:=yi9 hp (z9f hp pre) (z9f hp post) h6
  simpa only [hp] using this
theorem SC.sw {P:Program} {f:FuncId} {args:List IV} {pre post:List (Nat × HO)} {R:Nat->Prop} {r:IV} (a b:Nat) (h:SC P f args pre R r post):SC P f (renL (sw a b) args) (renP (sw a b) pre) (fun k=>R (Proofs.YtiflpehjefhnmaaGreat.sw a b k)) (r.ren (Proofs.YtiflpehjefhnmaaGreat.sw a b)) (renP (Proofs.YtiflpehjefhnmaaGreat.sw a b) post):=h.ren (sw_sw a b)
end
section
section
variable {α β:Type} [DecidableEq α]
end
structure Ky where
  kind:Int
  op:Int
  n:Int
  a:Int
  b:Int
  deriving DecidableEq
abbrev TT:=List (Int × Int)
structure Tb where
  seen:List (Ky × Int)
  nums:TT
end
section
variable {P:Program} {c:Cx} {R1:Nat->Prop} {o:Oper} {fr:Fr} {hp:Hp} {σ:Heap'} {Q:Exit->Fr->Heap'->Prop}
theorem Names.one {Q:Nat->Prop} {x:IV} (h:Names Q x):∃ k,Q k/\Names (· = k) x:=by
  induction h with
  | ptr h=>exact ⟨_,h,.ptr rfl⟩
  | sl h=>exact ⟨_,h,.sl rfl⟩
  | rpt h=>exact ⟨_,h,.rpt rfl⟩
  | bs h=>exact ⟨_,h,.bs rfl⟩
  | mp h=>exact ⟨_,h,.mp rfl⟩
  | agg hc _ ih=>obtain ⟨k,h1,h2⟩:=ih;exact ⟨k,h1,.agg hc h2⟩
  | tup hc _ ih=>obtain ⟨k,h1,h2⟩:=ih;exact ⟨k,h1,.tup hc h2⟩
  | fn1 hc _ ih=>obtain ⟨k,h1,h2⟩:=ih;exact ⟨k,h1,.fn1 hc h2⟩
  | fn2 hc _ ih=>obtain ⟨k,h1,h2⟩:=ih;exact ⟨k,h1,.fn2 hc h2⟩
open Classical in
theorem SC.stepN {ns:List Nat} {f:FuncId} {args:List IV} {pre post:List (Nat × HO)} {R:Nat->Prop} {r:IV} {hp:Hp} {ρ:Loc} {w:World} {a:Act} {vs:List Value} (hsc:SC P f args pre R r post)
    (h:All c ρ (look hp) w fr a) (hargs:RepL c.F ρ (look hp) w args vs) (hpre:∀ k o,look (up pre) k=some o->look hp k=some o) (hdom:post.map (·.1)=ns++pre.map (·.1)) (hσ0:∀ k∈ns,look hp k=none) (hc0:∀ k∈ns,c.σ k=none) (hfr0:∀ k∈ns,nmFr k fr=false) (hhp0:∀ k∈ns,nmHp k hp=false)
    (hR:∀ k,c.R k->look (up pre) k=none∨R k) (hr:only (post.map (·.1)) r=true) (hpost:z2u (post.map (·.1)) post=true) :
    Calls P f vs.toArray w fun e w'=>∃ ρ' v,e = .returned v/\All c ρ' (look (up post++hp)) w' fr a/\RepI c.F ρ' (look (up post++hp)) w' r v:=by
  have hd:∀ k,look (up post) k=none↔look (up pre) k=none/\k∉ns:=fun k=>by
    rw [z1d,z1d,hdom,List.mem_append,not_or]
    exact And.comm
  have hpp:∀ k,look (up post) k≠none->look hp k≠none->look (up pre) k≠none:=fun k e e1 e2=>by
    by_cases e3:k∈ns
    ·exact e1 (hσ0 k e3)
    exact e ((hd k).2 ⟨e2,e3⟩)
  let ρ1:Loc:=fun k=>if look (up pre) k=none then none else ρ k
  let F1:Nat->Prop:=fun b=>c.F b∨∃ k cc,ρ k=some (b,cc)/\look (up pre) k=none
  have h1in:∀ k,look (up pre) k≠none -> ρ1 k = ρ k:=fun k hk=>if_neg hk
  have h1out:∀ k,look (up pre) k=none -> ρ1 k=none:=fun k hk=>if_pos hk
  have h1:∀ k l,ρ1 k=some l->look (up pre) k≠none /\ ρ k=some l:=fun k l hk=>by
    by_cases e:look (up pre) k=none
    ·rw [h1out k e] at hk;cases hk
    exact ⟨e,(h1in k e) ▸ hk⟩
  have hown1:∀ b,owned F1 ρ1 b->owned c.F ρ b:=fun b hb=>by
    rcases hb with (hb | ⟨k,cc,hk,_⟩) | ⟨k,cc,hk⟩
    ·exact .inl hb
    ·exact .inr ⟨k,cc,hk⟩
    exact .inr ⟨k,cc,(h1 k _ hk).2⟩
  have hconv:∀ x:IV,¬ Names (fun k=>¬ ∀ o,look (up pre) k=some o->look hp k=some o /\ ρ1 k = ρ k) x:=fun x hx=>by
    obtain ⟨k,hk⟩:=hx.some
    exact hk fun o ho=>⟨hpre k o ho,h1in k (by simp [ho])⟩
  have hrel1:RelH F1 ρ1 (look (up pre)) w:=by
    refine ⟨fun k k' b cc cc' hk hk'=>h.rel.inj k k' b cc cc' (h1 _ _ hk).2 (h1 _ _ hk').2,fun k b cc hk hb=>?_,fun b hb=>?_,fun k b cc hk=>?_,fun k o hk hρ=>?_⟩
    ·rcases hb with hb | ⟨k',cc',hk',hn⟩
     ·exact h.rel.apart k b cc (h1 _ _ hk).2 hb
     obtain rfl:=h.rel.inj _ _ _ _ _ (h1 _ _ hk).2 hk'
     exact (h1 _ _ hk).1 hn
    ·rcases hb with hb | ⟨k',cc',hk',_⟩
     ·exact h.rel.old b hb
     exact h.rel.lt hk'
    ·obtain ⟨hne,hk2⟩:=h1 _ _ hk
     obtain ⟨o1,ho1,ho2⟩:=h.rel.obj k b cc hk2
     cases hl:look (up pre) k with
     | none=>exact absurd hl hne
     | some o2 =>
       rw [hpre k o2 hl] at ho1;cases ho1
       exact ⟨_,rfl,ho2.conv hown1 fun x _=>hconv x⟩
    rw [h1in k (by simp [hk])] at hρ
    exact h.rel.real k o (hpre k o hk) hρ
  refine (hsc F1 ρ1 w vs hrel1 ⟨hargs.1,fun j x hj=>?_⟩).mono ?_
  ·obtain ⟨v,hv,hx⟩:=hargs.2 j x hj
   exact ⟨v,hv,hx.conv hown1 (hconv x)⟩
  rintro e w' ⟨ρ2,v,rfl,hv,hrel2,t⟩
  let ρ':Loc:=fun k=>if look (up post) k=none then ρ k else ρ2 k
  have h2in:∀ k,look (up post) k≠none -> ρ' k = ρ2 k:=fun k hk=>if_neg hk
  have h2out:∀ k,look (up post) k=none -> ρ' k = ρ k:=fun k hk=>if_pos hk
  have h2none:∀ k,look (up post) k=none -> ρ2 k=none:=fun k hk=>by
    cases h3:ρ2 k with
    | none=>rfl
    | some l =>
      obtain ⟨o1,ho1,_⟩:=hrel2.obj k l.1 l.2 h3
      rw [hk] at ho1;cases ho1
  have hσin:∀ k,look (up post) k≠none->look (up post++hp) k=look (up post) k:=fun k hk=>by
    rw [z2b]
    cases h3:look (up post) k with
    | none=>exact absurd h3 hk
    | some o=>rfl
  have hσout:∀ k,look (up post) k=none->look (up post++hp) k=look hp k:=fun k hk=>by
    rw [z2b,hk];rfl
  have hown2:∀ b,owned c.F ρ' b->owned F1 ρ2 b:=fun b hb=>by
    rcases hb with hb | ⟨k,cc,hk⟩
    ·exact .inl (.inl hb)
    by_cases e:look (up post) k=none
    ·rw [h2out k e] at hk;exact .inl (.inr ⟨k,cc,hk,((hd k).1 e).1⟩)
    rw [h2in k e] at hk;exact .inr ⟨k,cc,hk⟩
  have hconv2:∀ x:IV,only (post.map (·.1)) x=true -> ¬ Names (fun k=>¬ ∀ o,look (up post++hp) k=some o->look (up post) k=some o /\ ρ' k = ρ2 k) x:=fun x hx hn=>by
    refine zj0 hx (hn.imp fun k hk hmem=>hk fun o ho=>?_)
    have hne:look (up post) k≠none:=fun e=>(z1d.1 e) hmem
    rw [hσin k hne] at ho
    exact ⟨ho,h2in k hne⟩
  have T:Trans c.F (fun k=>look (up pre) k=none∨R k) ρ (look hp) w ρ' (look (up post++hp)) w':=by
    refine ⟨t.os,t.tape,t.output,t.size,fun b hb hall=>t.blk b hb fun k cc hk=>?_,fun k b cc hk hb=>?_,fun k cs cs' e1 e2=>?_,fun k cs cs' e1 e2=>?_,fun k s s' els els' e1 e2 hl=>?_,fun k s s' els els' e1 e2=>?_,fun k cs' e2=>?_,fun k cs' e2=>?_,fun k s els' e2=>?_⟩
    ·obtain ⟨hne,hk2⟩:=h1 _ _ hk
     exact (hall k cc hk2).resolve_left hne
    ·by_cases e:look (up post) k=none
     ·rwa [h2out k e] at hk
     rw [h2in k e] at hk;exact (h1 _ _ (t.own k b cc hk hb)).2
    all_goals by_cases e:look (up post) k=none
    ·exact h2out k e
    ·cases h3:look (up pre) k with
     | none=>exact absurd h3 (hpp k e (by simp [e1]))
     | some o =>
       rw [hpre k o h3] at e1;cases e1
       rw [hσin k e] at e2
       rw [h2in k e,t.box k _ _ h3 e2,h1in k (by simp [h3])]
    ·exact h2out k e
    ·cases h3:look (up pre) k with
     | none=>exact absurd h3 (hpp k e (by simp [e1]))
     | some o =>
       rw [hpre k o h3] at e1;cases e1
       rw [hσin k e] at e2
       rw [h2in k e,t.map k _ _ h3 e2,h1in k (by simp [h3])]
    ·exact h2out k e
    ·cases h3:look (up pre) k with
     | none=>exact absurd h3 (hpp k e (by simp [e1]))
     | some o =>
       rw [hpre k o h3] at e1;cases e1
       rw [hσin k e] at e2
       rw [h2in k e,t.row k _ _ _ _ h3 e2 hl,h1in k (by simp [h3])]
    ·rw [hσout k e,e1] at e2;cases e2;exact Nat.le_refl _
    ·cases h3:look (up pre) k with
     | none=>exact absurd h3 (hpp k e (by simp [e1]))
     | some o =>
       rw [hpre k o h3] at e1;cases e1
       rw [hσin k e] at e2
       exact t.grow k _ _ _ _ h3 e2
    ·rw [hσout k e] at e2;exact .inr ⟨_,e2⟩
    ·rw [hσin k e] at e2
     rcases t.kindB k _ e2 with h3 | ⟨cs,h3⟩
     ·by_cases e3:k∈ns
      ·exact .inl (hσ0 k e3)
      exact absurd ((hd k).2 ⟨h3,e3⟩) e
     exact .inr ⟨cs,hpre k _ h3⟩
    ·rw [hσout k e] at e2;exact .inr ⟨_,e2⟩
    ·rw [hσin k e] at e2
     rcases t.kindM k _ e2 with h3 | ⟨cs,h3⟩
     ·by_cases e3:k∈ns
      ·exact .inl (hσ0 k e3)
      exact absurd ((hd k).2 ⟨h3,e3⟩) e
     exact .inr ⟨cs,hpre k _ h3⟩
    ·rw [hσout k e] at e2;exact .inr ⟨_,e2⟩
    rw [hσin k e] at e2
    rcases t.kindR k _ _ e2 with h3 | ⟨cs,h3⟩
    ·by_cases e3:k∈ns
     ·exact .inl (hσ0 k e3)
     exact absurd ((hd k).2 ⟨h3,e3⟩) e
    exact .inr ⟨cs,hpre k _ h3⟩
  have hnone:∀ k,(look hp k=none/\look (up post++hp) k≠none)->k∈ns:=fun k hk=>by
    by_cases e:look (up post) k=none
    ·rw [hσout k e] at hk;exact absurd hk.1 hk.2
    refine Classical.byContradiction fun e3=>?_
    have e4:look (up pre) k≠none:=fun h3=>e ((hd k).2 ⟨h3,e3⟩)
    cases h3:look (up pre) k with
    | none=>exact e4 h3
    | some o=>rw [hpre k o h3] at hk;cases hk.1
  have hnn:∀ x:IV,(∀ k∈ns,nm k x=false) -> ¬ Names (fun k=>look hp k=none/\look (up post++hp) k≠none) x:=fun x hx hn=>by
    obtain ⟨k,hk,hk2⟩:=(hn.imp hnone).one
    have:=hx k hk
    rw [zo0 hk2] at this;cases this
  refine ⟨ρ',v,rfl,h.step T hR ⟨fun k k' b cc cc' hk hk'=>?_,fun k b cc hk hb=>?_,fun b hb=>Nat.lt_of_lt_of_le (h.rel.old b hb) t.size,fun k b cc hk=>?_,fun k o hk hρ=>?_⟩ (fun k e1 e2=>hc0 k (hnone k ⟨e1,e2⟩)) fun _ x hx=>hnn x fun k hk=>ze7 (hfr0 k hk) hx,hv.conv hown2 (hconv2 r hr)⟩
  ·by_cases e:look (up post) k=none<;>by_cases e':look (up post) k'=none
   ·rw [h2out k e] at hk;rw [h2out k' e'] at hk';exact h.rel.inj _ _ _ _ _ hk hk'
   ·rw [h2out k e] at hk;rw [h2in k' e'] at hk'
    exact absurd (.inr ⟨k,cc,hk,((hd k).1 e).1⟩) (hrel2.apart _ _ _ hk')
   ·rw [h2in k e] at hk;rw [h2out k' e'] at hk'
    exact absurd (.inr ⟨k',cc',hk',((hd k').1 e').1⟩) (hrel2.apart _ _ _ hk)
   rw [h2in k e] at hk;rw [h2in k' e'] at hk';exact hrel2.inj _ _ _ _ _ hk hk'
  ·by_cases e:look (up post) k=none
   ·rw [h2out k e] at hk;exact h.rel.apart _ _ _ hk hb
   rw [h2in k e] at hk;exact hrel2.apart _ _ _ hk (.inl hb)
  ·by_cases e:look (up post) k=none
   ·rw [h2out k e] at hk
    obtain ⟨o1,ho1,ho2⟩:=h.rel.obj k b cc hk
    refine ⟨o1,(hσout k e).trans ho1,ho2.keep T (t.blk b (h.rel.lt hk) fun k' cc' hk'=>?_) fun x ⟨cs,h3,h4⟩=>hnn x fun k hk=>by subst h3;exact z5d (z8t (hhp0 k hk) ho1) h4⟩
    obtain ⟨hne,hk2⟩:=h1 _ _ hk'
    obtain rfl:=h.rel.inj _ _ _ _ _ hk hk2
    exact absurd ((hd _).1 e).1 hne
   rw [h2in k e] at hk
   obtain ⟨o1,ho1,ho2⟩:=hrel2.obj k b cc hk
   refine ⟨o1,(hσin k e).trans ho1,ho2.conv hown2 fun x ⟨cs,h3,h4⟩=>hconv2 x ?_⟩
   subst h3
   exact z59 (z60 hpost (z15 ho1)) h4
  by_cases e:look (up post) k=none
  ·rw [hσout k e] at hk;rw [h2out k e] at hρ;exact h.rel.real k o hk hρ
  rw [hσin k e] at hk;rw [h2in k e] at hρ;exact hrel2.real k o hk hρ
theorem yc6 {ns:List Nat} {f:FuncId} {os:Array Operand} {tys:Array TypeId} {xs args:List IV} {pre post:List (Nat × HO)} {R:Nat->Prop} {r:IV} {hp:Hp} (hsc:SC P f args pre R r post) (hf:z0d P f)
    (ho:o.op = .call { callee:=.value (.func f),args:=os,argTypes:=tys }) (hx:evs fr os.toList=some xs) (hs:Subs (look hp) xs args) (hpre:∀ k o,look (up pre) k=some o->look hp k=some o) (hdom:post.map (·.1)=ns++pre.map (·.1)) (hσ0:∀ k∈ns,look hp k=none) (hc0:∀ k∈ns,c.σ k=none) (hfr0:∀ k∈ns,nmFr k fr=false) (hhp0:∀ k∈ns,nmHp k hp=false)
    (hR:∀ k,c.R k->look (up pre) k=none∨R k) (hr:only (post.map (·.1)) r=true) (hpost:z2u (post.map (·.1)) post=true):Ok P c o fr (look hp) r (look (up post++hp)):=by
  intro ρ w a K Q h hK
  obtain ⟨fn,hfn,hname,hbody⟩:=hf
  have hargs:=hs _ _ _ _ (z8j h hx)
  have hrun:(execOp a.eval o).run P w = .ok (.enter f (os.toList.map a.eval).toArray) w:=by
    have hcall:(callFunc f (os.toList.map a.eval).toArray).run P w = .ok (.enter f (os.toList.map a.eval).toArray) w:=by
      unfold callFunc
      simp only [Sem.run_bind]
      show (Result.andThen (.ok P w) _)=_
      simp only [Result.andThen_ok,hfn,hname,hbody]
      rfl
    simp only [execOp,ho,resolve,Act.eval,Deferred.ofValue,Sem.run_bind,Sem.run_pure,Result.andThen_ok,invoke]
    rw [<- hcall]
    congr 2
    apply Array.ext'
    simp
  unfold Oper.wp
  rw [hrun,Oper.upon_enter]
  refine (hsc.stepN h hargs hpre hdom hσ0 hc0 hfr0 hhp0 hR hr hpost).mono ?_
  rintro e w' ⟨ρ',v,rfl,h1,h2⟩
  exact hK ρ' w' v h1 h2
structure K5 (P:Program) (t:TypeId) (f0 f1 f2 f3 f4:Field):Prop where
  hu:P.underlying t=some (.struct #[f0,f1,f2,f3,f4])
  hs:P.stoodInHeld t=false
  t0:P.underlying f0.type=some (.int .i64)
  t1:P.underlying f1.type=some (.int .i64)
  t2:P.underlying f2.type=some (.int .i64)
  t3:P.underlying f3.type=some (.int .i64)
  t4:P.underlying f4.type=some (.int .i64)
  n0:f0.name ≠ "_"
  n1:f1.name ≠ "_"
  n2:f2.name ≠ "_"
  n3:f3.name ≠ "_"
  n4:f4.name ≠ "_"
  o0:f0.offset=0
  o1:f1.offset=1
  o2:f2.offset=2
  o3:f3.offset=3
  o4:f4.offset=4
section
variable {kt:TypeId} {f0 f1 f2 f3 f4:Field}
end
end
section
variable {P:Program} {c:Cx} {o:Oper} {fr:Fr} {hp:Hp}
theorem All.flatRow {ρ:Loc} {w:World} {a:Act} (h:All c ρ (look hp) w fr a) {x:Operand} {k n:Nat} {s:RT} {els:List (List PV)} (hx:fr.ev x=some (.sl k n)) (hk:look hp k=some (.row s els)) (hn:els.length=n) (hone:∀ el∈els,∀ x∈el,x.one=true) :
    FlatV (owned c.F ρ) w s.n els (a.eval x):=by
  rcases h.row hx hk hn with ⟨b,cc,r,u,hv,hρ,h3,h4,hc,hcm,hwe,hcells,hu⟩ | ⟨hv,hρ,hnil⟩
  ·have key:∀ q,q<els.length*s.n->∃ el x,els[q / s.n]? = some el/\el.length=s.n/\el[q % s.n]? = some x/\x.one=true:=fun q hq=>by
     obtain ⟨h1,h2,h3⟩:=y0d hq
     have he:=hwe _ (List.getElem_mem h1)
     exact ⟨els[q / s.n],els[q / s.n][q % s.n]'oM0,List.getElem?_eq_getElem h1,he,List.getElem?_eq_getElem _,hone _ (List.getElem_mem h1) _ (List.getElem_mem _)⟩
   refine ⟨some ⟨b,0,none⟩,cc,u,by rw [hv,hn],fun _=>⟨_,rfl,fun j y hj=>?_⟩,fun y hy=>?_,hu⟩
   ·have hq:j<els.length*s.n:=by have:=(List.getElem?_eq_some_iff.1 hj).1;simpa using this
    obtain ⟨el,x,h1,h2,h5,_⟩:=key j hq
    have hy:y=u (j / s.n) (j % s.n):=by simpa [hq] using hj.symm
    have:=hcells _ el h1 _ x h5
    rw [Addr.add_mid,hy,z4l h3,Nat.zero_add,<- this,(y0d hq).2.2]
   obtain ⟨q,hq,rfl⟩:=List.mem_map.1 hy
   obtain ⟨el,x,h1,h2,h5,h6⟩:=key q (by simpa using hq)
   exact (hu _ el h1 _ x h5).one h6
  subst hnil
  exact ⟨none,0,fun _ _=>undef,by simpa using hv,fun hne=>absurd rfl hne,fun y hy=>by simp at hy,fun i el hi=>by simp at hi⟩
theorem z5r {t:TypeId} {x y:Operand} {k n k2 n2 by_:Nat} {s:RT} {els news:List (List PV)} (ho:o.op = .call { callee:=.builtin .append,args:=#[x,y],argTypes:=#[t,t] }) (hx:fr.ev x=some (.sl k n)) (hy:fr.ev y=some (.sl k2 n2))
    (hk:look hp k=some (.row s els)) (hn:els.length=n) (hk2:look hp k2=some (.row s news)) (hn2:news.length=n2) (hR:¬ c.R k) (ht:P.underlying t=some (.slice s.e)) (hi:(P.info? s.e).map (fun i=>(i.size,i.bytes,(i.zero.map fun z=>z.cells.size)))=some (s.n,by_,some s.n)) (hs:0<s.n)
    (hw:∀ el∈news,el.length=s.n) (hone:∀ el∈news,∀ x∈el,x.one=true) (hmax:n+news.length<=maxLen) (hb:(n+news.length)*by_<=140737488355328) :
    Ok P c o fr (look hp) (.sl k (n+news.length)) (look ((k,some (.row s (els++news)))::hp)) :=
  za1 ho hx (fun ρ w a h=>h.flatRow hy hk2 hn2 hone) hk hn hR ht hi hs hw hmax hb
theorem za0 {t e:TypeId} {len s:Nat} {parts:Array (Nat × Operand)} {xs:List (Nat × IV)} {z:Value} {out:List IV} {ρ:Loc} {w:World} {a:Act} (h:All c ρ (look hp) w fr a) (ho:o.op = .buildSlice t len parts) (hx:z3w fr parts.toList=some xs)
    (hu:P.underlying t=some (.slice e)) (hz:((P.info? e).bind (·.zero))=some z) (hs:(P.info? e).map (·.size)=some s) (hzs:z.cells.size=s) (hpos:Nat.ble 1 s=true) (hsmall:Nat.ble (len*s) (2 ^ 24)=true)
    (hf:z55 (fun i=>some (i*s,s)) (zc1 z len) xs=some out) (hfirm:z42 (look hp) xs) :
    ∃ vs,z5m c.F ρ (look hp) w out vs/\out.length=len*s/\(execOp a.eval o).run P w = .ok (.value (.slice (some ⟨w.heap.size,0,none⟩) len len)) (w.alloc (.cells vs e)):=by
  have hpos':0<s:=Nat.le_of_ble_eq_true hpos
  have hsmall':=Nat.le_of_ble_eq_true hsmall
  have hzv:(zeroValue e).run P w = .ok z w:=by
    cases hq:P.info? e with
    | none=>simp [hq] at hz
    | some i=>simp [hq] at hz;simp [zeroValue,typeInfo,hq,hz]
  obtain ⟨hl,hv⟩:=z66 h hx
  obtain ⟨hrl,hrg⟩:=zt4 (z:=z) oM0 len
  have hrep:z5m c.F ρ (look hp) w (zc1 z len) ((Array.range (len*s)).map (z.cells[· % z.cells.size]!)):=by
    refine ⟨by simp [hrl,hzs],fun j x hj=>?_⟩
    have hjl:j<len*s:=by have:=(List.getElem?_eq_some_iff.1 hj).1;rw [hrl,hzs] at this;exact this
    rw [hrg j x hj]
    exact ⟨_,by simp [hjl],z32 _⟩
  have hlenfill:out.length=len*s:=by
    have:∀ (ps:List (Nat × IV)) (cs out:List IV),z55 (fun i=>some (i*s,s)) cs ps=some out->out.length=cs.length:=by
      intro ps
      induction ps with
      | nil=>intro cs out h;cases h;rfl
      | cons p r ih =>
        intro cs out h
        simp only [z55] at h
        cases hc:Nat.beq (z71 p.2).length s&&Nat.ble (p.1*s+s) cs.length with
        | false=>rw [hc] at h;cases h
        | true =>
          rw [hc] at h
          simp only [Bool.and_eq_true] at hc
          have h1:=Nat.eq_of_beq_eq_true hc.1
          have h2:=Nat.le_of_ble_eq_true hc.2
          rw [ih _ _ h,z8y oM0]
    rw [this _ _ _ hf,hrl,hzs]
  obtain ⟨vs,h1,h2⟩:=zd2 hrep hl (fun j i x hj=>by
    obtain ⟨v,h3,h4⟩:=hv j i x hj
    exact ⟨v,h3,h4,hfirm _ (List.mem_of_getElem? hj)⟩) hf
  have hparts:(parts.map fun (i,x)=>(i,a.eval x)).toList=parts.toList.map fun p=>(p.1,a.eval p.2):=by simp
  have hrun:(execOp a.eval o).run P w = .ok (.value (.slice (some ⟨w.heap.size,0,none⟩) len len)) (w.alloc (.cells vs e)):=by
    have hnr:(newRow e vs).run P w = .ok ⟨w.heap.size,0,none⟩ (w.alloc (.cells vs e)):=rfl
    simp only [execOp,ho,Instr.buildSlice,Sem.run_bind,run_underlying hu,z1q hs,Result.andThen_ok]
    rw [if_neg oM0]
    by_cases h0:len*s=0
    ·have h1':Instr.fill (fun i=>some (i*s,s)) ((Array.range (len*s)).map ((#[]:Array Value)[· % (#[]:Array Value).size]!)) (List.map (fun p=>(p.fst,a.eval p.snd)) parts.toList)=some vs:=by
       have e1:∀ f:Nat->Value,(Array.range (len*s)).map f = #[]:=fun f=>by rw [h0];simp
       rw [e1] at h1 ⊢
       exact h1
     simp only [if_pos h0,Sem.run_bind,Sem.run_pure,Result.andThen_ok,hparts]
     rw [h1']
     simp only [Sem.run_bind,hnr,Result.andThen_ok]
     rfl
    simp only [if_neg h0,Sem.run_bind,Sem.run_pure,Result.andThen_ok,hzv,hparts]
    rw [h1]
    simp only [Sem.run_bind,hnr,Result.andThen_ok]
    rfl
  exact ⟨vs,h2,hlenfill,hrun⟩
theorem z89 {k:Nat} {t e:TypeId} {len s:Nat} {parts:Array (Nat × Operand)} {xs:List (Nat × IV)} {z:Value} {out:List IV} {ps:List PV} (ho:o.op = .buildSlice t len parts) (hx:z3w fr parts.toList=some xs)
    (hu:P.underlying t=some (.slice e)) (hz:((P.info? e).bind (·.zero))=some z) (hs:(P.info? e).map (·.size)=some s) (hzs:z.cells.size=s) (hpos:Nat.ble 1 s=true) (hsmall:Nat.ble (len*s) (2 ^ 24)=true)
    (hf:z55 (fun i=>some (i*s,s)) (zc1 z len) xs=some out) (hfirm:z42 (look hp) xs) (hps:z6g out=some ps) (hσ:look hp k=none) (hc:c.σ k=none) (hfr:nmFr k fr=false) (hhp:nmHp k hp=false) :
    Ok P c o fr (look hp) (.sl k len) (look ((k,some (.row ⟨e,s⟩ (z07 s len ps)))::hp)):=by
  intro ρ w a K Q h hK
  have hpos':0<s:=Nat.le_of_ble_eq_true hpos
  have hsmall':=Nat.le_of_ble_eq_true hsmall
  obtain ⟨vs,h2,hlenfill,hrun⟩:=za0 h ho hx hu hz hs hzs hpos hsmall hf hfirm
  unfold Oper.wp
  rw [hrun]
  obtain ⟨hpl,hpg⟩:=z7d hps
  have hel:∀ i el,(z07 s len ps)[i]? = some el->el.length=s/\∀ j x,el[j]? = some x->ps[i*s+j]? = some x:=fun i el hi=>zh5 s len ps i el hi oM0
  have hcl:=z5n s len ps
  have hlm:len<=maxLen:=by simp only [maxLen];have:len<=len*s:=Nat.le_mul_of_pos_right _ hpos';omega
  refine hK (z1r ρ k (some (w.heap.size,len))) _ _ (h.alloc hσ hc hfr hhp len _ _ fun _ keep=>?_) (.sl _ _ _ fun s' els' h'=>?_)
  ·refine .row ⟨e,s⟩ _ vs (fun i j=>vs.getD (i*s+j) undef) (z3b w _) (by have:=h2.1;simp only;omega) oM0 hlm (fun el hel'=>?_) (fun i el hi j x hj=>?_) fun i el hi j x hj=>?_
   ·obtain ⟨i,hi⟩:=List.getElem?_of_mem hel'
    exact (hel i el hi).1
   ·obtain ⟨h5,h6⟩:=hel i el hi
    obtain ⟨v,h7,_⟩:=h2.2 _ _ (hpg _ _ (h6 j x hj))
    simp [Array.getD_eq_getD_getElem?,h7]
   obtain ⟨h5,h6⟩:=hel i el hi
   obtain ⟨v,h7,h8⟩:=h2.2 _ _ (hpg _ _ (h6 j x hj))
   simp only [Array.getD_eq_getD_getElem?,h7,Option.getD_some]
   cases h8 with
   | pv _ _ h8=>exact keep _ _ h8
  rw [z38] at h';cases h'
  exact ⟨by omega,fun _=>.inl ⟨w.heap.size,len,z0f,rfl⟩⟩
def nilP:PV->PV
  | .val (.slice none 0 0)=>.seq []
  | x=>x
theorem nilP_sub (x:PV):PSub x (nilP x):=by
  unfold nilP
  split
  ·exact PSub.nil
  exact PSub.refl _
theorem y2p:∀ cs:List PV,PSubs cs (cs.map nilP)
  | []=>trivial
  | x::r=>⟨nilP_sub x,y2p r⟩
theorem z14 (cs:List PV):PSub (.agg cs) (.agg (cs.map nilP)):=PSub.agg (y2p cs)
end
section
variable {P:Program} {c:Cx} {R1:Nat->Prop} {o:Oper} {fr:Fr} {hp:Hp} {σ:Heap'} {Q:Exit->Fr->Heap'->Prop}
theorem All.bs {ρ:Loc} {w:World} {a:Act} (h:All c ρ (look hp) w fr a) {x:Operand} {k n:Nat} {cs:List IV} (hx:fr.ev x=some (.bs k n)) (hk:look hp k=some (.box cs)) :
    ∃ (b cc cap:Nat) (e:TypeId) (r:Array Value) (u:Nat->Value),a.eval x = .slice (some ⟨b,0,none⟩) n cap/\n<=cap/\cap<=maxLen /\ ρ k=some (b,cc)/\w.heap[b]? = some (.cells r e (0,0))/\cs.length<=r.size/\(∀ j x,cs[j]? = some x->r[j]? = some (u j))/\∀ j x,cs[j]? = some x->RepI c.F ρ (look hp) w x (u j):=by
  have hr:=h.ev hx
  generalize hv:a.eval x=v at hr
  cases hr with
  | bs _ _ _ hh =>
    obtain ⟨b,cc,hρ,cap,h8,h9,rfl⟩:=hh cs hk
    obtain ⟨o1,h1,h2⟩:=h.rel.obj k b cc hρ
    rw [hk] at h1;cases h1
    obtain ⟨e,r,u,h3,h4,h5,h6⟩:=h2.inv_box
    exact ⟨b,cc,cap,e,r,u,rfl,h8,h9,hρ,h3,h4,h5,h6⟩
theorem y4u {t e:TypeId} {x y:Operand} {k n i:Nat} {m:Int} {kk:IntKind} {cs:List IV} (ho:o.op = .indexAddr t x y) (hx:fr.ev x=some (.bs k n)) (hy:fr.ev y=some (.pv (.val (.int kk m)))) (hk:look hp k=some (.box cs))
    (hu:P.underlying t=some (.slice e)) (he:(P.info? e).map (·.size)=some 1) (hi:i<n) (hm:m=i):OkV P c R1 o fr (look hp) (.ptr k i):=by
  subst hm
  intro ρ w a h
  obtain ⟨b,cc,cap,e',r,u,hv,_,_,hρ,_⟩:=h.bs hx hk
  refine ⟨.pointer (some ⟨b,i,none⟩),fun w2 _=>?_,.ptr _ _ _ fun cs' h'=>⟨b,cc,hρ,rfl⟩⟩
  simp [execOp,ho,hv,z0w h hy,Instr.indexAt,Sem.run_bind,asIntOf,run_underlying hu,hi,z1q he,Addr.add_mid]
theorem zs0 {k:Nat} {t e:TypeId} {len s:Nat} {parts:Array (Nat × Operand)} {xs:List (Nat × IV)} {z:Value} {out:List IV} (ho:o.op = .buildSlice t len parts) (hx:z3w fr parts.toList=some xs)
    (hu:P.underlying t=some (.slice e)) (hz:((P.info? e).bind (·.zero))=some z) (hs:(P.info? e).map (·.size)=some s) (hzs:z.cells.size=s) (hpos:Nat.ble 1 s=true) (hsmall:Nat.ble (len*s) (2 ^ 24)=true)
    (hf:z55 (fun i=>some (i*s,s)) (zc1 z len) xs=some out) (hfirm:z42 (look hp) xs) (hn:nm.nms k out=false) (hσ:look hp k=none) (hc:c.σ k=none) (hfr:nmFr k fr=false) (hhp:nmHp k hp=false) :
    Ok P c o fr (look hp) (.bs k len) (look ((k,some (.box out))::hp)):=by
  intro ρ w a K Q h hK
  have hpos':0<s:=Nat.le_of_ble_eq_true hpos
  have hsmall':=Nat.le_of_ble_eq_true hsmall
  obtain ⟨vs,h2,hlenfill,hrun⟩:=za0 h ho hx hu hz hs hzs hpos hsmall hf hfirm
  unfold Oper.wp
  rw [hrun]
  have hlm:len<=maxLen:=by simp only [maxLen];have:len<=len*s:=Nat.le_mul_of_pos_right _ hpos';omega
  refine hK (z1r ρ k (some (w.heap.size,len))) _ _ (h.alloc hσ hc hfr hhp len _ _ fun keep _=>?_) (.bs _ _ _ fun cs' h'=>⟨w.heap.size,len,z0f,len,Nat.le_refl _,hlm,rfl⟩)
  refine .box _ e vs (fun j=>vs.getD j undef) (z3b w _) (Nat.le_of_eq h2.1.symm) (fun j x hj=>?_) fun j x hj=>?_
  ·obtain ⟨v,h7,_⟩:=h2.2 _ _ hj
   simp [Array.getD_eq_getD_getElem?,h7]
  obtain ⟨v,h7,h8⟩:=h2.2 _ _ hj
  simp only [Array.getD_eq_getD_getElem?,h7,Option.getD_some]
  exact keep _ _ h8 (z5d hn (List.mem_of_getElem? hj))
theorem y2v {t:TypeId} {x y:Operand} {k k2 n by_:Nat} {e:TypeId} {cs:List IV} (ho:o.op = .call { callee:=.builtin .append,args:=#[x,y],argTypes:=#[t,t] }) (hx:fr.ev x=some (.pv (.val (.slice none 0 0)))) (hy:fr.ev y=some (.bs k2 n)) (hk2:look hp k2=some (.box cs)) (hn:cs.length=n) (h0:0<n)
    (ht:P.underlying t=some (.slice e)) (hi:(P.info? e).map (fun i=>(i.size,i.bytes,(i.zero.map fun z=>z.cells.size)))=some (1,by_,some 1)) (hmax:n<=maxLen) (hb:n*by_<=140737488355328) (hnm:nm.nms k cs=false)
    (hσ:look hp k=none) (hc:c.σ k=none) (hfr:nmFr k fr=false) (hhp:nmHp k hp=false) :
    Ok P c o fr (look hp) (.bs k n) (look ((k,some (.box cs))::hp)):=by
  intro ρ w a K Q h hK
  cases hq:P.info? e with
  | none=>simp [hq] at hi
  | some i =>
    have hsz:i.size=1:=by simp [hq] at hi;exact hi.1
    have hby:i.bytes=by_:=by simp [hq] at hi;exact hi.2.1
    obtain ⟨z,hz,hzs⟩:∃ z,i.zero=some z/\z.cells.size=1:=by simp [hq] at hi;exact hi.2.2
    simp only [maxLen] at hmax
    obtain ⟨b,cc,cap,e',r,u,hv,_,_,hρ,hbk,hlen,hcell,hrep⟩:=h.drew.bs hy hk2
    have hge:=grownCap_ge w n 0 e
    have hcm:=grownCap_le_maxLen w n 0 e (by simp only [maxLen];omega)
    have hL:((List.range n).map u).length=n*i.size:=by simp [hsz]
    have hcl:∀ j y,((List.range n).map u)[j]? = some y->w.cell? ((⟨b,0,none⟩:Addr).add j)=some y:=fun j y hj=>by
      rw [Addr.add_mid,Nat.zero_add,z4l (w:=w) hbk]
      have hj':j<n:=by have:=(List.getElem?_eq_some_iff.1 hj).1;simpa using this
      have e1:u j=y:=by simpa [hj'] using hj
      have h5:cs[j]? = some (cs[j]'oM0):=List.getElem?_eq_getElem oM0
      rw [hcell j _ h5,e1]
    have hr:=run_append_nil (P:=P) w t o.type e i z ht hq hz ⟨b,0,none⟩ n cap _ hL hcl h0 oM0 (by rw [hby];omega)
    refine Lib.wp_append_run w x y t t ho _ _ (z0w h hx) hv _ _ hr ?_
    refine hK (z1r ρ k (some (w.heap.size,grownCap w n 0 e))) _ _ (h.drew.alloc hσ hc hfr hhp (grownCap w n 0 e) _ _ fun keep _=>?_) (.bs _ _ _ fun cs' h'=>⟨w.heap.size,_,z0f,_,hge,hcm,rfl⟩)
    refine .box _ e _ u (z3b _ _) (by simp;omega) (fun j x hj=>?_) fun j x hj=>keep _ _ (hrep j x hj) (z5d hnm (List.mem_of_getElem? hj))
    have hj':j<n:=by have:=(List.getElem?_eq_some_iff.1 hj).1;omega
    rw [Array.getElem?_append_left (by simpa using hj')]
    simp [hj']
theorem y0t {t:TypeId} {x y:Operand} {n by_:Nat} {s:RT} {z:Value} {σ:Heap'} (ho:o.op = .makeSlice t x y) (hx:fr.ev x=some (.pv (.val (.int .i64 n)))) (hy:fr.ev y=some (.pv (.val (.int .i64 n))))
    (hu:P.underlying t=some (.slice s.e)) (hz:((P.info? s.e).bind (·.zero))=some z) (hi:(P.info? s.e).map (fun i=>(i.size,i.bytes))=some (s.n,by_)) (hzs:z.cells.size=s.n) (hpos:0<s.n) (hn:n<2 ^ 63) (hb:by_*n<=281474976710656) :
    Ok P c o fr σ (.pv (.seq (List.replicate n (z.cells.toList.map .val)))) σ:=by
  intro ρ w a K Q h hK
  cases hq:P.info? s.e with
  | none=>simp [hq] at hi
  | some i =>
    have hsz:i.size=s.n:=by simp [hq] at hi;exact hi.1
    have hby:i.bytes=by_:=by simp [hq] at hi;exact hi.2
    have hiz:i.zero=some z:=by simpa [hq] using hz
    have hwrap:IntKind.i64.wrap (n:Int)=n:=IntWalk.i64_in _ oM0
    have hrun:(execOp a.eval o).run P w = .ok (.value (.slice (some ⟨w.heap.size,0,none⟩) n n)) (w.alloc (.cells ((Array.range (n*s.n)).map (z.cells[· % z.cells.size]!)) s.e)):=by
      have hnr:∀ r,(newRow s.e r).run P w = .ok ⟨w.heap.size,0,none⟩ (w.alloc (.cells r s.e)):=fun _=>rfl
      have hti:(typeInfo s.e).run P w = .ok i w:=by simp [typeInfo,hq]
      have hso:(sizeOf s.e).run P w = .ok s.n w:=z1q (by simp [hq,hsz]) w
      have hzv:(zeroValue s.e).run P w = .ok z w:=by simp [zeroValue,typeInfo,hq,hiz]
      have h2:(by_:Int)*n<=281474976710656:=by
        have:((by_*n:Nat):Int)<=281474976710656:=by omega
        rwa [Int.natCast_mul] at this
      simp only [execOp,ho,Instr.makeSlice,Sem.run_bind,run_underlying hu,Result.andThen_ok,z0w h hx,z0w h hy,asInt,asIntOf,Sem.run_pure,hti,hwrap,hby]
      rw [if_neg (by simpa using h2)]
      simp only [Sem.run_bind,zt6,Result.andThen_ok,hso,Int.toNat_natCast]
      by_cases h0:n*s.n=0
      ·rw [if_pos h0]
       simp only [Sem.run_bind,Sem.run_pure,Result.andThen_ok,hnr]
       have e1:∀ f g:Nat->Value,(Array.range (n*s.n)).map f=(Array.range (n*s.n)).map g:=fun f g=>by rw [h0];simp
       rw [e1 _ (z.cells[· % z.cells.size]!)]
      rw [if_neg h0]
      simp only [Sem.run_bind,Sem.run_pure,Result.andThen_ok,hzv,hnr]
    unfold Oper.wp
    rw [hrun]
    obtain ⟨h3,keep⟩:=h.push (.cells ((Array.range (n*s.n)).map (z.cells[· % z.cells.size]!)) s.e)
    refine hK ρ _ _ h3 (.pv _ _ ?_)
    have hll:(List.replicate n (z.cells.toList.map PV.val)).length=n:=by simp
    have hbig:by_*n<=281474976710656:=hb
    have:RepP (owned c.F ρ) (w.alloc (.cells ((Array.range (n*s.n)).map (z.cells[· % z.cells.size]!)) s.e)) (.seq (List.replicate n (z.cells.toList.map .val))) (.slice (some ⟨w.heap.size,0,none⟩) (List.replicate n (z.cells.toList.map PV.val)).length n):=by
      refine .seq _ _ n w.heap.size 0 (fun _ j=>z.cells[j]!) (fun _=>rfl) (fun _=>⟨h.fresh,by simp⟩) sI0 (by simp only [maxLen];omega) (fun i el hi j x hj=>?_) fun i el hi j x hj=>?_
      ·have hel:=List.eq_of_mem_replicate (List.mem_of_getElem? hi)
       have hin:i<n:=by have:=(List.getElem?_eq_some_iff.1 hi).1;simpa using this
       subst hel
       have hjs:j<s.n:=by have:=(List.getElem?_eq_some_iff.1 hj).1;simp [hzs] at this;exact this
       have hlt:i*s.n+j<n*s.n:=by
         have:(i+1)*s.n<=n*s.n:=Nat.mul_le_mul_right _ oM0
         rw [Nat.add_mul] at this;omega
       rw [z4l (z3b w _)]
       simp [hlt,hzs,Nat.mod_eq_of_lt hjs]
      have hel:=List.eq_of_mem_replicate (List.mem_of_getElem? hi)
      subst hel
      simp only [List.getElem?_map,Option.map_eq_some_iff,Array.getElem?_toList] at hj
      obtain ⟨v,hv,rfl⟩:=hj
      have:z.cells[j]! = v:=by
        have hlt:=(Array.getElem?_eq_some_iff.1 hv).1
        simp [hlt] at hv ⊢
        exact hv
      rw [this]
      exact .val v
    rwa [hll] at this
end
section
variable {P:Program} {o:Oper} {fr fr2:Fr} {hp hp2:Hp} {Rl:List Nat}
inductive TI where
  | int (k:IntKind)
  | bool
  | str
  | slice (e:Nat)
  | struct (fs:List (Nat × Nat))
  | arr (len e:Nat)
  | map (k e:Nat)
  | one
inductive ZV where
  | int (k:IntKind)
  | bool
  | str
  | slice
  | map
  | ptr
  | fn
  | iface
def ZV.val:ZV->Value
  | .int k=>.int k 0
  | .bool=>.bool false
  | .str=>.string ⟨#[]⟩
  | .slice=>.slice none 0 0
  | .map=>.map none
  | .ptr=>.pointer none
  | .fn=>.nilFunc
  | .iface=>.nilIface
def ZV.isB:ZV->Value->Bool
  | .int k,.int k' n=>k'==k&&n==0
  | .bool,.bool b=>!b
  | .str,.string s=>s.data.isEmpty
  | .slice,.slice none 0 0=>true
  | .map,.map none=>true
  | .ptr,.pointer none=>true
  | .fn,.nilFunc=>true
  | .iface,.nilIface=>true
  | _,_=>false
theorem ZV.isB_ok {z:ZV} {v:Value} (h:z.isB v=true):v=z.val:=by
  unfold ZV.isB at h
  split at h
  · simp only [Bool.and_eq_true,beq_iff_eq] at h;simp [ZV.val,h.1,h.2]
  · simp only [Bool.not_eq_true'] at h;subst h;rfl
  · rename_i s
    have:s.data = #[]:=by simpa using h
    cases s;simp_all [ZV.val]
  all_goals first | rfl | cases h
structure TE where
  i:TI
  n:Nat
  b:Nat
  z:List ZV
def TI.row:TI->Bool
  | .struct _=>true
  | .arr ..=>true
  | _=>false
def TI.is:TI->TypeDesc->Prop
  | .int k,d=>d = .int k
  | .bool,d=>d = .bool
  | .str,d=>d = .string
  | .slice e,d=>d = .slice e
  | .struct fs,d=>∃ a,d = .struct a/\a.toList.map (fun f=>(f.offset,f.type))=fs
  | .arr len e,d=>d = .array len e
  | .map k e,d=>d = .map k e
  | .one,d=>d.isRow=false
def TI.isB:TI->TypeDesc->Bool
  | .int k,.int k'=>k'==k
  | .bool,.bool=>true
  | .str,.string=>true
  | .slice e,.slice e'=>Nat.beq e' e
  | .struct fs,.struct a=>a.toList.map (fun f=>(f.offset,f.type))==fs
  | .arr len e,.array len' e'=>Nat.beq len' len&&Nat.beq e' e
  | .map k e,.map k' e'=>Nat.beq k' k&&Nat.beq e' e
  | .one,d=>!d.isRow
  | _,_=>false
theorem TI.isB_ok {i:TI} {d:TypeDesc} (h:i.isB d=true):i.is d:=by
  unfold TI.isB at h
  split at h
  · simp only [beq_iff_eq] at h;simp [TI.is,h]
  · rfl
  · rfl
  · simp [TI.is,Nat.eq_of_beq_eq_true h]
  · exact ⟨_,rfl,by simpa using h⟩
  · simp only [Bool.and_eq_true] at h;simp [TI.is,Nat.eq_of_beq_eq_true h.1,Nat.eq_of_beq_eq_true h.2]
  · simp only [Bool.and_eq_true] at h;simp [TI.is,Nat.eq_of_beq_eq_true h.1,Nat.eq_of_beq_eq_true h.2]
  · simpa [TI.is] using h
  · cases h
theorem TI.is_row {i:TI} {d:TypeDesc} (h:i.is d):d.isRow=i.row:=by
  cases i with
  | struct fs=>obtain ⟨a,rfl,_⟩:=h;rfl
  | one=>exact h
  | _=>cases h;rfl
def zsB:List ZV->List Value->Bool
  | [],[]=>true
  | z::r,v::s=>z.isB v&&zsB r s
  | _,_=>false
theorem zsB_ok:∀ {l:List ZV} {m:List Value},zsB l m=true->m=l.map ZV.val
  | [],[],_=>rfl
  | z::r,v::s,h=>by
    simp only [zsB,Bool.and_eq_true] at h
    rw [ZV.isB_ok h.1,zsB_ok h.2];rfl
def TE.zv (e:TE):Value:=match e.i.row with
  | true=>.agg (e.z.map ZV.val).toArray
  | false=>(e.z.headD .bool).val
def TE.zB (e:TE) (v:Value):Bool:=match e.i.row with
  | true=>match v with
    | .agg cs=>zsB e.z cs.toList
    | _=>false
  | false=>match e.z with
    | [z]=>z.isB v
    | _=>false
theorem TE.zB_ok {e:TE} {v:Value} (h:e.zB v=true):v=e.zv/\v.cells.toList=e.z.map ZV.val:=by
  unfold TE.zB at h
  unfold TE.zv
  split at h
  · rename_i hr
    split at h
    · rename_i cs
      have:=zsB_ok h
      exact ⟨by simp [<- this],this⟩
    · cases h
  · rename_i hr
    split at h
    · rename_i z hz
      obtain rfl:=ZV.isB_ok h
      rw [hz]
      exact ⟨rfl,by cases z<;>rfl⟩
    · cases h
def teB (P:Program) (t:Nat) (e:TE):Bool :=
  (match P.underlying t with
    | some d=>e.i.isB d
    | none=>false) &&
  (match P.info? t with
    | some i=>Nat.beq i.size e.n&&Nat.beq i.bytes e.b&&(match e.z with
      | []=>true
      | _=>Nat.beq e.z.length e.n&&(match i.zero with
        | some z=>e.zB z
        | none=>false))
    | none=>false)
section
variable {t:Nat} {e:TE}
theorem z47 (h:teB P t e=true):∃ d,P.underlying t=some d/\e.i.is d:=by
  unfold teB at h
  simp only [Bool.and_eq_true] at h
  replace h:=h.1
  split at h
  · rename_i d hd;exact ⟨d,hd,TI.isB_ok h⟩
  · cases h
theorem zv0 (h:teB P t e=true):∃ i,P.info? t=some i/\i.size=e.n/\i.bytes=e.b/\(e.z≠[]->e.z.length=e.n/\i.zero=some e.zv/\e.zv.cells.toList=e.z.map ZV.val):=by
  unfold teB at h
  simp only [Bool.and_eq_true] at h
  replace h:=h.2
  split at h
  · rename_i i hi
    simp only [Bool.and_eq_true] at h
    refine ⟨i,hi,Nat.eq_of_beq_eq_true h.1.1,Nat.eq_of_beq_eq_true h.1.2,fun hz=>?_⟩
    have h2:=h.2
    split at h2
    · rename_i h0;exact absurd h0 hz
    · simp only [Bool.and_eq_true] at h2
      have h3:=h2.2
      split at h3
      · rename_i z hz
        obtain ⟨rfl,h4⟩:=TE.zB_ok h3
        exact ⟨Nat.eq_of_beq_eq_true h2.1,hz,h4⟩
      · cases h3
  · cases h
theorem z2h (h:teB P t e=true):(P.info? t).map (·.size)=some e.n:=by
  obtain ⟨i,hi,h1,_⟩:=zv0 h
  simp [hi,h1]
theorem te_by (h:teB P t e=true):(P.info? t).map (fun i=>(i.size,i.bytes))=some (e.n,e.b):=by
  obtain ⟨i,hi,h1,h2,_⟩:=zv0 h
  simp [hi,h1,h2]
theorem z6m (h:teB P t e=true) (hz:e.z≠[]):(P.info? t).bind (·.zero)=some e.zv:=by
  obtain ⟨i,hi,_,_,h2⟩:=zv0 h
  simp [hi,(h2 hz).2.1]
theorem z53 (h:teB P t e=true) (hz:e.z≠[]):e.zv.cells.toList=e.z.map ZV.val/\e.zv.cells.size=e.n:=by
  obtain ⟨i,hi,_,_,h2⟩:=zv0 h
  refine ⟨(h2 hz).2.2,?_⟩
  rw [<- Array.length_toList,(h2 hz).2.2,List.length_map]
  exact (h2 hz).1
theorem te_app (h:teB P t e=true) (hz:e.z≠[]):(P.info? t).map (fun i=>(i.size,i.bytes,(i.zero.map fun z=>z.cells.size)))=some (e.n,e.b,some e.n):=by
  obtain ⟨i,hi,h1,h2,h3⟩:=zv0 h
  simp [hi,h1,h2,(h3 hz).2.1,(z53 h hz).2]
end
structure TB (P:Program) where
  ti:Nat->Option TE
  tok:∀ t e,ti t=some e->teB P t e=true
  fn:Nat->Bool
  fok:∀ f,fn f=true->z0d P f
  mx:P.follows .mixedOrders=true
def tFind:List (Nat × TE)->Nat->Option TE
  | [],_=>none
  | (k,e)::r,t=>match Nat.beq k t with
    | true=>some e
    | false=>tFind r t
def tAll (P:Program):List (Nat × TE)->Bool
  | []=>true
  | (k,e)::r=>teB P k e&&tAll P r
theorem y70:∀ {l:List (Nat × TE)} {t:Nat} {e:TE},tAll P l=true->tFind l t=some e->teB P t e=true
  | [],_,_,_,h=>by cases h
  | (k,e')::r,t,e,h1,h=>by
    simp only [tAll,Bool.and_eq_true] at h1
    simp only [tFind] at h
    split at h
    · rename_i hb
      obtain rfl:=Nat.eq_of_beq_eq_true hb
      cases h;exact h1.1
    · exact y70 h1.2 h
def entB (P:Program) (f:Nat):Bool:=match P.funcs[f]? with
  | some fn=>!(fn.name == "runtime.NumGoroutine") && !fn.body.isNone
  | none=>false
theorem entB_ok {f:Nat} (h:entB P f=true):z0d P f:=by
  unfold entB at h
  split at h
  · rename_i fn hf
    simp only [Bool.and_eq_true,Bool.not_eq_true'] at h
    exact ⟨fn,hf,h.1,h.2⟩
  · cases h
def nIn (k:Nat):List Nat->Bool
  | []=>false
  | j::r=>match Nat.beq j k with
    | true=>true
    | false=>nIn k r
theorem z4x {k:Nat}:∀ {l:List Nat},nIn k l=true↔k∈l
  | []=>by simp [nIn]
  | j::r=>by
    simp only [nIn,List.mem_cons]
    split
    · rename_i h;simp [Nat.eq_of_beq_eq_true h]
    · rename_i h
      have:k≠j:=fun e=>by subst e;simp at h
      simp [this,z4x]
theorem z2q {k:Nat} {l:List Nat} (h:nIn k l=false):k∉l:=fun hm=>by rw [z4x.2 hm] at h;cases h
def y23 (P:Program):List Nat->Bool
  | []=>true
  | f::r=>entB P f&&y23 P r
theorem y24 {f:Nat}:∀ {l:List Nat},y23 P l=true->nIn f l=true->z0d P f
  | [],_,h=>by cases h
  | g::r,h1,h=>by
    simp only [y23,Bool.and_eq_true] at h1
    simp only [nIn] at h
    split at h
    · rename_i hb;obtain rfl:=Nat.eq_of_beq_eq_true hb;exact entB_ok h1.1
    · exact y24 h1.2 h
def mkTB (P:Program) (l:List (Nat × TE)) (q:List Nat) (h:tAll P l=true) (h2:y23 P q=true) (mx:P.follows .mixedOrders=true):TB P where
  ti t:=tFind l t
  tok _ _ ht:=y70 h ht
  fn f:=nIn f q
  fok _ hf:=y24 h2 hf
  mx:=mx
structure Stp where
  x:IV
  wr:Hp
  rd:List Nat
  nw:List Nat
def agr (fr2 fr:Fr) (l:List Nat):Prop:=∀ t∈l,fr2.get t=fr.get t
def agh (hp2 hp:Hp) (l:List Nat):Prop:=∀ k∈l,look hp2 k=look hp k
def frsh (k:Nat) (fr:Fr) (hp:Hp):Bool:=match nmFr k fr with
  | true=>false
  | false=>match nmHp k hp with
    | true=>false
    | false=>match look hp k with
      | none=>true
      | some _=>false
theorem z3x {k:Nat} (h:frsh k fr hp=true):nmFr k fr=false/\nmHp k hp=false/\look hp k=none:=by
  unfold frsh at h
  split at h
  · cases h
  · rename_i h1
    split at h
    · cases h
    · rename_i h2
      split at h
      · rename_i h3;exact ⟨h1,h2,h3⟩
      · cases h
def yh8 (l:List Operand):List Nat:=l.flatMap fun
  | .tmp t=>[t]
  | _=>[]
def z17 (op:Op):List Nat:=yh8 op.operands.toList
theorem agr.evO {l:List Operand} (h:agr fr2 fr (yh8 l)) {y:Operand} (hy:y∈l):fr2.ev y=fr.ev y:=by
  cases y with
  | tmp t=>exact h t (List.mem_flatMap.2 ⟨.tmp t,hy,List.mem_singleton.2 rfl⟩)
  | _=>rfl
theorem agr.ev {op:Op} (h:agr fr2 fr (z17 op)) {y:Operand} {x:IV} (hx:fr.ev y=some x) (hy:y∈op.operands.toList):fr2.ev y=some x:=(h.evO hy).trans hx
theorem agr.evs {op:Op} (h:agr fr2 fr (z17 op)):∀ {os:List Operand} {xs:List IV},evs fr os=some xs->(∀ y∈os,y∈op.operands.toList)->evs fr2 os=some xs
  | [],xs,hx,_=>hx
  | y::r,xs,hx,hy=>by
    simp only [Go.Proofs.YtiflpehjefhnmaaGreat.evs] at hx ⊢
    split at hx
    · rename_i a b h1 h2
      rw [h.ev h1 (hy y (.head _)),h.evs h2 fun z hz=>hy z (.tail _ hz)]
      exact hx
    · cases hx
theorem agr.evParts {op:Op} (h:agr fr2 fr (z17 op)):∀ {ps:List (Nat × Operand)} {xs:List (Nat × IV)},z3w fr ps=some xs->(∀ y∈ps,y.2∈op.operands.toList)->z3w fr2 ps=some xs
  | [],xs,hx,_=>hx
  | (i,y)::r,xs,hx,hy=>by
    simp only [Go.Proofs.YtiflpehjefhnmaaGreat.z3w] at hx ⊢
    split at hx
    · rename_i a b h1 h2
      rw [h.ev h1 (hy (i,y) (.head _)),h.evParts h2 fun z hz=>hy z (.tail _ hz)]
      exact hx
    · cases hx
theorem agh.at {rd:List Nat} (h:agh hp2 hp rd) {k:Nat} {ob:Option HO} (hk:look hp k=ob) (hm:k∈rd):look hp2 k=ob:=(h k hm).trans hk
def OkF (P:Program) (Rl:List Nat) (o:Oper) (fr:Fr) (hp:Hp) (s:Stp):Prop :=
  ∀ (c:Cx) fr2 hp2,(∀ k,c.R k->k∈Rl)->(∀ k∈s.nw,c.σ k=none)->agr fr2 fr (z17 o.op)->agh hp2 hp s.rd->(∀ k∈s.nw,frsh k fr2 hp2=true)->Ok P c o fr2 (look hp2) s.x (look (s.wr++hp2))
theorem OkF.pure {x:IV} {rd:List Nat} (h:∀ (c:Cx) (R1:Nat->Prop) fr2 hp2,agr fr2 fr (z17 o.op)->agh hp2 hp rd->(∀ k∈rd,R1 k)->OkV P c R1 o fr2 (look hp2) x):OkF P Rl o fr hp ⟨x,[],rd,[]⟩ :=
  fun c fr2 hp2 _ _ ha hh _=>(h c (fun _=>True) fr2 hp2 ha hh fun _ _=>trivial).ok
inductive VAny (P:Program) (Rl:List Nat) (o:Oper) (fr:Fr) (hp:Hp) (K:Stp->Prop):Prop
  | mk {s:Stp} (h:OkF P Rl o fr hp s) (k:K s)
def Does (P:Program) (Rl:List Nat) (o:Oper) (fr:Fr) (hp:Hp) (K:Stp->Prop):Prop:=∃ s,K s/\OkF P Rl o fr hp s
def frcI:List IV->(List IV->Prop)->Prop
  | [],K=>K []
  | x::r,K=>frcI r fun l=>K (x::l)
theorem z5b:∀ {l:List IV} {K:List IV->Prop},frcI l K->K l
  | [],_,h=>h
  | _::r,K,h=>z5b (l:=r) (K:=fun l=>K (_::l)) h
def frcP:List PV->(List PV->Prop)->Prop
  | [],K=>K []
  | x::r,K=>frcP r fun l=>K (x::l)
theorem z70:∀ {l:List PV} {K:List PV->Prop},frcP l K->K l
  | [],_,h=>h
  | _::r,K,h=>z70 (l:=r) (K:=fun l=>K (_::l)) h
def bsel (b:Bool) (A B:Prop):Prop:=match b with
  | true=>A
  | false=>B
theorem z00 {b:Bool} {A B:Prop} (ht:b=true->A) (hf:b=false->B):bsel b A B:=by
  cases b with
  | true=>exact ht rfl
  | false=>exact hf rfl
def vev (fr:Fr) (y:Operand) (K:IV->Prop):Prop:=match fr.ev y with
  | some x=>K x
  | none=>False
theorem z1j {y:Operand} {K:IV->Prop} (h:vev fr y K):∃ x,fr.ev y=some x/\K x:=by
  unfold vev at h
  split at h
  · rename_i x hx;exact ⟨x,hx,h⟩
  · exact h.elim
def vti (T:TB P) (t:Nat) (K:TE->Prop):Prop:=match T.ti t with
  | some e=>K e
  | none=>False
theorem z23 {T:TB P} {t:Nat} {K:TE->Prop} (h:vti T t K):∃ e,teB P t e=true/\K e:=by
  unfold vti at h
  split at h
  · rename_i e he;exact ⟨e,T.tok _ _ he,h⟩
  · exact h.elim
def vbox (hp:Hp) (k:Nat) (K:List IV->Prop):Prop:=match look hp k with
  | some (.box cs)=>K cs
  | _=>False
theorem z4t {k:Nat} {K:List IV->Prop} (h:vbox hp k K):∃ cs,look hp k=some (.box cs)/\K cs:=by
  unfold vbox at h
  split at h
  · rename_i cs hk;exact ⟨cs,hk,h⟩
  · exact h.elim
def vrow (hp:Hp) (k:Nat) (K:RT->List (List PV)->Prop):Prop:=match look hp k with
  | some (.row s els)=>K s els
  | _=>False
theorem z6n {k:Nat} {K:RT->List (List PV)->Prop} (h:vrow hp k K):∃ s els,look hp k=some (.row s els)/\K s els:=by
  unfold vrow at h
  split at h
  · rename_i s els hk;exact ⟨s,els,hk,h⟩
  · exact h.elim
def vmap (hp:Hp) (k:Nat) (K:List (Value × PV)->Prop):Prop:=match look hp k with
  | some (.map es)=>K es
  | _=>False
theorem y1k {k:Nat} {K:List (Value × PV)->Prop} (h:vmap hp k K):∃ es,look hp k=some (.map es)/\K es:=by
  unfold vmap at h
  split at h
  · rename_i es hk;exact ⟨es,hk,h⟩
  · exact h.elim
def z2g (b:Bool) (A:Prop):Prop:=match b with
  | true=>A
  | false=>False
theorem z0j {b:Bool} {A:Prop} (h:z2g b A):b=true/\A:=by
  unfold z2g at h
  split at h
  · exact ⟨rfl,h⟩
  · exact h.elim
def vopt {α:Type} (x:Option α) (K:α -> Prop):Prop:=match x with
  | some a=>K a
  | none=>False
theorem z11 {α:Type} {x:Option α} {K:α -> Prop} (h:vopt x K):∃ a,x=some a/\K a:=by
  unfold vopt at h
  split at h
  · exact ⟨_,rfl,h⟩
  · exact h.elim
def ze5:IV->List Nat
  | .pv _=>[]
  | .ptr k _=>[k]
  | .sl k _=>[k]
  | .rpt k _ _=>[k]
  | .bs k _=>[k]
  | .mp k=>[k]
  | _=>[]
def y8w (hp:Hp) (z:IV) (A:Prop):Prop:=match z with
  | .pv p=>z2g p.one A
  | .ptr k _=>vbox hp k fun _=>A
  | .sl k n=>vrow hp k fun _ els=>els.length=n/\A
  | .bs k _=>vbox hp k fun _=>A
  | .mp k=>vmap hp k fun _=>A
  | .fn ..=>A
  | _=>False
theorem zo6 {z:IV} {A:Prop} (h:y8w hp z A):A/\∀ hp2,agh hp2 hp (ze5 z)->z.firm (look hp2):=by
  unfold y8w at h
  split at h
  · obtain ⟨h1,h2⟩:=z0j h;exact ⟨h2,fun _ _=>h1⟩
  · obtain ⟨cs,h1,h2⟩:=z4t h;exact ⟨h2,fun hp2 hh=>⟨cs,hh.at h1 (.head _)⟩⟩
  · obtain ⟨s,els,h1,h2,h3⟩:=z6n h;exact ⟨h3,fun hp2 hh=>⟨s,els,hh.at h1 (.head _),h2⟩⟩
  · obtain ⟨cs,h1,h2⟩:=z4t h;exact ⟨h2,fun hp2 hh=>⟨cs,hh.at h1 (.head _)⟩⟩
  · obtain ⟨cs,h1,h2⟩:=y1k h;exact ⟨h2,fun hp2 hh=>⟨cs,hh.at h1 (.head _)⟩⟩
  · exact ⟨h,fun _ _=>trivial⟩
  · exact h.elim
def yk9 (hp:Hp):List IV->Prop->Prop
  | [],A=>A
  | z::r,A=>y8w hp z (yk9 hp r A)
theorem y40:∀ {l:List IV} {A:Prop},yk9 hp l A->A/\∀ hp2,agh hp2 hp (l.flatMap ze5)->∀ z∈l,z.firm (look hp2)
  | [],A,h=>⟨h,fun _ _ z hz=>by cases hz⟩
  | z::r,A,h=>by
    obtain ⟨h1,h2⟩:=zo6 h
    obtain ⟨h3,h4⟩:=y40 h1
    refine ⟨h3,fun hp2 hh y hy=>?_⟩
    simp only [List.flatMap_cons] at hh
    rcases List.mem_cons.1 hy with rfl | hy
    · exact h2 hp2 fun k hk=>hh k (List.mem_append_left _ hk)
    · exact h4 hp2 (fun k hk=>hh k (List.mem_append_right _ hk)) y hy
end
end Go.Proofs.YtiflpehjefhnmaaGreat
